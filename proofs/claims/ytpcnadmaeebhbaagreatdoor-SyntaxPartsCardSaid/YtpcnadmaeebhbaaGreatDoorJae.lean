/- Part 5 of the proof: RfFlowS, RfFn, RfRun. -/
import Derived.KernelRfl
import Derived.Test.YtpcnadmaeebhbaaGreatDoorJad
set_option linter.unusedVariables false
set_option linter.unusedSimpArgs false
section
namespace Go.Rf
open Go.Ab
section
variable {up : Nat -> Ref} {R : Out -> List (Ref × List A) -> Prop}
theorem Ztm {c : Cfg} {op : Opt} {ops : Array Oper} {cl ds : List Nat} {mm : Nat} (hmm : mm <= ops.size) {C : Ctx} (hP : C.P = c.P) (hN : C.N = c.N) {Q : Ex -> St -> Prop} {K : Re -> RSt -> T} : ∀ {l : List Oper} {k n0 : Nat} {ρ0 ρ : Env} {σ0 σ : Sig} {m : Nm} {rs : RSt} {s : St},
 (∀ j, j < l.length -> l[j]? = ops[k + j]?) -> k + l.length = mm -> Zj5 c.P up R n0 ρ0 σ0 Q K -> Agr n0 ρ0 ρ -> n0 <= rs.nv -> m.up = up -> σ0 <+: σ -> rs.dep = σ.length -> Den ρ m rs s -> (Zhf c op ops cl ds mm K l k rs).den c.P up R ρ σ -> DP C ops cl ds mm Q l k s
 | [], k, n0, ρ0, ρ, σ0, σ, m, rs, s, _, hk, hK, ha, hnv, hu, hσ, hdep, hd, h => by
   unfold Zhf at h
   have := Zpn hP hN (l := ops.toList.drop mm) (k := mm) (fun j => by simp) hK ha hnv hu hσ hdep hd h
   have e : (ops.toList.drop mm).length = ops.size - mm := by simp
   rw [e] at this
   exact this
 | o :: l, k, n0, ρ0, ρ, σ0, σ, m, rs, s, hl, hk, hK, ha, hnv, hu, hσ, hdep, hd, h => by
   have h0 : ops[k]? = some o := by simpa using (hl 0 (by simp)).symm
   have hl' : ∀ j, j < l.length -> l[j]? = ops[k + 1 + j]? := fun j hj => by
    have := hl (j + 1) (by simpa using hj)
    simpa [Nat.add_assoc, Nat.add_comm 1 j] using this
   have hk' : k + 1 + l.length = mm := by simp at hk; omega
   unfold Zhf at h
   split at h
   ·rename_i d G looks hdst hG hlk
    have hwant := Zle hd hG
    have hsub := Zte hd hlk
    split at h
    ·rename_i hc
     have hsl := Zre hc.2 hsub
     have hlt := hc.1
     have ih : ∀ {ρ' : Env} {m' : Nm} {rs' : RSt} {s' : St}, Agr n0 ρ0 ρ' -> n0 <= rs'.nv -> m'.up = up -> rs'.dep = σ.length -> Den ρ' m' rs' s' -> (Zhf c op ops cl ds mm K l (k + 1) rs').den c.P up R ρ' σ -> DP C ops cl ds mm Q l (k + 1) s' :=
      fun h1 h2 h3 h4 h5 h6 => Ztm hmm hP hN hl' hk' hK h1 h2 h3 hσ h4 h5 h6
     have skip : ∀ {rs : RSt}, Den ρ m rs s -> n0 <= rs.nv -> rs.dep = σ.length -> (G.den ρ).bool = false -> (Zhf c op ops cl ds mm K l (k + 1) (rs.put d (.tup []))).den c.P up R ρ σ -> DP C ops cl ds mm Q (o :: l) k s := fun {rs} hd hnv hdep hb hk => by
      rw [hb] at hwant
      exact ⟨d, _, _, hdst, Zpa h0 hdst (by rw [hN]; exact hlt) hwant, hsl, ih ha (by rw [Zai]; exact hnv) hu (by rw [Zae]; exact hdep) (hd.put (by intro e; cases e) (.inr rfl)) hk⟩
     split at h
     ·rename_i hF
      exact skip hd hnv hdep (by rw [Zpk hF]; rfl) h
     ·split at h
      ·rename_i n v hr
       split at h
       ·rename_i hali
        obtain ⟨kn, h1, h2, h3⟩ := Za2 hd.known h
        cases hb : (G.den ρ).bool
        ·rw [hb] at hwant
         have hgT : G.isT = false := by
          cases ht : G.isT
          ·rfl
          ·rw [Zht ht] at hb; cases hb
         rw [hgT] at h3
         simp only [Bool.false_eq_true, if_false] at h3
         refine ⟨d, _, _, hdst, Zpa h0 hdst (by rw [hN]; exact hlt) hwant, hsl, ih ha (by rw [Zai]; exact hnv) hu (by rw [Zae]; exact hdep) ((hd.knew h1).put (x := .gv G v) hali (.inr (by simp [RA.den, hb]))) h3⟩
        ·rw [hb] at hwant
         obtain ⟨hq, hali2⟩ := Zes hd hb hr (h2 hb) (r := v) rfl
         refine ⟨d, _, _, hdst, Zmn h0 hdst (by rw [hN]; exact hlt) hwant (by rw [hP]; exact hq), hsl, ?_⟩
         cases ht : G.isT
         ·rw [ht] at h3
          simp only [Bool.false_eq_true, if_false] at h3
          exact ih ha (by rw [Zai]; exact hnv) hu (by rw [Zae]; exact hdep) ((hd.knew h1).put (x := .gv G v) hali (.inr (by simp [RA.den, hb]))) h3
         ·rw [ht] at h3
          simp only [if_true] at h3
          exact ih ha (by rw [Zai]; exact hnv) hu (by rw [Zae]; exact hdep) ((hd.knew h1).put hali (.inr rfl)) h3
       ·unfold T.den at h; exact h.elim
      ·rename_i n i' vs hr
       split at h
       ·rename_i ht
        obtain ⟨kn, h1, h2, h3⟩ := Za2 hd.known h
        obtain ⟨kk, v, rs1, hv, hi, hd1, e1, e2, h4⟩ := Zw0 (hd.knew h1) h3
        have hb : (G.den ρ).bool = true := by rw [Zht ht]; rfl
        rw [hb] at hwant
        obtain ⟨hq, hali⟩ := Zes hd hb hr (h2 rfl) (r := v) ⟨kk, by simpa using hi, hv⟩
        exact ⟨d, _, _, hdst, Zmn h0 hdst (by rw [hN]; exact hlt) hwant (by rw [hP]; exact hq), hsl, ih ha (by rw [Zai, e1]; exact hnv) hu (by rw [Zae, e2]; exact hdep) (hd1.put hali (.inr rfl)) h4⟩
       ·unfold T.den at h; exact h.elim
      ·split at h
       ·rename_i ht
        have hb : (G.den ρ).bool = true := by rw [Zht ht]; rfl
        rw [hb] at hwant
        split at h
        ·rename_i n cs hr
         split at h
         ·rename_i hcs
          obtain ⟨kn, h1, h2, h3⟩ := Za2 hd.known h
          have hA := Zoa hd hr (h2 rfl)
          refine ⟨d, _, _, hdst, Zx3 h0 hdst (by rw [hN]; exact hlt) hwant (by rw [hP]; exact hA), hsl, ?_⟩
          have hkd : kDen ρ m cs = kDen ρ (m.set d (s.gen d)) cs := List.map_congr_left fun x hx => by
           have := List.all_eq_true.1 hcs x hx
           simp only [Bool.and_eq_true, Bool.not_eq_true'] at this
           exact (RA.den_nm (m := m) (m' := m.set d (s.gen d)) rfl (fun t ht => by simp [Nm.set, ht]) this.1).symm
          exact ih (m' := m.set d (s.gen d)) ha (by rw [Zlc]; exact hnv) hu (by rw [Zi9]; exact hdep) ((hd.knew h1).alloc hkd) h3
         ·unfold T.den at h; exact h.elim
        ·split at h
         ·rename_i q hop
          obtain ⟨v, x, ρ', kn, h1, h2, h3, h4⟩ := Zpr hP hN h0 hdst hlt hop hwant hu hd h
          exact ⟨d, _, _, hdst, h2, hsl, ih (ha.trans h1 hnv) (by rw [Zai]; show n0 <= rs.nv + kn; omega) hu (by rw [Zae]; exact hdep) h3 h4⟩
         ·unfold T.den at h; exact h.elim
       ·split at h
        ·rename_i q hop
         unfold T.den at h
         cases hb : (G.den ρ).bool
         ·exact skip (hd.assume hb) (by rw [(Zaj rs G false).1]; exact hnv) (by rw [(Zaj rs G false).2]; exact hdep) hb (h.2 hb)
         ·rw [hb] at hwant
          obtain ⟨v, x, ρ', kn, h1, h2, h3, h4⟩ := Zpr hP hN h0 hdst hlt hop hwant hu (hd.assume hb) (h.1 hb)
          rw [(Zaj rs G true).1] at h1
          exact ⟨d, _, _, hdst, h2, hsl, ih (ha.trans h1 hnv) (by rw [Zai]; show n0 <= (rs.assume G true).nv + kn; rw [(Zaj rs G true).1]; omega) hu (by rw [Zae]; show (rs.assume G true).dep = _; rw [(Zaj rs G true).2]; exact hdep) h3 h4⟩
        ·unfold T.den at h; exact h.elim
    ·unfold T.den at h; exact h.elim
   ·unfold T.den at h; exact h.elim
def Zlj (ρ ρ' : Env) (l : Args) : Prop := ∀ x ∈ l, ρ' x.1 = x.2.1.mk (x.2.1.un (x.2.2.den ρ))
theorem Zen {ρ ρ' : Env} {a b : Args} : Zlj ρ ρ' (a ++ b) ↔ Zlj ρ ρ' a /\ Zlj ρ ρ' b := by simp [Zlj, or_imp, forall_and]
theorem Ztn {base : Nat} {p v : RA} {l : Args} {ρ ρ' : Env} {m : Nm} {gen : Nat -> Nat} (h : eqA base p v = some l) (ha : Agr base ρ ρ') : p.den ρ' m gen = v.den ρ m gen := by
 unfold eqA at h
 split at h
 ·rename_i hc
  simp only [Bool.and_eq_true] at hc
  rw [<- RA.beq_eq hc.1, RA.den_agr ha hc.2]
 ·cases h
theorem Zw2 {base : Nat} {p v : RA} {l : Args} {ρ ρ' : Env} {m : Nm} {gen : Nat -> Nat} (h : mA base p v = some l) (ha : Agr base ρ ρ') (hl : Zlj ρ ρ' l) : p = .any \/ p.den ρ' m gen = v.den ρ m gen := by
 unfold mA at h
 split at h
 ·exact .inl rfl
 all_goals right
 all_goals first
  | exact Ztn h ha
  | skip
 all_goals
  split at h
  rotate_left
  ·exact Ztn h ha
  split at h
  rotate_left
  ·cases h
 ·split at h
  ·rename_i e; cases h; subst e
   have := hl _ (List.mem_cons_self ..)
   simp only [RA.den, E.den, sem1, this, Dk.mk, Dk.un, Dat.int_i]
  ·cases h
 ·cases h
  have := hl _ (List.mem_cons_self ..)
  simp only [RA.den, E.den, sem1, this, Dk.mk, Dk.un, Dat.bool_b]
 ·cases h
  have := hl _ (List.mem_cons_self ..)
  simp only [RA.den, E.den, sem1, this, Dk.mk, Dk.un, Dat.str_s]
 ·cases h
  have := hl _ (List.mem_cons_self ..)
  simp only [RA.den, E.den, sem1, this, Dk.mk, Dk.un, Dat.lst_l]
 ·cases h
  have := hl _ (List.mem_cons_self ..)
  simp only [RA.den, E.den, this, Dk.mk, Dk.un, Dat.dd_d]
 ·cases h
  have := hl _ (List.mem_cons_self ..)
  simp only [RA.den, E.den, this, Dk.mk, Dk.un, Dat.row_r]
 ·split at h
  ·rename_i e; cases h
   obtain ⟨rfl, e2⟩ := e
   simp only [Bool.and_eq_true] at e2
   have := hl _ (List.mem_cons_self ..)
   rw [<- E.beq_eq e2.1]
   simp only [RA.den, E.den, this, Dk.mk, Dk.un, Dat.lst_l, E.den_agr ha e2.2]
  ·cases h
 ·split at h
  ·rename_i e; cases h; subst e
   have := hl _ (List.mem_cons_self ..)
   simp only [RA.den, E.den, this, Dk.mk, Dk.un, Dat.lst_l]
  ·cases h
 ·cases h
  have := hl _ (List.mem_cons_self ..)
  simp only [RA.den, E.den, this, Dk.mk, Dk.un, Dat.lst_l]
theorem Znc {base : Nat} {ρ ρ' : Env} {m : Nm} {gen : Nat -> Nat} (ha : Agr base ρ ρ') : ∀ {p v : Tr} {l : Args}, mT base p v = some l -> Zlj ρ ρ' l -> ∀ k, p.get k = .any \/ (p.get k).den ρ' m gen = (v.get k).den ρ m gen
 | .nil, _, _, _, _, _ => .inl rfl
 | .node p a b, .nil, l, h, hl, k => by
   unfold mT at h
   split at h
   ·rename_i e; cases e
   ·rename_i e1 e2
    cases e1
    split at h
    ·rename_i x y h1 h2
     cases h
     have h3 := Zen.1 hl
     unfold Tr.get
     split
     ·exact .inl rfl
     ·split
      ·have := Znc (m := m) (gen := gen) ha h1 h3.1 (k / 2); exact this
      ·have := Znc (m := m) (gen := gen) ha h2 h3.2 (k / 2 - 1); exact this
    ·cases h
   ·cases h
   ·rename_i e; cases e
 | .node p a b, .node v a' b', l, h, hl, k => by
   unfold mT at h
   split at h <;> first
    | (rename_i e _; cases e; done)
    | (rename_i e; cases e; done)
    | skip
   rename_i e1 e2
   cases e1
   cases e2
   split at h
   ·rename_i x y z h1 h2 h3
    cases h
    have h4 := Zen.1 hl
    have h5 := Zen.1 h4.2
    unfold Tr.get
    split
    ·exact Zw2 h1 ha h4.1
    ·split
     ·exact Znc ha h2 h5.1 _
     ·exact Znc ha h3 h5.2 _
   ·cases h
theorem Zw3 {base : Nat} {ρ ρ' : Env} {m : Nm} (ha : Agr base ρ ρ') : ∀ {p v : List RA} {l : Args}, mC base p v = some l -> Zlj ρ ρ' l -> kDen ρ' m p = kDen ρ m v
 | [], [], _, _, _ => rfl
 | p :: a, v :: b, l, h, hl => by
   unfold mC at h
   split at h
   ·rename_i hc
    simp only [Bool.and_eq_true] at hc
    split at h
    ·rename_i x y h1 h2
     cases h
     have h3 := Zen.1 hl
     have h4 := Zw2 (m := m) (gen := fun _ => 0) h1 ha h3.1
     have h5 : p.den ρ' m (fun _ => 0) = v.den ρ m fun _ => 0 := h4.resolve_left (by intro e; subst e; simp [RA.okCell] at hc)
     show _ :: kDen ρ' m a = _ :: kDen ρ m b
     rw [h5, Zw3 ha h2 h3.2]
    ·cases h
   ·cases h
 | [], _ :: _, _, h, _ => by cases h
 | _ :: _, [], _, h, _ => by cases h
theorem Zto {base : Nat} {ρ ρ' : Env} {m : Nm} (ha : Agr base ρ ρ') {K : List (RRef × List RA)} : ∀ {p : List (RRef × List RA)} {l : Args}, mK base K p = some l -> Zlj ρ ρ' l -> ∀ r c, (r, c) ∈ p -> ∃ c', Zcm K r = some c' /\ kDen ρ' m c = kDen ρ m c'
 | [], _, _, _, _, _, h => by cases h
 | (q, d) :: p, l, h, hl, r, c, hm => by
   unfold mK at h
   split at h
   ·rename_i c' hc'
    split at h
    ·rename_i a b h1 h2
     cases h
     have h3 := Zen.1 hl
     rcases List.mem_cons.1 hm with e | hm
     ·cases e; exact ⟨c', hc', Zw3 ha h1 h3.1⟩
     ·exact Zto ha h2 h3.2 r c hm
    ·cases h
   ·cases h
def Zd8 (ρ : Env) : Nat -> List Dat -> Env
 | _, [] => ρ
 | n, x :: l => Zd8 (ρ.set n x) (n + 1) l
theorem Zdg : ∀ (l : List Dat) (ρ : Env) (n : Nat), Agr n ρ (Zd8 ρ n l)
 | [], ρ, n => Agr.refl n ρ
 | x :: l, ρ, n => ((Agr.refl n ρ).set x (Nat.le_refl n)).trans (Zdg l _ (n + 1)) (Nat.le_succ n)
theorem Zko : ∀ (l : List Dat) (ρ : Env) (n i : Nat) (x : Dat), l[i]? = some x -> Zd8 ρ n l (n + i) = x
 | y :: l, ρ, n, 0, x, h => by
   simp at h; subst h
   show Zd8 (ρ.set n y) (n + 1) l n = y
   rw [Zdg l (ρ.set n y) (n + 1) n (Nat.lt_succ_self n)]
   simp [Env.set]
 | y :: l, ρ, n, i + 1, x, h => by
   have := Zko l (ρ.set n y) (n + 1) i x (by simpa using h)
   rw [show n + 1 + i = n + (i + 1) by omega] at this
   exact this
def Zbn : List Dk -> List Dat -> List Dat
 | [], _ => []
 | k :: ks, x :: l => k.mk (k.un x) :: Zbn ks l
 | k :: ks, [] => k.mk (k.un (.i 0)) :: Zbn ks []
theorem Znd (k : Dk) (x : k.ty) : k.un (k.mk x) = x := by cases k <;> rfl
theorem Zg1 : ∀ (ks : List Dk) (I : CurP ks) (l : List Dat), appP ks I (Zbn ks l) = appP ks I l
 | [], _, _ => rfl
 | k :: ks, I, x :: l => by simp only [Zbn, appP, Znd]; exact Zg1 ks _ l
 | k :: ks, I, [] => by simp only [Zbn, appP, Znd]; exact Zg1 ks _ []
theorem Zjg : ∀ (ks : List Dk) (I : CurN ks) (l : List Dat), appN ks I (Zbn ks l) = appN ks I l
 | [], _, _ => rfl
 | k :: ks, I, x :: l => by simp only [Zbn, appN, Znd]; exact Zjg ks _ l
 | k :: ks, I, [] => by simp only [Zbn, appN, Znd]; exact Zjg ks _ []
theorem Zg2 : ∀ {ks : List Dk} {n : Nat} {ρ : Env} {acc l : List Dat} {p : Env -> List Dat -> Prop}, allK ks n ρ acc p -> p (Zd8 ρ n (Zbn ks l)) (acc ++ Zbn ks l)
 | [], n, ρ, acc, l, p, h => by simpa [Zbn, Zd8, allK] using h
 | k :: ks, n, ρ, acc, x :: l, p, h => by
   have := Zg2 (l := l) (h (k.un x))
   simpa [Zbn, Zd8] using this
 | k :: ks, n, ρ, acc, [], p, h => by
   have := Zg2 (l := []) (h (k.un (.i 0)))
   simpa [Zbn, Zd8] using this
theorem Zne : ∀ {ks : List Dk} {l : List Dat} {i : Nat} {k : Dk} {x : Dat}, ks[i]? = some k -> l[i]? = some x -> (Zbn ks l)[i]? = some (k.mk (k.un x))
 | k' :: ks, y :: l, 0, k, x, h1, h2 => by simp at h1 h2; subst h1; subst h2; rfl
 | k' :: ks, y :: l, i + 1, k, x, h1, h2 => by
   have := Zne (ks := ks) (l := l) (by simpa using h1) (by simpa using h2)
   simpa [Zbn] using this
theorem Zkp {l : Args} : ∀ {ks : List Dk} {n : Nat} {a : List E} {i : Nat} {k : Dk}, Zpw l ks n = some a -> ks[i]? = some k -> ∃ e, a[i]? = some e /\ Zv2 l (n + i) k = some e
 | k' :: ks, n, a, i, k, h, hk => by
   unfold Zpw at h
   split at h
   ·rename_i e r h1 h2
    cases h
    cases i with
    | zero => simp at hk; subst hk; exact ⟨e, rfl, h1⟩
    | succ i =>
      obtain ⟨e', h3, h4⟩ := Zkp h2 (by simpa using hk)
      exact ⟨e', by simpa using h3, by rw [show n + (i + 1) = n + 1 + i by omega]; exact h4⟩
   ·cases h
theorem Zjh {base : Nat} {p : Pat} {rs : RSt} {a : List E} {ρ0 ρ : Env} {m : Nm} {s : St} (h : Zpx base p rs = some a) (ha : Agr base ρ0 ρ) (hd : Den ρ m rs s) (hkn : ∀ e ∈ p.rs.known, e.lt base = true /\ (e.den ρ0).bool = true) {n d : Nat} :
 Den (Zd8 ρ0 base (Zbn p.ks (a.map fun e => e.den ρ))) m { p.rs with nv := n, dep := d } s := by
 unfold Zpx at h
 split at h
 ·rename_i x y h1 h2
  split at h
  ·rename_i hc
   simp only [Bool.and_eq_true, decide_eq_true_eq, Bool.or_eq_true, Bool.not_eq_true'] at hc
   obtain ⟨⟨hin, hnd⟩, hal⟩ := hc
   have hag : Agr base ρ (Zd8 ρ0 base (Zbn p.ks (a.map fun e => e.den ρ))) := fun i hi => by rw [Zdg _ ρ0 base i hi, ha i hi]
   have hok : Zlj ρ (Zd8 ρ0 base (Zbn p.ks (a.map fun e => e.den ρ))) (x ++ y) := by
    intro z hz
    have h3 := List.all_eq_true.1 hin z hz
    simp only [Bool.and_eq_true, beq_iff_eq] at h3
    obtain ⟨h4, h5⟩ := h3
    split at h5
    ·rename_i e he
     have h6 := E.beq_eq h5
     obtain ⟨e', h7, h8⟩ := Zkp h h4
     by_cases hb : base <= z.1
     ·have e1 : base + (z.1 - base) = z.1 := by omega
      rw [e1, he] at h8
      cases h8
      rw [<- e1, Zko _ ρ0 base (z.1 - base) _ (Zne h4 (by rw [List.getElem?_map, h7]; rfl)), h6]
     ·
      exfalso
      have hmA : ∀ {p v : RA} {l : Args}, mA base p v = some l -> ∀ z ∈ l, base <= z.1 := by
       intro p v l h z hz
       unfold mA eqA at h
       repeat' (first | (cases h; done) | (cases h; first | (cases hz; done) | (simp at hz; subst hz; assumption)) | split at h)
      have hmT : ∀ {p v : Tr} {l : Args}, mT base p v = some l -> ∀ z ∈ l, base <= z.1 := by
       intro p
       induction p with
       | nil => intro v l h z hz; unfold mT at h; cases h; cases hz
       | node q a b iha ihb =>
         intro v l h z hz
         unfold mT at h
         split at h <;> first
          | (rename_i e _; cases e; done)
          | (rename_i e; cases e; done)
          | skip
         ·rename_i e1; cases e1
          split at h
          ·rename_i h1 h2; cases h
           rcases List.mem_append.1 hz with hz | hz
           ·exact iha h1 z hz
           ·exact ihb h2 z hz
          ·cases h
         ·cases h
         ·rename_i e1; cases e1
          split at h
          ·rename_i h1 h2 h3; cases h
           rcases List.mem_append.1 hz with hz | hz
           ·exact hmA h1 z hz
           ·rcases List.mem_append.1 hz with hz | hz
            ·exact iha h2 z hz
            ·exact ihb h3 z hz
          ·cases h
      have hmC : ∀ {p v : List RA} {l : Args}, mC base p v = some l -> ∀ z ∈ l, base <= z.1 := by
       intro p
       induction p with
       | nil => intro v l h z hz; cases v <;> simp [mC] at h; subst h; cases hz
       | cons q a iha =>
         intro v l h z hz
         cases v with
         | nil => cases h
         | cons v b =>
           unfold mC at h
           split at h
           ·split at h
            ·rename_i h1 h2; cases h
             rcases List.mem_append.1 hz with hz | hz
             ·exact hmA h1 z hz
             ·exact iha h2 z hz
            ·cases h
           ·cases h
      have hmK : ∀ {p : List (RRef × List RA)} {l : Args}, mK base rs.K p = some l -> ∀ z ∈ l, base <= z.1 := by
       intro p
       induction p with
       | nil => intro l h z hz; cases h; cases hz
       | cons q a iha =>
         intro l h z hz
         unfold mK at h
         split at h
         ·split at h
          ·rename_i h1 h2; cases h
           rcases List.mem_append.1 hz with hz | hz
           ·exact hmC h1 z hz
           ·exact iha h2 z hz
          ·cases h
         ·cases h
      rcases List.mem_append.1 hz with hz | hz
      ·exact hb (hmT h1 z hz)
      ·exact hb (hmK h2 z hz)
    ·cases h5
   have hok' := Zen.1 hok
   refine ⟨fun t => ?_, fun hal2 t => ?_, fun r c hrc => ?_, ?_, fun e he => ?_⟩
   ·rcases Znc (m := m) (gen := s.gen) hag h1 hok'.1 t with e | e
    ·exact .inl e
    ·by_cases hv : rs.tm.get t = .any
     ·
      rcases hd.tm t with _ | h3
      ·by_cases hp : p.rs.tm.get t = .any
       ·exact .inl hp
       ·exfalso
        have hmA : ∀ {p : RA} {l : Args}, mA base p .any = some l -> p = .any := by
         intro p l h
         unfold mA eqA at h
         repeat' (first | rfl | (cases h; done) | split at h)
         all_goals first
          | rfl
          | (rename_i hb; simp only [Bool.and_eq_true] at hb; exact RA.beq_eq hb.1)
          | (rename_i hb _; simp only [Bool.and_eq_true] at hb; exact RA.beq_eq hb.1)
        have hmT : ∀ {p v : Tr} {l : Args} (t : Nat), mT base p v = some l -> v.get t = .any -> p.get t = .any := by
         intro p
         induction p with
         | nil => intro v l t _ _; rfl
         | node q a b iha ihb =>
           intro v l t h hv
           unfold mT at h
           split at h <;> first
            | (rename_i e _; cases e; done)
            | (rename_i e; cases e; done)
            | skip
           ·rename_i e1; cases e1
            split at h
            ·rename_i h1 h2
             unfold Tr.get
             split
             ·rfl
             ·split
              ·exact iha _ h1 rfl
              ·exact ihb _ h2 rfl
            ·cases h
           ·cases h
           ·rename_i e1; cases e1
            split at h
            ·rename_i h1 h2 h3
             unfold Tr.get at hv ⊢
             split at hv
             ·rename_i e; simp only [e, if_true]; rw [hv] at h1; exact hmA h1
             ·rename_i e
              simp only [e, if_false]
              split at hv
              ·rename_i e2; simp only [e2, if_true]; exact iha _ h2 hv
              ·rename_i e2; simp only [e2, if_false]; exact ihb _ h3 hv
            ·cases h
        exact hp (hmT t h1 hv)
      ·right; show s.tm t = _; rw [e, <- h3]
     ·right
      show s.tm t = _
      rw [e]; exact (hd.tm t).resolve_left hv
   ·have hal2 : p.rs.al = false := hal2
    rcases hal with h3 | h3
    ·rw [hal2] at h3; cases h3
    ·exact Tr.anyAli_get h3 t
   ·obtain ⟨c', h3, h4⟩ := Zto (m := m) hag h2 hok'.2 r c hrc
    rw [h4]; exact hd.look h3
   ·have hsub : ∀ x ∈ p.rs.K, x.1 ∈ rs.K.map (·.1) := fun x hx => by
     obtain ⟨c', h3, _⟩ := Zto (m := m) hag h2 hok'.2 x.1 x.2 hx
     exact List.mem_map.2 ⟨_, Zb3 h3, rfl⟩
    have e : (p.rs.K.map fun x => x.1.den m) = (p.rs.K.map (·.1)).map (RRef.den m) := by simp [Function.comp_def]
    show (p.rs.K.map fun x => x.1.den m).Nodup
    rw [e]
    refine List.pairwise_map.2 (List.Pairwise.imp_of_mem (fun {x y} hx hy hxy e => hxy ?_) hnd)
    obtain ⟨x', hx', rfl⟩ := List.mem_map.1 hx
    obtain ⟨y', hy', rfl⟩ := List.mem_map.1 hy
    exact Zcg hd.nd (hsub _ hx') (hsub _ hy') e
   ·obtain ⟨h3, h4⟩ := hkn e he
    rw [E.den_agr (Zdg _ ρ0 base) h3]; exact h4
  ·cases h
 ·cases h
theorem Zg3 {base : Nat} {rs : RSt} : ∀ {ps : List Pat} {j j' : Nat} {a : List E}, Zhu base ps rs j = some (j', a) -> ∃ i p, j' = j + i /\ ps[i]? = some p /\ Zpx base p rs = some a
 | p :: ps, j, j', a, h => by
   unfold Zhu at h
   split at h
   ·rename_i a' h1; cases h; exact ⟨0, p, rfl, rfl, h1⟩
   ·obtain ⟨i, q, h1, h2, h3⟩ := Zg3 h
    exact ⟨i + 1, q, by omega, by simpa using h2, h3⟩
theorem Zp0 : ∀ {L : List (List Dk)} {p : Invs -> Prop}, exL L p -> ∃ Is : Invs, Is.length = L.length /\ (∀ (i : Nat) (ks : List Dk), L[i]? = some ks -> ∃ (I : CurP ks) (μ : CurN ks), Is[i]? = some (appP ks I, appN ks μ)) /\ p Is
 | [], p, h => ⟨[], rfl, (fun i ks h => by cases h), h⟩
 | ks :: L, p, ⟨I, μ, h⟩ => by
   obtain ⟨Is, h1, h2, h3⟩ := Zp0 h
   refine ⟨(appP ks I, appN ks μ) :: Is, by simp [h1], fun i k hk => ?_, h3⟩
   cases i with
   | zero => simp at hk; subst hk; exact ⟨I, μ, rfl⟩
   | succ i => simpa using h2 i k (by simpa using hk)
theorem Zp1 (run : RSt -> (Re -> RSt -> T) -> T) (base dep : Nat) (ps : List Pat) (K : Re -> RSt -> T) : ∀ l : List Pat, (Zoh run base dep ps K l).ksL = l.map (·.ks)
 | [] => rfl
 | p :: l => by simp only [Zoh, T.ksL, List.map_cons, Zp1 run base dep ps K l]
theorem Znf {P : Program} {run : RSt -> (Re -> RSt -> T) -> T} {base dep : Nat} {ps : List Pat} {K : Re -> RSt -> T} {Is : Invs} {n : Nat} {ρ : Env} {σ : Sig} : ∀ {l : List Pat} {j i : Nat} {p : Pat}, (Zoh run base dep ps K l).denV P up R j Is n ρ σ -> l[i]? = some p ->
 allK p.ks n ρ [] fun ρ' vals => Zcr Is (j + i) vals -> (run { p.rs with dep := dep + 1, nv := base + p.ks.length } (fun e rs => match e with
  | .nrm => (match Zhu base ps rs 0 with
    | some (j, a) => .again dep j a
    | none => .bad 61)
  | e => K e rs)).den P up R ρ' (σ ++ [fun j' a => Zcr Is j' a /\ Zet Is j' a < Zet Is (j + i) vals])
 | q :: l, j, 0, p, h, hp => by
   simp at hp; subst hp
   unfold Zoh T.denV at h
   exact h.1
 | q :: l, j, i + 1, p, h, hp => by
   unfold Zoh T.denV at h
   have := Znf h.2 (by simpa using hp)
   rw [show j + (i + 1) = j + 1 + i by omega]
   exact this
theorem Zp2 : ∀ {L : List (List Dk)} {p : Invs -> Prop}, exC L p -> ∃ Is : Invs, Is.length = L.length /\ (∀ (i : Nat) (ks : List Dk), L[i]? = some ks -> ∃ (I : CurP ks), Is[i]? = some (appP ks I, fun _ => 0)) /\ p Is
 | [], p, h => ⟨[], rfl, (fun i ks h => by cases h), h⟩
 | ks :: L, p, ⟨I, h⟩ => by
   obtain ⟨Is, h1, h2, h3⟩ := Zp2 h
   refine ⟨(appP ks I, fun _ => 0) :: Is, by simp [h1], fun i k hk => ?_, h3⟩
   cases i with
   | zero => simp at hk; subst hk; exact ⟨I, rfl⟩
   | succ i => simpa using h2 i k (by simpa using hk)
theorem Zp3 (next : RSt -> T) (base dep : Nat) : ∀ l : List Pat, (Zoi next base dep l).ksL = l.map (·.ks)
 | [] => rfl
 | p :: l => by simp only [Zoi, T.ksL, List.map_cons, Zp3 next base dep l]
theorem Zng {P : Program} {next : RSt -> T} {base dep : Nat} {Is : Invs} {n : Nat} {ρ : Env} {σ : Sig} : ∀ {l : List Pat} {j i : Nat} {p : Pat}, (Zoi next base dep l).denC P up R j Is n ρ σ -> l[i]? = some p ->
 allK p.ks n ρ [] fun ρ' vals => Zcr Is (j + i) vals -> (next { p.rs with dep := dep, nv := base + p.ks.length }).den P up R ρ' σ
 | q :: l, j, 0, p, h, hp => by
   simp at hp; subst hp
   unfold Zoi T.denC at h
   exact h.1
 | q :: l, j, i + 1, p, h, hp => by
   unfold Zoi T.denC at h
   have := Zng h.2 (by simpa using hp)
   rw [show j + (i + 1) = j + 1 + i by omega]
   exact this
theorem Zrg {ρ : Env} {m : Nm} {rs : RSt} {s : St} {c : Cfg} {C : Ctx} (hN : C.N = c.N) (hd : Den ρ m rs s) (u : Nat) : ∃ s', Den ρ m (Zjd c rs u) s' /\ (Zjd c rs u).nv = rs.nv /\ (Zjd c rs u).dep = rs.dep /\ ∀ (code : Code) (Q : Ex -> St -> Prop), AW C code Q s' -> AW C code Q s := by
 unfold Zjd
 split
 ·exact ⟨s, hd, rfl, rfl, fun _ _ h => h⟩
 ·rename_i z es nw _ ht
  split
  ·rename_i hlt
   have hu : s.tm u = .own z (es.den ρ).lst (nw.den ρ).lst := by
    have := (hd.tm u).resolve_left (by rw [ht]; intro e; cases e)
    rw [ht] at this; exact this
   exact ⟨_, hd.reput (y := .own z ((es.den ρ).lst ++ (nw.den ρ).lst) []) (by intro e; cases e) (.inr (by simp only [RA.den, Zdn, E.den, Dat.lst_l])), Zai .., Zae .., fun code Q h => Zr5 u (by rw [hN]; exact hlt) hu h⟩
  ·exact ⟨s, hd, rfl, rfl, fun _ _ h => h⟩
 ·exact ⟨s, hd, rfl, rfl, fun _ _ h => h⟩
theorem Zfp {ρ : Env} {m : Nm} {c : Cfg} {C : Ctx} (hN : C.N = c.N) : ∀ (l : List Nat) {rs : RSt} {s : St}, Den ρ m rs s -> ∃ s', Den ρ m (Zcs c rs l) s' /\ (Zcs c rs l).nv = rs.nv /\ (Zcs c rs l).dep = rs.dep /\ ∀ (code : Code) (Q : Ex -> St -> Prop), AW C code Q s' -> AW C code Q s
 | [], rs, s, hd => ⟨s, hd, rfl, rfl, fun _ _ h => h⟩
 | u :: l, rs, s, hd => by
   obtain ⟨s1, h1, h2, h3, h4⟩ := Zrg (c := c) hN hd u
   obtain ⟨s2, k1, k2, k3, k4⟩ := Zfp (c := c) hN l h1
   exact ⟨s2, k1, k2.trans h2, k3.trans h3, fun code Q h => h4 code Q (k4 code Q h)⟩
theorem Zy1 {ρ : Env} {m : Nm} {rs : RSt} {s : St} {c : Cfg} {C : Ctx} (hN : C.N = c.N) (hd : Den ρ m rs s) (u : Nat) : ∃ s', Den ρ m (dat1 c rs u) s' /\ (dat1 c rs u).nv = rs.nv /\ (dat1 c rs u).dep = rs.dep /\ ∀ (code : Code) (Q : Ex -> St -> Prop), AW C code Q s' -> AW C code Q s := by
 unfold dat1
 split
 ·rename_i z es nw ht
  split
  ·rename_i hlt
   have hu : s.tm u = .own z (es.den ρ).lst (nw.den ρ).lst := by
    have := (hd.tm u).resolve_left (by rw [ht]; intro e; cases e)
    rw [ht] at this; exact this
   exact ⟨_, hd.reput (y := .d (.slc ((es.den ρ).lst ++ (nw.den ρ).lst))) (by intro e; cases e) (.inr (by simp only [RA.den, E.den, sem1, Zdn, Dat.lst_l, Dat.dd_d])), Zai .., Zae .., fun code Q h g a w hR => by
    obtain ⟨g', hR'⟩ := hR.toData (by rw [hN]; exact hlt) hu
    exact h g' a w hR'⟩
  ·exact ⟨s, hd, rfl, rfl, fun _ _ h => h⟩
 ·rename_i es ht
  split
  ·rename_i hlt
   have hu : s.tm u = .zs (es.den ρ).lst := by
    have := (hd.tm u).resolve_left (by rw [ht]; intro e; cases e)
    rw [ht] at this; exact this
   exact ⟨_, hd.put (y := .d (.slc (es.den ρ).lst)) (by intro e; cases e) (.inr (by simp only [RA.den, E.den, sem1, Dat.dd_d])), Zai .., Zae .., fun code Q h g a w hR => h g a w (hR.zsData (by rw [hN]; exact hlt) hu)⟩
  ·exact ⟨s, hd, rfl, rfl, fun _ _ h => h⟩
 ·exact ⟨s, hd, rfl, rfl, fun _ _ h => h⟩
theorem Zlk {ρ : Env} {m : Nm} {c : Cfg} {C : Ctx} (hN : C.N = c.N) : ∀ (l : List Nat) {rs : RSt} {s : St}, Den ρ m rs s -> ∃ s', Den ρ m (datL c rs l) s' /\ (datL c rs l).nv = rs.nv /\ (datL c rs l).dep = rs.dep /\ ∀ (code : Code) (Q : Ex -> St -> Prop), AW C code Q s' -> AW C code Q s
 | [], rs, s, hd => ⟨s, hd, rfl, rfl, fun _ _ h => h⟩
 | u :: l, rs, s, hd => by
   obtain ⟨s1, h1, h2, h3, h4⟩ := Zy1 (c := c) hN hd u
   obtain ⟨s2, k1, k2, k3, k4⟩ := Zlk (c := c) hN l h1
   exact ⟨s2, k1, k2.trans h2, k3.trans h3, fun code Q h => h4 code Q (k4 code Q h)⟩
theorem Zdq {c : Cfg} {op : Opt} {C : Ctx} (hP : C.P = c.P) (hN : C.N = c.N) (hmx : c.P.follows .mixedOrders = true) : ∀ (code : Code) {Q : Ex -> St -> Prop} {K : Re -> RSt -> T} {n0 : Nat} {ρ0 ρ : Env} {σ0 σ : Sig} {m : Nm} {rs : RSt} {s : St},
 Zj5 c.P up R n0 ρ0 σ0 Q K -> Agr n0 ρ0 ρ -> n0 <= rs.nv -> m.up = up -> σ0 <+: σ -> rs.dep = σ.length -> Den ρ m rs s -> (Zc3 c op code rs K).den c.P up R ρ σ -> AW C code Q s
 | .skip, _, _, _, _, ρ, _, σ, m, rs, s, hK, ha, hnv, hu, hσ, hdep, hd, h => Zxq (hK .nrm ρ m rs s σ ha hnv hu hσ hdep hd h)
 | .label _, _, _, _, _, ρ, _, σ, m, rs, s, hK, ha, hnv, hu, hσ, hdep, hd, h => Zu0 (hK .nrm ρ m rs s σ ha hnv hu hσ hdep hd h)
 | .ret, _, _, _, _, ρ, _, σ, m, rs, s, hK, ha, hnv, hu, hσ, hdep, hd, h => by
   unfold Zc3 at h
   obtain ⟨s', h1, h2, h3, h4⟩ := Zfp (c := c) hN c.live hd
   exact h4 _ _ (Zz2 (hK .ret ρ m _ s' σ ha (by rw [h2]; exact hnv) hu hσ (by rw [h3]; exact hdep) h1 h))
 | .exit id, _, _, _, _, ρ, _, σ, m, rs, s, hK, ha, hnv, hu, hσ, hdep, hd, h => Zxr (hK (.exit id) ρ m rs s σ ha hnv hu hσ hdep hd h)
 | .seq x y, Q, K, n0, ρ0, ρ, σ0, σ, m, rs, s, hK, ha, hnv, hu, hσ, hdep, hd, h => by
   unfold Zc3 at h
   split at h
   ·unfold cutT at h
    simp only at h
    generalize (Zev c rs.nv (rs.known.filter (E.lt rs.nv)) (Zc3 c op x { rs with dep := rs.dep + 1 } (fun e rs => match e with | .nrm => T.leaf rs | _ => .vnil)).leaves (Zev c rs.nv (rs.known.filter (E.lt rs.nv)) (Zc3 c op x { rs with dep := rs.dep + 1 } (fun e rs => match e with | .nrm => T.leaf rs | _ => .vnil)).leaves [] false).1 false).1 = ps at h
    split at h
    ·rename_i hkn
     have hkn' : ∀ p ∈ ps, ∀ e ∈ p.rs.known, e.lt rs.nv = true /\ (e.den ρ).bool = true := fun p hp e he => by
      have h1 := List.all_eq_true.1 (List.all_eq_true.1 hkn p hp) e he
      simp only [Bool.and_eq_true] at h1
      exact ⟨h1.1, Zel hd.known h1.2⟩
     unfold T.den at h
     rw [Zp3] at h
     obtain ⟨Is, hlen, hIs, hbody, hden⟩ := Zp2 h
     refine Zz3 (Σ' s' : St, ∃ (i : Nat) (p : Pat) (m' : Nm) (l : List Dat), ps[i]? = some p /\ m'.up = up /\ Zcr Is i (Zbn p.ks l) /\ Den (Zd8 ρ rs.nv (Zbn p.ks l)) m' { p.rs with nv := rs.nv + p.ks.length, dep := rs.dep } s') (fun x => x.1) (fun _ => True) ?_ ?_
     ·refine Zdq hP hN hmx x (n0 := rs.nv) (ρ0 := ρ) (σ0 := σ ++ [fun j a => Zcr Is j a]) (rs := { rs with dep := rs.dep + 1 }) (fun e ρ2 m2 rs2 s2 σ2 k1 k2 k3 k4 k5 k6 k7 => ?_) (Agr.refl _ _) (Nat.le_refl _) hu (List.prefix_rfl) (by simp [hdep]) (⟨hd.tm, hd.al, hd.K, hd.nd, hd.known⟩ : Den ρ m { rs with dep := rs.dep + 1 } s) hbody
      have hσ2 : σ0 <+: σ2 := hσ.trans ((List.prefix_append _ _).trans k4)
      cases e with
      | nrm =>
        simp only at k7
        split at k7
        ·rename_i j2 a2 hj2
         obtain ⟨i2, p2, hj2', hp2, hm2⟩ := Zg3 hj2
         have : j2 = i2 := by omega
         subst this
         unfold T.den at k7
         have hlook : σ2[rs.dep]? = some (fun j a => Zcr Is j a) := by
          obtain ⟨t, ht⟩ := k4
          rw [<- ht, hdep]
          simp
         rw [hlook] at k7
         have hinv : Zcr Is j2 (Zbn p2.ks (a2.map fun e => e.den ρ2)) := by
          obtain ⟨I, h1⟩ := hIs j2 p2.ks (by rw [List.getElem?_map, hp2]; rfl)
          have k7 : Zcr Is j2 (a2.map fun e => e.den ρ2) := k7
          simp only [Zcr, h1] at k7 ⊢
          rw [Zg1]; exact k7
         exact ⟨⟨s2, j2, p2, m2, _, hp2, k3, hinv, Zjh hm2 k1 k6 (hkn' p2 (List.mem_of_getElem? hp2))⟩, trivial, Weaker.refl s2⟩
        ·unfold T.den at k7; exact k7.elim
      | exit id => exact hK (.exit id) ρ2 m2 rs2 s2 σ2 (ha.trans k1 hnv) (Nat.le_trans hnv k2) k3 hσ2 k5 k6 k7
      | ret => exact hK .ret ρ2 m2 rs2 s2 σ2 (ha.trans k1 hnv) (Nat.le_trans hnv k2) k3 hσ2 k5 k6 k7
      | pan v => exact hK (.pan v) ρ2 m2 rs2 s2 σ2 (ha.trans k1 hnv) (Nat.le_trans hnv k2) k3 hσ2 k5 k6 k7
     ·rintro ⟨s1, i1, p, m', l, hp, hu', hI, hden'⟩ _
      have h5 := Zg2 (l := l) (Zng hden hp)
      simp only [List.nil_append, Nat.zero_add] at h5
      exact Zdq hP hN hmx y (rs := { p.rs with nv := rs.nv + p.ks.length, dep := rs.dep }) hK (ha.trans (Zdg _ ρ rs.nv) hnv) (Nat.le_trans hnv (Nat.le_add_right _ _)) hu' hσ hdep hden' (h5 hI)
    ·unfold T.den at h; exact h.elim
   ·refine Zww (Zdq hP hN hmx x (Q := Ex.then (AW C y Q) Q) (fun e ρ m rs s σ h1 h2 h3 h4 h5 h6 h7 => ?_) ha hnv hu hσ hdep hd h)
    cases e with
    | nrm => exact Zdq hP hN hmx y hK h1 h2 h3 h4 h5 h6 h7
    | exit id => exact hK (.exit id) ρ m rs s σ h1 h2 h3 h4 h5 h6 h7
    | ret => exact hK .ret ρ m rs s σ h1 h2 h3 h4 h5 h6 h7
    | pan v => exact hK (.pan v) ρ m rs s σ h1 h2 h3 h4 h5 h6 h7
 | .cond q x y, Q, K, n0, ρ0, ρ, σ0, σ, m, rs, s, hK, ha, hnv, hu, hσ, hdep, hd, h => by
   unfold Zc3 at h
   split at h
   ·rename_i e he
    have hev : s.ev q = .d (.lit (.bool (e.den ρ).bool)) := by
     have := Zbm hd (x := q) (by rw [he]; intro e; cases e)
     rw [he] at this; exact this
    refine Zxs hev (fun hb => ?_) (fun hb => ?_)
    ·split at h
     ·exact Zdq hP hN hmx x hK ha hnv hu hσ hdep hd h
     ·split at h
      ·rename_i hF; rw [Zpk hF] at hb; cases hb
      ·unfold T.den at h
       exact Zdq hP hN hmx x hK ha (by rw [(Zaj rs e true).1]; exact hnv) hu hσ (by rw [(Zaj rs e true).2]; exact hdep) (hd.assume hb) (h.1 hb)
    ·split at h
     ·rename_i hT; rw [Zht hT] at hb; cases hb
     ·split at h
      ·exact Zdq hP hN hmx y hK ha hnv hu hσ hdep hd h
      ·unfold T.den at h
       exact Zdq hP hN hmx y hK ha (by rw [(Zaj rs e false).1]; exact hnv) hu hσ (by rw [(Zaj rs e false).2]; exact hdep) (hd.assume hb) (h.2 hb)
   ·unfold T.den at h; exact h.elim
 | .block id x, Q, K, n0, ρ0, ρ, σ0, σ, m, rs, s, hK, ha, hnv, hu, hσ, hdep, hd, h => by
   refine Zu1 (Zdq hP hN hmx x (Q := Ex.inBlock id Q) (fun e ρ m rs s σ h1 h2 h3 h4 h5 h6 h7 => ?_) ha hnv hu hσ hdep hd h)
   cases e with
   | nrm => exact hK .nrm ρ m rs s σ h1 h2 h3 h4 h5 h6 h7
   | exit id' =>
     simp only [Re.conv, Ex.inBlock]
     simp only at h7
     split
     ·rename_i e; rw [if_pos e] at h7; exact hK .nrm ρ m rs s σ h1 h2 h3 h4 h5 h6 h7
     ·rename_i e; rw [if_neg e] at h7; exact hK (.exit id') ρ m rs s σ h1 h2 h3 h4 h5 h6 h7
   | ret => exact hK .ret ρ m rs s σ h1 h2 h3 h4 h5 h6 h7
   | pan v => exact hK (.pan v) ρ m rs s σ h1 h2 h3 h4 h5 h6 h7
 | .region id ops false, Q, K, n0, ρ0, ρ, σ0, σ, m, rs, s, hK, ha, hnv, hu, hσ, hdep, hd, h => by
   unfold Zc3 at h
   have hK' : Zj5 c.P up R n0 ρ0 σ0 Q (Zoj c K) := fun e ρ m rs s σ h1 h2 h3 h4 h5 h6 h7 => by
    cases e with
    | nrm => exact hK .nrm ρ m (rs.keep c.live c.N) s σ h1 h2 h3 h4 h5 (h6.keep c.live c.N) h7
    | exit id => exact hK (.exit id) ρ m rs s σ h1 h2 h3 h4 h5 h6 h7
    | ret => exact hK .ret ρ m rs s σ h1 h2 h3 h4 h5 h6 h7
    | pan v => exact hK (.pan v) ρ m rs s σ h1 h2 h3 h4 h5 h6 h7
   split at h
   ·split at h
    ·rename_i l rs' hr
     obtain ⟨kn, h1, h2, h3⟩ := Za2 hd.known h
     exact Zmh (Zvz hP hN hd hr (h2 rfl) fun m' s' u1 u2 u3 hd' => hK' .nrm ρ m' _ s' σ ha (by show n0 <= rs'.nv; rw [u2]; exact hnv) (u1.trans hu) hσ (by show rs'.dep = _; rw [u3]; exact hdep) (hd'.knew h1) h3)
    ·unfold T.den at h; exact h.elim
   obtain ⟨sd, e1, e2, e3, e4⟩ := Zlk (c := c) hN op.dat hd
   generalize datL c rs op.dat = rs at *
   replace hnv : n0 <= rs.nv := by rw [e2]; exact hnv
   replace hdep : rs.dep = σ.length := by rw [e3]; exact hdep
   obtain ⟨s0, f1, f2, f3, f4⟩ := Zog (C := C) id op.com e1
   obtain ⟨s', g1, g2, g3, g4⟩ := Zfp (c := c) hN (c.live.filter fun u => Zyw (comL id op.com rs) u && Ztj ops.toList u) f1
   refine e4 _ _ (f4 _ _ (g4 _ _ (Zmh ?_)))
   have := Zpn hP hN (l := ops.toList) (k := 0) (fun j => by simp) hK' ha (by show n0 <= (Zcs c (comL id op.com rs) _).nv; rw [g2, f2]; exact hnv) hu hσ (by show (Zcs c (comL id op.com rs) _).dep = _; rw [g3, f3]; exact hdep) g1 h
   rw [List.range_eq_range']
   simpa using this
 | .region _ ops true, Q, K, n0, ρ0, ρ, σ0, σ, m, rs, s, hK, ha, hnv, hu, hσ, hdep, hd, h => by
   unfold Zc3 at h
   simp only at h
   have hK' : Zj5 c.P up R n0 ρ0 σ0 Q (Zoj c K) := fun e ρ m rs s σ h1 h2 h3 h4 h5 h6 h7 => by
    cases e with
    | nrm => exact hK .nrm ρ m (rs.keep c.live c.N) s σ h1 h2 h3 h4 h5 (h6.keep c.live c.N) h7
    | exit id => exact hK (.exit id) ρ m rs s σ h1 h2 h3 h4 h5 h6 h7
    | ret => exact hK .ret ρ m rs s σ h1 h2 h3 h4 h5 h6 h7
    | pan v => exact hK (.pan v) ρ m rs s σ h1 h2 h3 h4 h5 h6 h7
   obtain ⟨sd, e1, e2, e3, e4⟩ := Zlk (c := c) hN op.dat hd
   generalize datL c rs op.dat = rs at *
   replace hnv : n0 <= rs.nv := by rw [e2]; exact hnv
   replace hdep : rs.dep = σ.length := by rw [e3]; exact hdep
   obtain ⟨s', g1, g2, g3, g4⟩ := Zfp (c := c) hN (c.live.filter fun u => Zyw rs u && Ztj ops.toList u) e1
   refine e4 _ _ ?_
   split at h
   ·split at h
    ·rename_i hok
     split at h
     ·exact g4 _ _ (Zli hP hN (by rw [hP]; exact hmx) hok hK' hu hσ _ (fun p hp => by cases hp) ha (by show n0 <= (Zcs c rs _).nv; rw [g2]; exact hnv) (by show (Zcs c rs _).dep = _; rw [g3]; exact hdep) g1 h)
     ·exact g4 _ _ (Z0z hP hN (by rw [hP]; exact hmx) hok hK' ha (by show n0 <= (Zcs c rs _).nv; rw [g2]; exact hnv) hu hσ (by show (Zcs c rs _).dep = _; rw [g3]; exact hdep) g1 h)
    ·unfold T.den at h; exact h.elim
   split at h
   ·rename_i hok
    have hm0 : Zyn (clOf ops) ops.size <= ops.size := by
     have := hok
     simp only [Zpo, Bool.and_eq_true, Nat.ble_eq] at this
     exact this.1.1.1.1
    refine g4 _ _ (Z12 (by rw [hP]; exact hmx) hok (Ztm hm0 hP hN (fun j hj => by simp at hj; simp [hj]) (by simp; omega) hK' ha (by show n0 <= (Zcs c rs _).nv; rw [g2]; exact hnv) hu hσ (by show (Zcs c rs _).dep = _; rw [g3]; exact hdep) g1 h))
   ·unfold T.den at h; exact h.elim
 | .loop b, Q, K, n0, ρ0, ρ, σ0, σ, m, rs, s, hK, ha, hnv, hu, hσ, hdep, hd, h => by
   unfold Zc3 at h
   obtain ⟨sd, e1, e2, e3, e4⟩ := Zlk (c := c) hN op.dat hd
   refine e4 _ _ ?_
   revert h
   replace hnv : n0 <= (datL c rs op.dat).nv := by rw [e2]; exact hnv
   replace hdep : (datL c rs op.dat).dep = σ.length := by rw [e3]; exact hdep
   clear e2 e3 e4 hd
   revert e1 hnv hdep
   generalize datL c rs op.dat = rs
   generalize sd = s
   intro hd hnv hdep h
   unfold Z0x at h
   simp only at h
   generalize Zti c (Zc3 c op b) rs.nv rs.dep (rs.known.filter (E.lt rs.nv)) 6 [Zv3 c rs.nv (rs.known.filter (E.lt rs.nv)) rs.tm rs.K] = ps at h
   split at h
   ·rename_i j a hj
    split at h
    ·rename_i hkn
     have hkn' : ∀ p ∈ ps, ∀ e ∈ p.rs.known, e.lt rs.nv = true /\ (e.den ρ).bool = true := fun p hp e he => by
      have h1 := List.all_eq_true.1 (List.all_eq_true.1 hkn p hp) e he
      simp only [Bool.and_eq_true] at h1
      exact ⟨h1.1, Zel hd.known h1.2⟩
     unfold T.den at h
     rw [Zp1] at h
     obtain ⟨Is, hlen, hIs, hinv, hden⟩ := Zp0 h
     obtain ⟨i0, p0, hj0, hp0, hm0⟩ := Zg3 hj
     have norm : ∀ {i : Nat} {p : Pat} (l : List Dat), ps[i]? = some p -> (Zcr Is i (Zbn p.ks l) ↔ Zcr Is i l) /\ Zet Is i (Zbn p.ks l) = Zet Is i l := fun {i p} l hp => by
      obtain ⟨I, μ, h1⟩ := hIs i p.ks (by rw [List.getElem?_map, hp]; rfl)
      simp only [Zcr, Zet, h1]
      exact ⟨by rw [Zg1], Zjg p.ks μ l⟩
     refine Zxt (X := St × (Nat × List Dat)) (fun x => x.1) (fun x => Zet Is x.2.1 x.2.2)
      (fun x => ∃ (p : Pat) (m' : Nm), ps[x.2.1]? = some p /\ m'.up = up /\ x.2.2 = Zbn p.ks x.2.2 /\ Zcr Is x.2.1 x.2.2 /\ Den (Zd8 ρ rs.nv x.2.2) m' { p.rs with nv := rs.nv + p.ks.length, dep := rs.dep + 1 } x.1)
      (s, (i0, Zbn p0.ks (a.map fun e => e.den ρ))) ⟨p0, m, hp0, hu, ?_, ?_, ?_⟩ (Weaker.refl s) ?_
     ·have : ∀ (ks : List Dk) (l : List Dat), Zbn ks l = Zbn ks (Zbn ks l) := by
       intro ks
       induction ks with
       | nil => intro l; rfl
       | cons k ks ih => intro l; cases l with
         | nil => simp only [Zbn, Znd]; rw [<- ih]
         | cons x l => simp only [Zbn, Znd]; rw [<- ih]
      exact this _ _
     ·have : j = i0 := by omega
      subst this
      exact ((norm _ hp0).1).2 hinv
     ·exact Zjh hm0 (Agr.refl _ _) hd (hkn' p0 (List.mem_of_getElem? hp0))
     ·rintro ⟨s1, i1, vals⟩ ⟨p, m', hp, hu', hnorm, hI, hden'⟩
      have h5 := Zg2 (l := vals) (Znf hden hp)
      rw [<- hnorm] at h5
      simp only [List.nil_append, Nat.zero_add] at h5
      have h6 := h5 hI
      refine Zdq hP hN hmx b (Q := Ex.then (fun s' => ∃ x' : St × (Nat × List Dat), (∃ (p : Pat) (m' : Nm), ps[x'.2.1]? = some p /\ m'.up = up /\ x'.2.2 = Zbn p.ks x'.2.2 /\ Zcr Is x'.2.1 x'.2.2 /\ Den (Zd8 ρ rs.nv x'.2.2) m' { p.rs with nv := rs.nv + p.ks.length, dep := rs.dep + 1 } x'.1) /\ Weaker x'.1 s' /\ Zet Is x'.2.1 x'.2.2 < Zet Is i1 vals) Q)
       (n0 := rs.nv) (ρ0 := ρ) (σ0 := σ ++ [fun j' a => Zcr Is j' a /\ Zet Is j' a < Zet Is i1 vals]) (fun e ρ2 m2 rs2 s2 σ2 k1 k2 k3 k4 k5 k6 k7 => ?_) (Zdg _ _ _) (Nat.le_add_right _ _) hu' (List.prefix_rfl) (by simp [hdep]) hden' h6
      have hσ2 : σ0 <+: σ2 := hσ.trans ((List.prefix_append _ _).trans k4)
      cases e with
      | nrm =>
        simp only at k7
        split at k7
        ·rename_i j2 a2 hj2
         obtain ⟨i2, p2, hj2', hp2, hm2⟩ := Zg3 hj2
         have : j2 = i2 := by omega
         subst this
         unfold T.den at k7
         have hlook : σ2[rs.dep]? = some (fun j' a => Zcr Is j' a /\ Zet Is j' a < Zet Is i1 vals) := by
          obtain ⟨t, ht⟩ := k4
          rw [<- ht, hdep]
          simp
         rw [hlook] at k7
         obtain ⟨k8, k9⟩ := k7
         refine ⟨(s2, (j2, Zbn p2.ks (a2.map fun e => e.den ρ2))), ⟨p2, m2, hp2, k3, ?_, ((norm _ hp2).1).2 k8, Zjh hm2 k1 k6 (hkn' p2 (List.mem_of_getElem? hp2))⟩, Weaker.refl s2, ?_⟩
         ·have : ∀ (ks : List Dk) (l : List Dat), Zbn ks l = Zbn ks (Zbn ks l) := by
           intro ks
           induction ks with
           | nil => intro l; rfl
           | cons k ks ih => intro l; cases l with
             | nil => simp only [Zbn, Znd]; rw [<- ih]
             | cons x l => simp only [Zbn, Znd]; rw [<- ih]
          exact this _ _
         ·show Zet Is j2 (Zbn p2.ks _) < _
          rw [(norm _ hp2).2]; exact k9
        ·unfold T.den at k7; exact k7.elim
      | exit id => exact hK (.exit id) ρ2 m2 rs2 s2 σ2 (ha.trans k1 hnv) (Nat.le_trans hnv k2) k3 hσ2 k5 k6 k7
      | ret => exact hK .ret ρ2 m2 rs2 s2 σ2 (ha.trans k1 hnv) (Nat.le_trans hnv k2) k3 hσ2 k5 k6 k7
      | pan v => exact hK (.pan v) ρ2 m2 rs2 s2 σ2 (ha.trans k1 hnv) (Nat.le_trans hnv k2) k3 hσ2 k5 k6 k7
    ·unfold T.den at h; exact h.elim
   ·unfold T.den at h; exact h.elim
 | .rangeFunc _ _ _ _, _, _, _, _, _, _, _, _, _, _, _, _, _, _, _, _, _, h => by unfold Zc3 T.den at h; exact h.elim
 | .scope _, _, _, _, _, _, _, _, _, _, _, _, _, _, _, _, _, _, h => by unfold Zc3 T.den at h; exact h.elim
 | .goto _, _, _, _, _, _, _, _, _, _, _, _, _, _, _, _, _, _, h => by unfold Zc3 T.den at h; exact h.elim
 | .refuse _, _, _, _, _, _, _, _, _, _, _, _, _, _, _, _, _, _, h => by unfold Zc3 T.den at h; exact h.elim
end
end Go.Rf
end
section
namespace Go.Rf
open Go.Ab
def RA.noOwn : RA -> Bool
 | .ptr (.own _) _ => false
 | .fn _ l => l.all fun r => match r with | .up _ => true | .own _ => false
 | .als _ | .opt _ _ _ _ | .gv _ _ => false
 | _ => true
theorem Zji {x : RA} (h : x.noOwn = true) {ρ : Env} {m : Nm} {gen : Nat -> Nat} : x.den ρ m gen = x.den ρ ⟨m.up, gen0⟩ gen0 /\ Zbd (x.den ρ m gen) = true := by
 cases x with
 | ptr r o => cases r with
   | own t => cases h
   | up n => exact ⟨rfl, rfl⟩
 | fn f l =>
   have key : ∀ r ∈ l, r.den m = r.den ⟨m.up, gen0⟩ /\ ∃ q, r.den m = .up q := fun r hr => by
    have := List.all_eq_true.1 h r hr
    cases r with
    | own t => cases this
    | up n => exact ⟨rfl, _, rfl⟩
   refine ⟨by simp only [RA.den]; congr 1; exact List.map_congr_left fun r hr => (key r hr).1, ?_⟩
   simp only [RA.den, Zbd, List.all_eq_true, List.mem_map]
   rintro r ⟨q, hq, rfl⟩
   obtain ⟨u, hu⟩ := (key q hq).2
   rw [hu]
 | als t => cases h
 | opt t sz i j => cases h
 | gv g v => cases h
 | _ => exact ⟨rfl, rfl⟩
def Zjj : List RA -> Option (List E × Nat × E × E × E × List E)
 | [] => none
 | a :: l => (match a with
   | .own sz es (.o2 .lcons z q) => (Ze9 l).map fun p => ([], sz, es, z, q, p)
   | .c x => (match Zjj l with | some (p, r) => some (x :: p, r) | none => none)
   | .zs es => (match Zjj l with | some (p, r) => some (.o1 .cl es :: p, r) | none => none)
   | _ => none)
def Z00 (c : Cfg) (rs : RSt) (t : Nat) (ty : TypeId) : Option (List E × RA) :=
 match szOf c.P ty, rs.tm.get t with
 | some (n, true), .ptr (.own b) off => (match Zcm rs.K (.own b) with
   | some cs => (match Zjj ((cs.drop off).take n) with
     | some (pre, sz, es, z, q, post) => if pre.length + 1 + post.length = n then some ([], .ags pre sz es (.o2 .lcons z q) post) else none
     | none => none)
   | none => none)
 | _, _ => none
theorem Zjk {ρ : Env} {m : Nm} : ∀ {l : List RA} {pre post : List E} {sz : Nat} {es z q : E}, Zjj l = some (pre, sz, es, z, q, post) ->
 Zcf (kDen ρ m l) = some (pre.map fun e => (e.den ρ).dd, sz, (es.den ρ).lst, (z.den ρ).row :: (q.den ρ).lst, post.map fun e => (e.den ρ).dd) /\ Zbw (kDen ρ m l) = none
 | [], _, _, _, _, _, _, h => by cases h
 | a :: l, pre, post, sz, es, z, q, h => by
   unfold Zjj at h
   split at h
   ·rename_i sz' es' z' q'
    rw [Option.map_eq_some_iff] at h
    obtain ⟨p, h1, h2⟩ := h
    cases h2
    have := Zgq (ρ := ρ) (m := m) h1
    refine ⟨?_, ?_⟩
    ·show Zcf (A.own sz (es.den ρ).lst ((z.den ρ).row :: (q.den ρ).lst) :: kDen ρ m l) = _
     simp only [Zcf, this, Option.map_some, List.map_nil]
    ·show Zbw (A.own sz (es.den ρ).lst ((z.den ρ).row :: (q.den ρ).lst) :: kDen ρ m l) = none
     simp [Zbw, Zhy]
   ·rename_i x
    split at h
    ·rename_i p r h1
     cases h
     obtain ⟨k1, k2⟩ := Zjk (ρ := ρ) (m := m) h1
     refine ⟨?_, ?_⟩
     ·show Zcf (A.d (x.den ρ).dd :: kDen ρ m l) = _
      simp only [Zcf, Zhy, k1, List.map_cons]
     ·show Zbw (A.d (x.den ρ).dd :: kDen ρ m l) = none
      simp [Zbw, Zhy, k2]
    ·cases h
   ·rename_i x
    split at h
    ·rename_i p r h1
     cases h
     obtain ⟨k1, k2⟩ := Zjk (ρ := ρ) (m := m) h1
     refine ⟨?_, ?_⟩
     ·show Zcf (A.zs (x.den ρ).lst :: kDen ρ m l) = _
      simp only [Zcf, Zhy, k1, List.map_cons, E.den, sem1, Dat.dd]
     ·show Zbw (A.zs (x.den ρ).lst :: kDen ρ m l) = none
      simp [Zbw, Zhy, k2]
    ·cases h
   ·cases h
def res1 (c : Cfg) (rs : RSt) : ResultVar -> Option (List E × RA)
 | .tmp t => (match rs.tm.get t with
   | .own sz es nw => some ([], .own sz es nw)
   | r => (match rval rs r with | some v => some ([], v) | none => none))
 | .cell t ty => (match Zq7 c.P ty rs (rs.tm.get t) with
   | some x => some x
   | none => Z00 c rs t ty)
def tup1 : RA -> Option (Bool × E)
 | .c x => some (false, x)
 | .agg e => some (true, e)
 | .zs es => some (false, .o1 .cl es)
 | .own _ es .lnil => some (false, .o1 .cl es)
 | _ => none
def resN (c : Cfg) (rs : RSt) : List ResultVar -> Option (List E × List (Bool × E))
 | [] => some ([], [])
 | r :: l => match res1 c rs r, resN c rs l with
   | some (n, v), some (n', vs) => (match tup1 v with | some x => some (n ++ n', x :: vs) | none => none)
   | _, _ => none
def resT (c : Cfg) (rs : RSt) (l : List ResultVar) : Option (List E × RA) :=
 match l with
 | [r] => res1 c rs r
 | l => (match resN c rs l with | some (n, vs) => some (n, .tup vs) | none => none)
def finT (c : Cfg) (rl : List ResultVar) (names : List RRef) : Re -> RSt -> T := fun e rs =>
 match Zdo rs.K names with
 | some K => if K.all (fun x => x.2.all RA.noOwn) then (match e with
   | .nrm | .ret => (match resT c rs rl with
     | some (n, v) => asks (.bool true) n rs (fun _ => if v.noOwn then .ret v K else .bad 80)
     | none => .bad 81)
   | .pan v => .pan v K
   | .exit _ => .bad 82) else .bad 83
 | none => .bad 84
def Zdr : Tr -> Nat -> List RA -> Tr
 | t, _, [] => t
 | t, k, x :: l => Zdr (t.set k x) (k + 1) l
def Ztp (depth : Nat) (args : List RA) (K : List (RRef × List RA)) (nv : Nat) : RSt := { tm := Zdr (Tr.full depth) 0 args, K := K, nv := nv, dep := 0, known := [], al := false }
theorem Zp4 : ∀ (n k : Nat), (Tr.full n).get k = .any
 | 0, _ => rfl
 | n + 1, k => by
   unfold Tr.full Tr.get
   split
   ·rfl
   ·split <;> exact Zp4 n _
theorem Zjl : ∀ (l : List RA) (t : Tr) (k j : Nat), (Zdr t k l).get j = .any \/ (j < k /\ (Zdr t k l).get j = t.get j) \/ (k <= j /\ l[j - k]? = some ((Zdr t k l).get j)) \/ (k + l.length <= j /\ (Zdr t k l).get j = t.get j)
 | [], t, k, j => by
   by_cases h : j < k
   ·exact .inr (.inl ⟨h, rfl⟩)
   ·exact .inr (.inr (.inr ⟨by simpa using h, rfl⟩))
 | x :: l, t, k, j => by
   rcases Zjl l (t.set k x) (k + 1) j with h | ⟨h1, h2⟩ | ⟨h1, h2⟩ | ⟨h1, h2⟩
   ·exact .inl h
   ·by_cases e : j = k
    ·subst e
     rcases Tr.get_set x t j with h3 | h3
     ·right; right; left
      refine ⟨Nat.le_refl _, ?_⟩
      show (x :: l)[j - j]? = some ((Zdr (t.set j x) (j + 1) l).get j)
      rw [h2, h3]; simp
     ·left
      show (Zdr (t.set j x) (j + 1) l).get j = .any
      rw [h2, h3]
    ·right; left
     refine ⟨by omega, ?_⟩
     show (Zdr (t.set k x) (k + 1) l).get j = t.get j
     rw [h2, Tr.get_set_ne x t e]
   ·right; right; left
    refine ⟨by omega, ?_⟩
    have : j - k = (j - (k + 1)) + 1 := by omega
    rw [this, List.getElem?_cons_succ]
    exact h2
   ·right; right; right
    refine ⟨by simp; omega, ?_⟩
    show (Zdr (t.set k x) (k + 1) l).get j = t.get j
    rw [h2, Tr.get_set_ne x t (by omega)]
section
variable {ρ : Env} {m : Nm} {rs : RSt} {s : St} {R : Out -> List (Ref × List A) -> Prop}
theorem Ztq {c : Cfg} (hd : Den ρ m rs s) {r : ResultVar} {n : List E} {v : RA} (h : res1 c rs r = some (n, v)) (hn : Nds ρ n) : Zex c.P s r = some (v.den ρ m s.gen) := by
 cases r with
 | tmp t =>
   simp only [res1] at h
   split at h
   ·rename_i sz es nw ht
    cases h
    have := (hd.tm t).resolve_left (by rw [ht]; intro e; cases e)
    rw [ht] at this
    simp only [Zex, this, RA.den]
   ·rename_i hne
    split at h
    ·rename_i v' hv
     cases h
     have hany : rs.tm.get t ≠ .any := by intro e; rw [e] at hv; simp [rval] at hv
     have he := (hd.tm t).resolve_left hany
     have he' : s.ev (.tmp t) = (rs.tm.get t).den ρ m s.gen := he
     have h1 := (Zkh hd he' hv).1
     show (match s.tm t with
      | .own sz es nw => some (A.own sz es nw)
      | _ => s.val (.tmp t)) = _
     split
     ·rename_i sz es nw ht
      exfalso
      rw [ht] at he
      generalize rs.tm.get t = q at *
      cases q with
      | own a b e => exact hne _ _ _ rfl
      | gv g v => simp [rval] at hv
      | _ => cases he
     ·exact h1
    ·cases h
 | cell t ty =>
   simp only [res1] at h
   split at h
   ·rename_i x hx
    cases h
    have hany : rs.tm.get t ≠ .any := by intro e; rw [e] at hx; unfold Zq7 at hx; split at hx <;> simp at hx
    have he := (hd.tm t).resolve_left hany
    have := Zsw (x := .tmp t) hd (r := rs.tm.get t) he hx hn
    show (match Zdj c.P s ty (s.tm t) with | some y => some y | none => Zf3 c.P s ty (s.tm t)) = _
    have e1 : Zdj c.P s ty (s.tm t) = _ := this.1
    rw [e1]
   ·unfold Z00 at h
    split at h
    ·rename_i k b off hsz hp
     split at h
     ·rename_i cs hcs
      split at h
      ·rename_i pre sz es z q post hs
       split at h
       ·rename_i hlen
        cases h
        have he : s.tm t = .ptr (.own b (m.ν b)) off := by
         have := (hd.tm t).resolve_left (by rw [hp]; intro e; cases e)
         rw [hp] at this; exact this
        have hK : s.K (.own b (m.ν b)) = some (kDen ρ m cs) := hd.look hcs
        obtain ⟨k1, k2⟩ := Zjk (ρ := ρ) (m := m) hs
        have e2 : ((kDen ρ m cs).drop off).take k = kDen ρ m ((cs.drop off).take k) := by simp [kDen, List.map_take, List.map_drop]
        show (match Zdj c.P s ty (s.tm t) with | some y => some y | none => Zf3 c.P s ty (s.tm t)) = _
        have e3 : Zdj c.P s ty (s.tm t) = none := by unfold Zdj; simp only [hsz, he, hK, e2, k2]
        have e4 : Zf3 c.P s ty (s.tm t) = some (.ags (pre.map fun e => (e.den ρ).dd) sz (es.den ρ).lst ((z.den ρ).row :: (q.den ρ).lst) (post.map fun e => (e.den ρ).dd)) := by
         unfold Zf3; simp only [hsz, he, hK, e2, k1, List.length_map]
         rw [if_pos hlen]
        rw [e3, e4]
        rfl
       ·cases h
      ·cases h
     ·cases h
    ·cases h
theorem Zy2 {v : RA} {x : Bool × E} {gen : Nat -> Nat} (h : tup1 v = some x) : Zir (v.den ρ m gen) = some (Ze5 ρ x) := by
 unfold tup1 at h
 split at h <;> cases h <;> rfl
theorem Ztr {c : Cfg} (hd : Den ρ m rs s) : ∀ {l : List ResultVar} {n : List E} {vs : List (Bool × E)}, resN c rs l = some (n, vs) -> Nds ρ n -> ((l.mapM (Zex c.P s)).bind fun vs => vs.mapM Zir) = some (vs.map (Ze5 ρ))
 | [], _, _, h, _ => by cases h; rfl
 | r :: l, n, vs, h, hn => by
   unfold resN at h
   split at h
   ·rename_i a v b vs' h1 h2
    split at h
    ·rename_i x hx
     cases h
     have h3 := Zax.1 hn
     have h4 := Ztq hd h1 h3.1
     have h5 := Ztr hd h2 h3.2
     rw [Option.bind_eq_some_iff] at h5
     obtain ⟨as, h6, h7⟩ := h5
     simp only [List.mapM_cons, h4, h6, bind, Option.bind_some, pure, Zy2 hx, h7, List.map_cons]
    ·cases h
   ·cases h
theorem Zy3 {c : Cfg} (hd : Den ρ m rs s) {l : List ResultVar} {n : List E} {v : RA} (h : resT c rs l = some (n, v)) (hn : Nds ρ n) : resA c.P s l = some (v.den ρ m s.gen) := by
 unfold resT at h
 unfold resA
 split at h
 ·exact Ztq hd h hn
 ·rename_i hne
  split at h
  ·rename_i a vs h1
   cases h
   have h2 := Ztr hd h1 hn
   split
   ·rename_i r; exact absurd rfl (hne r)
   ·rw [h2]; rfl
  ·cases h
theorem Zhw {K : List (RRef × List RA)} : ∀ {l : List RRef} {b : List (RRef × List RA)}, Zdo K l = some b -> b.map (·.1) = l
 | [], _, h => by cases h; rfl
 | r :: l, b, h => by
   unfold Zdo at h
   split at h
   ·rename_i c b' h1 h2
    cases h
    rw [List.map_cons, Zhw h2]
   ·cases h
theorem Z01 {c : Cfg} {rl : List ResultVar} {up : Nat -> Ref} {H : List (Ref × List A)} {K0 : List (RRef × List RA)} {ρ0 : Env} (hH : H.map (·.1) = (Zac ρ0 ⟨up, gen0⟩ K0).map (·.1)) (hnames : ∀ x ∈ K0, ∃ n, x.1 = .up n) {n0 : Nat} :
 Zj5 c.P up R n0 ρ0 [] (Kf c.P rl H R) (finT c rl (K0.map (·.1))) := by
 intro e ρ m rs s σ _ _ hu _ _ hd h
 unfold finT at h
 split at h
 ·rename_i K hK
  split at h
  ·rename_i hno
   have hup : (⟨m.up, gen0⟩ : Nm) = ⟨up, gen0⟩ := by rw [hu]
   have hcell : ∀ x ∈ K, kDen ρ m x.2 = kDen ρ ⟨up, gen0⟩ x.2 /\ (kDen ρ m x.2).all Zbd = true := fun x hx => by
    have h1 := List.all_eq_true.1 hno x hx
    refine ⟨List.map_congr_left fun y hy => ?_, ?_⟩
    ·have := (Zji (List.all_eq_true.1 h1 y hy) (ρ := ρ) (m := m) (gen := fun _ => 0)).1
     rw [this, hup]; rfl
    ·rw [List.all_eq_true]
     intro a ha
     obtain ⟨y, hy, rfl⟩ := List.mem_map.1 ha
     exact (Zji (List.all_eq_true.1 h1 y hy)).2
   have hnm : K.map (·.1) = K0.map (·.1) := Zhw hK
   have hname : ∀ x ∈ K, x.1.den m = x.1.den ⟨up, gen0⟩ := fun x hx => by
    have : x.1 ∈ K0.map (·.1) := hnm ▸ List.mem_map.2 ⟨x, hx, rfl⟩
    obtain ⟨y, hy, e⟩ := List.mem_map.1 this
    obtain ⟨n, hn⟩ := hnames y hy
    rw [<- e, hn]
    show Ref.up (m.up n) = Ref.up (up n)
    rw [hu]
   have hleft : Ab.Left s H (Zac ρ ⟨up, gen0⟩ K) := by
    refine ⟨?_, fun x hx => ?_⟩
    ·rw [hH]
     have := congrArg (List.map (RRef.den ⟨up, gen0⟩)) hnm
     simpa [Zac, Function.comp_def] using this
    ·obtain ⟨y, hy, rfl⟩ := List.mem_map.1 hx
     obtain ⟨h1, h2⟩ := hcell y hy
     rw [<- h1]
     exact ⟨by rw [<- hname y hy]; exact hd.look (Zde hK y hy), h2⟩
   have ret : (match resT c rs rl with
    | some (n, v) => asks (.bool true) n rs (fun _ => if v.noOwn then .ret v K else .bad 80)
    | none => .bad 81 : T).den c.P up R ρ σ -> Done c.P rl H R s := fun hk => by
    split at hk
    ·rename_i n v hv
     obtain ⟨kn, h1, h2, h3⟩ := Za2 hd.known hk
     split at h3
     ·rename_i hvo
      unfold T.den at h3
      obtain ⟨h4, h5⟩ := Zji hvo (ρ := ρ) (m := m) (gen := s.gen)
      exact ⟨v.den ρ m s.gen, Zac ρ ⟨up, gen0⟩ K, Zy3 hd hv (h2 rfl), h5, hleft, by rw [h4, hup]; exact h3⟩
     ·unfold T.den at h3; exact h3.elim
    ·unfold T.den at hk; exact hk.elim
   cases e with
   | nrm => exact ret h
   | ret => exact ret h
   | pan v =>
     unfold T.den at h
     exact ⟨Zac ρ ⟨up, gen0⟩ K, hleft, h⟩
   | exit id => unfold T.den at h; exact h.elim
  ·unfold T.den at h; exact h.elim
 ·unfold T.den at h; exact h.elim
def Z02 (args : List RA) : Bool := args.all fun x => match x with | .c _ | .agg _ | .zs _ => true | .ptr (.up _) _ => true | .fn _ l => (l.all fun r => match r with | .up _ => true | .own _ => false) | _ => false
def Zy4 (K : List (RRef × List RA)) : Bool := K.all fun x => (match x.1 with | .up _ => true | .own _ => false)
@[irreducible] def T.vc (P : Program) (up : Nat -> Ref) (R : Out -> List (Ref × List A) -> Prop) (t : T) (ρ : Env) : Prop := t.den P up R ρ []
theorem walk {c : Cfg} {op : Opt} {f : FuncId} {fn : Func} {code : Code} {rl : List ResultVar} {args : List RA} {K : List (RRef × List RA)} {nv depth : Nat} {up : Nat -> Ref} {ρ : Env} {t : T} (hmx : c.P.follows .mixedOrders = true) (hf : c.P.funcs[f]? = some fn) (hb : fn.body = some code) (hrs : fn.results.toList = rl) (hN : fn.ntmps = c.N)
 (hn : (fn.name == "runtime.NumGoroutine") = false) (hlen : args.length <= c.N) (ha : Z02 args = true) (hK : Zy4 K = true)
 (ht : Zc3 c op code (Ztp depth args K nv) (finT c rl (K.map (·.1))) = t) (hnd : ((Zac ρ ⟨up, gen0⟩ K).map (·.1)).Nodup) (h : t.vc c.P up R ρ) :
 Holds c.P f (args.map (RA.den ρ ⟨up, gen0⟩ gen0)) (Zac ρ ⟨up, gen0⟩ K) R := by
 unfold T.vc at h
 have hargs : ∀ x ∈ args, (x.den ρ ⟨up, gen0⟩ gen0).isOwn = false /\ (x.den ρ ⟨up, gen0⟩ gen0).plain = true /\ x.ali = none := fun x hx => by
  have := List.all_eq_true.1 ha x hx
  cases x with
  | c x => exact ⟨rfl, rfl, rfl⟩
  | agg x => exact ⟨rfl, rfl, rfl⟩
  | zs x => exact ⟨rfl, rfl, rfl⟩
  | ptr r o => exact ⟨rfl, rfl, rfl⟩
  | fn f l => exact ⟨rfl, rfl, rfl⟩
  | _ => cases this
 refine Zva fn c.N rl hf hb hrs hN hn (by simpa using hlen) hnd (fun x hx => ?_) fun C hP hCN => ?_
 ·obtain ⟨y, hy, rfl⟩ := List.mem_map.1 hx
  exact ⟨(hargs y hy).1, (hargs y hy).2.1⟩
 ·have hnames : ∀ x ∈ K, ∃ n, x.1 = .up n := fun x hx => by
   have := List.all_eq_true.1 hK x hx
   cases hx1 : x.1 with
   | own t => rw [hx1] at this; cases this
   | up n => exact ⟨n, rfl⟩
  have hget : ∀ j, (Ztp depth args K nv).tm.get j = .any \/ args[j]? = some ((Ztp depth args K nv).tm.get j) := fun j => by
   rcases Zjl args (Tr.full depth) 0 j with h | ⟨h1, _⟩ | ⟨_, h2⟩ | ⟨_, h2⟩
   ·exact .inl h
   ·omega
   ·right; rw [Nat.sub_zero] at h2; exact h2
   ·left
    show (Zdr (Tr.full depth) 0 args).get j = .any
    rw [h2, Zp4]
  have hd : Den ρ ⟨up, gen0⟩ (Ztp depth args K nv) (Zgj (args.map (RA.den ρ ⟨up, gen0⟩ gen0)) (Zac ρ ⟨up, gen0⟩ K)) := by
   refine ⟨fun j => ?_, fun _ j => ?_, fun r x hx => ?_, ?_, fun e he => by cases he⟩
   ·rcases hget j with h1 | h1
    ·exact .inl h1
    ·right
     show ((args.map (RA.den ρ ⟨up, gen0⟩ gen0))[j]?).getD .any = _
     rw [List.getElem?_map, h1]
     rfl
   ·rcases hget j with h1 | h1
    ·rw [h1]; rfl
    ·exact (hargs _ (List.mem_of_getElem? h1)).2.2
   ·exact Zdd hnd (List.mem_map.2 ⟨(r, x), hx, rfl⟩)
   ·have e : (K.map fun x => x.1.den ⟨up, gen0⟩) = (Zac ρ ⟨up, gen0⟩ K).map (·.1) := by simp [Zac, Function.comp_def]
    show (K.map fun x => x.1.den ⟨up, gen0⟩).Nodup
    rw [e]; exact hnd
  subst ht
  have := Zdq (c := c) (op := op) (C := C) hP hCN hmx code (n0 := nv) (ρ0 := ρ) (σ0 := []) (Z01 (K0 := K) (ρ0 := ρ) rfl hnames) (Agr.refl _ _) (Nat.le_refl _) rfl (List.prefix_rfl) rfl hd h
  exact this
end
def upOf (l : List Ref) : Nat -> Ref := fun n => l.getD n (.own 0 0)
def Zc4 (l : List Dat) : Env := fun n => l.getD n (.i 0)
theorem T_of {a b : Prop} (h : a = b) (hb : b) : a := h ▸ hb
def tB (b : Bool) : Bool := (Dat.b b).bool
@[simp] theorem Z2t (b : Bool) : tB b = b := by cases b <;> rfl
def gMax (a b : Int) : Int := if a < b then b else a
def gAt (l : List (List D)) (i : Int) : List D := l.getD i.toNat []
def Zjm (m : Nat) (l : List (List D)) : Bool := l.all fun z => z.length == m
end Go.Rf
end
section
namespace Go.Rf
open Go.Ab
inductive V where
 | d (x : D) | agg (l : List D) | tup (l : List (Bool × List D)) | ptr (i off : Nat) | own (sz : Nat) (es nw : List (List D)) | zs (es : List (List D)) | fn (f : Nat) (l : List Nat)
 | ags (pre : List D) (sz : Nat) (es nw : List (List D)) (post : List D)
def V.den (up : Nat -> Ref) : V -> A
 | .d x => .d x
 | .agg l => .agg l
 | .tup l => .tup l
 | .ptr i o => .ptr (.up (up i)) o
 | .own sz a b => .own sz a b
 | .zs a => .zs a
 | .fn f l => .fn f (l.map fun i => .up (up i))
 | .ags p sz a b q => .ags p sz a b q
def V.asD : V -> V
 | .zs es => .d (.slc es)
 | .own _ es [] => .d (.slc es)
 | v => v
theorem V.asD_ok (up : Nat -> Ref) (v : V) : AsD (v.den up) (v.asD.den up) := by
 unfold V.asD
 split
 ·exact .zs _
 ·exact .own _ _
 ·exact .same _
def V.zsD : V -> V
 | .zs es => .d (.slc es)
 | v => v
theorem Zv6 {P : Program} {f : FuncId} {up : Nat -> Ref} {vs : List V} {H : List (Ref × List A)} {R : Out -> List (Ref × List A) -> Prop} (h : Holds P f ((vs.map V.zsD).map (V.den up)) H R) : Holds P f (vs.map (V.den up)) H R := fun w cargs g h1 h2 => by
 refine h w cargs g ?_ h2
 generalize cargs.toList = l at h1
 clear h h2
 induction vs generalizing l with
 | nil => exact h1
 | cons v vs ih =>
   cases l with
   | nil => exact h1.elim
   | cons c l =>
     refine ⟨fun p => ?_, ih l h1.2⟩
     have := h1.1 p
     unfold V.zsD
     split
     ·exact this.1
     ·exact this
def bxs (up : Nat -> Ref) : Nat -> List (List V) -> List (Ref × List A)
 | _, [] => []
 | i, c :: l => (.up (up i), c.map (V.den up)) :: bxs up (i + 1) l
inductive VO where
 | ret (v : V) | pan (u : Value)
def VO.den (up : Nat -> Ref) : VO -> Out
 | .ret v => .ret (v.den up)
 | .pan u => .pan u
abbrev Res := VO × List (List V)
abbrev CallF := Nat -> List V -> List (List V) -> List Res
def Runs (P : Program) (f : Nat) (vs : List V) (K : List (List V)) (r : Res) : Prop :=
 r.2.length = K.length /\ ∀ up : Nat -> Ref, ((List.range K.length).map up).Nodup -> Holds P f (vs.map (V.den up)) (bxs up 0 K) fun o H => o = r.1.den up /\ H = bxs up 0 r.2
def Zp5 (P : Program) (call : CallF) : Prop := ∀ f vs K, ∀ r ∈ call f vs K, Runs P f vs K r
def Zol : List RRef -> RRef -> Option Nat
 | [], _ => none
 | q :: l, r => if q = r then some 0 else (match Zol l r with | some i => some (i + 1) | none => none)
theorem Zfe : ∀ {l : List RRef} {r : RRef} {i : Nat}, Zol l r = some i -> l[i]? = some r
 | q :: l, r, i, h => by
   unfold Zol at h
   split at h
   ·rename_i e; cases h; subst e; rfl
   ·split at h
    ·rename_i j hj; cases h; simpa using Zfe hj
    ·cases h
def idxs (l : List RRef) : List RRef -> Option (List Nat)
 | [] => some []
 | r :: t => match Zol l r, idxs l t with | some i, some a => some (i :: a) | _, _ => none
def RA.toV (l : List RRef) (ρ : Env) : RA -> Option V
 | .c x => some (.d (x.den ρ).dd)
 | .agg e => some (.agg (e.den ρ).row)
 | .tup t => some (.tup (t.map (Ze5 ρ)))
 | .ptr r o => match Zol l r with | some i => some (.ptr i o) | none => none
 | .own sz a b => some (.own sz (a.den ρ).lst (b.den ρ).lst)
 | .zs a => some (.zs (a.den ρ).lst)
 | .fn f cs => match idxs l cs with | some a => some (.fn f a) | none => none
 | .ags p sz a b q => some (.ags (p.map fun e => (e.den ρ).dd) sz (a.den ρ).lst (b.den ρ).lst (q.map fun e => (e.den ρ).dd))
 | _ => none
def toVs (l : List RRef) (ρ : Env) : List RA -> Option (List V)
 | [] => some []
 | x :: t => match x.toV l ρ, toVs l ρ t with | some v, some a => some (v :: a) | _, _ => none
def toKs (l : List RRef) (ρ : Env) : List (RRef × List RA) -> Option (List (List V))
 | [] => some []
 | x :: t => match toVs l ρ x.2, toKs l ρ t with | some v, some a => some (v :: a) | _, _ => none
def toPs (l : List RRef) : List RRef -> Option (List V)
 | [] => some []
 | r :: t => match Zol l r, toPs l t with | some i, some a => some (.ptr i 0 :: a) | _, _ => none
def Up (m : Nm) (l : List RRef) (up : Nat -> Ref) : Prop := ∀ (i : Nat) r, l[i]? = some r -> r.den m = up i
def Lo (m : Nm) (l : List RRef) (up : Nat -> Ref) : Prop := ∀ (i : Nat) r, l[i]? = some r -> r.den m = .up (up i)
theorem Zom {m : Nm} {l : List RRef} {g : Ref -> Ref} {up : Nat -> Ref} (h : ∀ (i : Nat) r, l[i]? = some r -> g (r.den m) = .up (up i)) : ∀ {c : List RRef} {a : List Nat}, idxs l c = some a -> c.map (fun r => g (r.den m)) = a.map fun i => .up (up i)
 | [], a, e => by cases e; rfl
 | r :: t, a, e => by
   unfold idxs at e
   split at e
   ·rename_i i a' h1 h2
    cases e
    rw [List.map_cons, List.map_cons, h i r (Zfe h1), Zom h h2]
   ·cases e
def V.flat : V -> Bool | .ptr _ _ | .fn _ _ => false | _ => true
section
variable {l : List RRef} {up : Nat -> Ref} {m : Nm} {ρ : Env}
theorem Zp6 {x : RA} {v : V} {gen : Nat -> Nat} (h : x.toV l ρ = some v) (hf : v.flat = true) : v.den up = x.den ρ m gen := by
 cases x with
 | ptr r o =>
   simp only [RA.toV] at h
   split at h
   ·cases h; cases hf
   ·cases h
 | fn f c =>
   simp only [RA.toV] at h
   split at h
   ·cases h; cases hf
   ·cases h
 | _ => first | (simp only [RA.toV] at h; cases h; rfl) | (cases h; done)
theorem Z03 {x : RA} {v : V} (hu : Up m l up) {gen : Nat -> Nat} (h : x.toV l ρ = some v) : (x.den ρ m gen).lift = v.den up := by
 have hu' : ∀ (i : Nat) r, l[i]? = some r -> Ref.up (r.den m) = .up (up i) := fun i r e => by rw [hu i r e]
 cases x with
 | ptr r o =>
   simp only [RA.toV] at h
   split at h
   ·rename_i i hi; cases h
    show A.ptr (.up (r.den m)) o = _
    rw [hu' i r (Zfe hi)]; rfl
   ·cases h
 | fn f c =>
   simp only [RA.toV] at h
   split at h
   ·rename_i a ha; cases h
    show A.fn f ((c.map (RRef.den m)).map .up) = _
    rw [List.map_map]
    have := Zom (g := .up) hu' ha
    simp only [Function.comp_def, this]; rfl
   ·cases h
 | _ => first | (simp only [RA.toV] at h; cases h; rfl) | (cases h; done)
theorem Zw4 {x : RA} {v : V} (hu : Lo m l up) {gen : Nat -> Nat} (h : x.toV l ρ = some v) : x.den ρ m gen = v.den up := by
 cases x with
 | ptr r o =>
   simp only [RA.toV] at h
   split at h
   ·rename_i i hi; cases h
    show A.ptr (r.den m) o = _
    rw [hu i r (Zfe hi)]; rfl
   ·cases h
 | fn f c =>
   simp only [RA.toV] at h
   split at h
   ·rename_i a ha; cases h
    show A.fn f (c.map (RRef.den m)) = _
    have := Zom (g := id) hu ha
    simp only [id] at this
    rw [this]; rfl
   ·cases h
 | _ => first | (simp only [RA.toV] at h; cases h; rfl) | (cases h; done)
theorem Zon (hu : Up m l up) {gen : Nat -> Nat} : ∀ {t : List RA} {vs : List V}, toVs l ρ t = some vs -> t.map (fun a => (a.den ρ m gen).lift) = vs.map (V.den up)
 | [], _, h => by cases h; rfl
 | x :: t, vs, h => by
   unfold toVs at h
   split at h
   ·rename_i v a h1 h2; cases h
    rw [List.map_cons, List.map_cons, Z03 hu h1, Zon hu h2]
   ·cases h
theorem Zoo (hu : Lo m l up) {gen : Nat -> Nat} : ∀ {t : List RA} {vs : List V}, toVs l ρ t = some vs -> t.map (RA.den ρ m gen) = vs.map (V.den up)
 | [], _, h => by cases h; rfl
 | x :: t, vs, h => by
   unfold toVs at h
   split at h
   ·rename_i v a h1 h2; cases h
    rw [List.map_cons, List.map_cons, Zw4 hu h1, Zoo hu h2]
   ·cases h
theorem Zts (hu : Up m l up) : ∀ {t : List RRef} {vs : List V}, toPs l t = some vs -> t.map (fun r => A.ptr (.up (r.den m)) 0) = vs.map (V.den up)
 | [], _, h => by cases h; rfl
 | x :: t, vs, h => by
   unfold toPs at h
   split at h
   ·rename_i i a h1 h2; cases h
    rw [List.map_cons, List.map_cons, Zts hu h2, hu i x (Zfe h1)]; rfl
   ·cases h
theorem Zll (hu : Up m l up) : ∀ {t : List (RRef × List RA)} {K : List (List V)} (i : Nat), toKs l ρ t = some K -> (∀ (j : Nat) x, t[j]? = some x -> l[i + j]? = some x.1) -> Zaz (Zac ρ m t) = bxs up i K
 | [], _, _, h, _ => by cases h; rfl
 | x :: t, K, i, h, hn => by
   unfold toKs at h
   split at h
   ·rename_i v a h1 h2; cases h
    have h3 := Zll hu (i + 1) h2 fun j y hy => by rw [Nat.add_assoc, Nat.add_comm 1 j]; exact hn (j + 1) y (by simpa using hy)
    have h4 := hu i x.1 (hn 0 x rfl)
    show (Ref.up (x.1.den m), (kDen ρ m x.2).map A.lift) :: Zaz (Zac ρ m t) = _
    have h5 := Zon (gen := fun _ => 0) hu h1
    rw [h3, h4, kDen, List.map_map]
    simp only [Function.comp_def, h5]; rfl
   ·cases h
theorem Zop (hu : Lo m l up) : ∀ {t : List (RRef × List RA)} {K : List (List V)} (i : Nat), toKs l ρ t = some K -> (∀ (j : Nat) x, t[j]? = some x -> l[i + j]? = some x.1) -> Zac ρ m t = bxs up i K
 | [], _, _, h, _ => by cases h; rfl
 | x :: t, K, i, h, hn => by
   unfold toKs at h
   split at h
   ·rename_i v a h1 h2; cases h
    have h3 := Zop hu (i + 1) h2 fun j y hy => by rw [Nat.add_assoc, Nat.add_comm 1 j]; exact hn (j + 1) y (by simpa using hy)
    have h4 := hu i x.1 (hn 0 x rfl)
    show (x.1.den m, kDen ρ m x.2) :: Zac ρ m t = _
    have h5 := Zoo (gen := fun _ => 0) hu h1
    rw [h3, h4, kDen, h5]; rfl
   ·cases h
end
def Agr' (ρ : Env) (n : Nat) (l : List Dat) : Prop := ∀ (i : Nat) x, l[i]? = some x -> ρ (n + i) = x
theorem Agr'.left {ρ : Env} {n : Nat} {l k : List Dat} (h : Agr' ρ n (l ++ k)) : Agr' ρ n l := fun i x e => h i x (by
 have := (List.getElem?_eq_some_iff.1 e).1
 rw [List.getElem?_append_left this]; exact e)
theorem Agr'.right {ρ : Env} {n : Nat} {l k : List Dat} (h : Agr' ρ n (l ++ k)) : Agr' ρ (n + l.length) k := fun i x e => by
 rw [Nat.add_assoc]
 exact h _ x (by rw [List.getElem?_append_right (by omega)]; simpa using e)
def mE : E -> D -> Nat -> Option (List Dat)
 | .o1 (.ci k) (.var m), .lit (.int k' x), n => if m = n /\ k = k' then some [.i x] else none
 | .o1 .cb (.o1 .tb (.var m)), .lit (.bool x), n => if m = n then some [.b x] else none
 | .o1 .cs (.var m), .lit (.string b), n => if m = n then some [.s b.data.toList] else none
 | .o1 .cl (.var m), .slc es, n => if m = n then some [.l es] else none
 | .var m, x, n => if m = n then some [.d x] else none
 | _, _, _ => none
theorem Zy5 {e : E} {x : D} {n : Nat} {l : List Dat} (h : mE e x n = some l) {ρ : Env} (hρ : Agr' ρ n l) : (e.den ρ).dd = x := by
 have h0 : ∀ d, l = [d] -> ρ n = d := fun d e => by subst e; exact hρ 0 d rfl
 unfold mE at h
 split at h
 all_goals first
  | cases h; done
  | (split at h
     ·rename_i hc
      cases h
      first
       | (obtain ⟨rfl, rfl⟩ := hc; simp [E.den, sem1, h0 _ rfl, Dat.dd, Dat.int]; done)
       | (subst hc; simp [E.den, sem1, h0 _ rfl, Dat.dd, Dat.int, Dat.bool, Dat.str, Dat.lst, Zaa]; done)
     ·cases h)
def mEs : List E -> List D -> Nat -> Option (List Dat)
 | [], [], _ => some []
 | e :: t, x :: u, n => match mE e x n with
   | some a => (match mEs t u (n + a.length) with | some b => some (a ++ b) | none => none)
   | none => none
 | _, _, _ => none
theorem Ztt {ρ : Env} : ∀ {t : List E} {u : List D} {n : Nat} {l : List Dat}, mEs t u n = some l -> Agr' ρ n l -> t.map (fun e => (e.den ρ).dd) = u
 | [], [], _, _, _, _ => rfl
 | e :: t, x :: u, n, l, h, hρ => by
   unfold mEs at h
   split at h
   ·rename_i a h1
    split at h
    ·rename_i b h2; cases h
     rw [List.map_cons, Zy5 h1 hρ.left, Ztt h2 hρ.right]
    ·cases h
   ·cases h
 | [], _ :: _, _, _, h, _ => by cases h
 | _ :: _, [], _, _, h, _ => by cases h
def mT1 : Bool × E -> Bool × List D -> Nat -> Option (List Dat)
 | (true, .var m), (true, r), n => if m = n then some [.r r] else none
 | (false, e), (false, [x]), n => mE e x n
 | _, _, _ => none
theorem Z04 {e : Bool × E} {x : Bool × List D} {n : Nat} {l : List Dat} (h : mT1 e x n = some l) {ρ : Env} (hρ : Agr' ρ n l) : Ze5 ρ e = x := by
 unfold mT1 at h
 split at h
 ·split at h
  ·rename_i hm; subst hm; cases h
   have := hρ 0 _ rfl
   rw [Nat.add_zero] at this
   simp [Ze5, E.den, this, Dat.row]
  ·cases h
 ·simp [Ze5, Zy5 h hρ]
 ·cases h
def mT' : List (Bool × E) -> List (Bool × List D) -> Nat -> Option (List Dat)
 | [], [], _ => some []
 | e :: t, x :: u, n => match mT1 e x n with
   | some a => (match mT' t u (n + a.length) with | some b => some (a ++ b) | none => none)
   | none => none
 | _, _, _ => none
theorem Zw5 {ρ : Env} : ∀ {t : List (Bool × E)} {u : List (Bool × List D)} {n : Nat} {l : List Dat}, mT' t u n = some l -> Agr' ρ n l -> t.map (Ze5 ρ) = u
 | [], [], _, _, _, _ => rfl
 | e :: t, x :: u, n, l, h, hρ => by
   unfold mT' at h
   split at h
   ·rename_i a h1
    split at h
    ·rename_i b h2; cases h
     rw [List.map_cons, Z04 h1 hρ.left, Zw5 h2 hρ.right]
    ·cases h
   ·cases h
 | [], _ :: _, _, _, h, _ => by cases h
 | _ :: _, [], _, _, h, _ => by cases h
def mV (l : List RRef) : RA -> V -> Nat -> Option (List Dat)
 | .c e, .d x, n => mE e x n
 | .agg (.var m), .agg r, n => if m = n then some [.r r] else none
 | .tup t, .tup u, n => mT' t u n
 | .own sz (.var m) .lnil, .own sz' es [], n => if m = n /\ sz = sz' then some [.l es] else none
 | .own sz .lnil (.var m), .own sz' [] nw, n => if m = n /\ sz = sz' then some [.l nw] else none
 | .zs (.var m), .zs es, n => if m = n then some [.l es] else none
 | .zs .lnil, .zs [], _ => some []
 | .ptr r o, .ptr i o', _ => if Zol l r = some i /\ o = o' then some [] else none
 | .fn f c, .fn f' a, _ => if f = f' /\ idxs l c = some a then some [] else none
 | .ags pre sz .lnil (.o2 .lcons (.var m) .lnil) post, .ags pre' sz' [] [r] post', n => if sz = sz' then (match mEs pre pre' n with
   | some a => if m = n + a.length then (match mEs post post' (n + a.length + 1) with | some b => some (a ++ ([.r r] ++ b)) | none => none) else none
   | none => none) else none
 | _, _, _ => none
def mVs (l : List RRef) : List RA -> List V -> Nat -> Option (List Dat)
 | [], [], _ => some []
 | e :: t, x :: u, n => match mV l e x n with
   | some a => (match mVs l t u (n + a.length) with | some b => some (a ++ b) | none => none)
   | none => none
 | _, _, _ => none
def mKs (l : List RRef) : List (List RA) -> List (List V) -> Nat -> Option (List Dat)
 | [], [], _ => some []
 | e :: t, x :: u, n => match mVs l e x n with
   | some a => (match mKs l t u (n + a.length) with | some b => some (a ++ b) | none => none)
   | none => none
 | _, _, _ => none
section
variable {l : List RRef} {up : Nat -> Ref} {m : Nm} {ρ : Env}
theorem Zy6 {p : RA} {v : V} {n : Nat} {w : List Dat} (h : mV l p v n = some w) (hρ : Agr' ρ n w) : p.toV l ρ = some v := by
 have h0 : ∀ d, w = [d] -> ρ n = d := fun d e => by subst e; exact hρ 0 d rfl
 unfold mV at h
 split at h
 ·simp only [RA.toV, Zy5 h hρ]
 ·split at h
  ·rename_i hm; subst hm; cases h; simp [RA.toV, E.den, h0 _ rfl, Dat.row]
  ·cases h
 ·simp only [RA.toV, Zw5 h hρ]
 ·split at h
  ·rename_i hm; obtain ⟨rfl, rfl⟩ := hm; cases h; simp [RA.toV, E.den, h0 _ rfl, Dat.lst]
  ·cases h
 ·split at h
  ·rename_i hm; obtain ⟨rfl, rfl⟩ := hm; cases h; simp [RA.toV, E.den, h0 _ rfl, Dat.lst]
  ·cases h
 ·split at h
  ·rename_i hm; subst hm; cases h; simp [RA.toV, E.den, h0 _ rfl, Dat.lst]
  ·cases h
 ·rfl
 ·split at h
  ·rename_i hm; obtain ⟨h1, rfl⟩ := hm; simp [RA.toV, h1]
  ·cases h
 ·split at h
  ·rename_i hm; obtain ⟨rfl, h1⟩ := hm; simp [RA.toV, h1]
  ·cases h
 ·split at h
  ·rename_i hs; subst hs
   split at h
   ·rename_i a h1
    split at h
    ·rename_i hm
     split at h
     ·rename_i b h2; cases h
      have a1 := Ztt h1 hρ.left
      have a2 := hρ.right.left 0 _ rfl
      have a3 := Ztt h2 (by have := hρ.right.right; simpa [Nat.add_assoc] using this)
      subst hm
      simp only [Nat.add_zero] at a2
      simp only [RA.toV, a1, a3, E.den, sem2, a2, Dat.lst, Dat.row]
     ·cases h
    ·cases h
   ·cases h
  ·cases h
 ·cases h
theorem Ztu : ∀ {t : List RA} {u : List V} {n : Nat} {w : List Dat}, mVs l t u n = some w -> Agr' ρ n w -> toVs l ρ t = some u
 | [], [], _, _, _, _ => rfl
 | e :: t, x :: u, n, w, h, hρ => by
   unfold mVs at h
   split at h
   ·rename_i a h1
    split at h
    ·rename_i b h2; cases h
     unfold toVs
     rw [Zy6 h1 hρ.left, Ztu h2 hρ.right]
    ·cases h
   ·cases h
 | [], _ :: _, _, _, h, _ => by cases h
 | _ :: _, [], _, _, h, _ => by cases h
theorem Zp7 : ∀ {t : List (RRef × List RA)} {u : List (List V)} {n : Nat} {w : List Dat}, mKs l (t.map (·.2)) u n = some w -> Agr' ρ n w -> toKs l ρ t = some u
 | [], [], _, _, _, _ => rfl
 | e :: t, x :: u, n, w, h, hρ => by
   rw [List.map_cons] at h
   unfold mKs at h
   split at h
   ·rename_i a h1
    split at h
    ·rename_i b h2; cases h
     unfold toKs
     rw [Ztu h1 hρ.left, Zp7 h2 hρ.right]
    ·cases h
   ·cases h
 | [], _ :: _, _, _, h, _ => by cases h
 | _ :: _, [], _, _, h, _ => by cases h
end
def Zy7 : Dat -> Dk | .i _ => .i | .b _ => .b | .s _ => .s | .l _ => .l | .r _ => .r | .d _ => .d
def Zec : List Dk -> List Dat -> Bool
 | [], [] => true
 | k :: ks, x :: l => decide (Zy7 x = k) && Zec ks l
 | _, _ => false
def setN (ρ : Env) : Nat -> List Dat -> Env
 | _, [] => ρ
 | n, x :: l => setN (ρ.set n x) (n + 1) l
theorem Zy8 {l : List Dat} : ∀ {ρ : Env} {n k : Nat}, k < n -> setN ρ n l k = ρ k := by
 induction l with
 | nil => intro ρ n k _; rfl
 | cons x l ih => intro ρ n k h; rw [setN, ih (by omega)]; simp [Env.set]; omega
theorem Zlm {l : List Dat} : ∀ {ρ : Env} {n : Nat}, Agr' (setN ρ n l) n l := by
 induction l with
 | nil => intro ρ n i x h; simp at h
 | cons y l ih =>
   intro ρ n i x h
   cases i with
   | zero =>
     simp only [List.getElem?_cons_zero, Option.some.injEq] at h
     subst h
     rw [setN, Nat.add_zero, Zy8 (by omega)]; simp [Env.set]
   | succ i =>
     have := ih (ρ := ρ.set n y) (n := n + 1) i x (by simpa using h)
     rw [setN, <- this]; congr 1; omega
theorem Zy9 {k : Dk} {x : Dat} (h : Zy7 x = k) : k.mk (k.un x) = x := by subst h; cases x <;> rfl
theorem Zjn : ∀ {ks : List Dk} {l : List Dat} {n : Nat} {ρ : Env} {p : Env -> Prop}, Zec ks l = true -> p (setN ρ n l) -> exK ks n ρ p
 | [], [], _, _, _, _, h => h
 | k :: ks, x :: l, n, ρ, p, hk, h => by
   simp only [Zec, Bool.and_eq_true, decide_eq_true_eq] at hk
   exact ⟨k.un x, by rw [Zy9 hk.1]; exact Zjn hk.2 h⟩
 | [], _ :: _, _, _, _, hk, _ => by cases hk
 | _ :: _, [], _, _, _, hk, _ => by cases hk
theorem Zza (k : Dk) (x : k.ty) : Zy7 (k.mk x) = k := by cases k <;> rfl
theorem Zoq : ∀ {ks : List Dk} {n : Nat} {ρ : Env} {acc : List Dat} {p : Env -> List Dat -> Prop}, (∀ l, Zec ks l = true -> p (setN ρ n l) (acc ++ l)) -> allK ks n ρ acc p
 | [], _, _, acc, p, h => by have := h [] rfl; rwa [List.append_nil] at this
 | k :: ks, n, ρ, acc, p, h => fun x => Zoq fun l hl => by
   have := h (k.mk x :: l) (by simp only [Zec, Bool.and_eq_true, decide_eq_true_eq]; exact ⟨Zza k x, hl⟩)
   rw [List.append_assoc]; exact this
def curP : (ks : List Dk) -> (List Dat -> Prop) -> CurP ks
 | [], p => p []
 | k :: ks, p => fun x => curP ks fun l => p (k.mk x :: l)
def curN : (ks : List Dk) -> (List Dat -> Nat) -> CurN ks
 | [], p => p []
 | k :: ks, p => fun x => curN ks fun l => p (k.mk x :: l)
theorem Zp8 : ∀ {ks : List Dk} {l : List Dat} {p : List Dat -> Prop}, Zec ks l = true -> appP ks (curP ks p) l = p l
 | [], [], _, _ => rfl
 | k :: ks, x :: l, p, h => by
   simp only [Zec, Bool.and_eq_true, decide_eq_true_eq] at h
   show appP ks (curP ks _) l = _
   rw [Zp8 h.2, Zy9 h.1]
 | [], _ :: _, _, h => by cases h
 | _ :: _, [], _, h => by cases h
theorem Zp9 : ∀ {ks : List Dk} {l : List Dat} {p : List Dat -> Nat}, Zec ks l = true -> appN ks (curN ks p) l = p l
 | [], [], _, _ => rfl
 | k :: ks, x :: l, p, h => by
   simp only [Zec, Bool.and_eq_true, decide_eq_true_eq] at h
   show appN ks (curN ks _) l = _
   rw [Zp9 h.2, Zy9 h.1]
 | [], _ :: _, _, h => by cases h
 | _ :: _, [], _, h => by cases h
noncomputable def mkIs (p : Nat -> List Dat -> Prop) (q : Nat -> List Dat -> Nat) : List (List Dk) -> Nat -> Invs
 | [], _ => []
 | ks :: r, j => (appP ks (curP ks (p j)), appN ks (curN ks (q j))) :: mkIs p q r (j + 1)
theorem Zw6 {p : Nat -> List Dat -> Prop} {q : Nat -> List Dat -> Nat} : ∀ {kss : List (List Dk)} {j : Nat} {f : Invs -> Prop}, f (mkIs p q kss j) -> exL kss f
 | [], _, _, h => h
 | ks :: r, j, f, h => ⟨curP ks (p j), curN ks (q j), Zw6 (j := j + 1) h⟩
noncomputable def mkIc (p : Nat -> List Dat -> Prop) : List (List Dk) -> Nat -> Invs
 | [], _ => []
 | ks :: r, j => (appP ks (curP ks (p j)), fun _ => 0) :: mkIc p r (j + 1)
theorem Zw7 {p : Nat -> List Dat -> Prop} : ∀ {kss : List (List Dk)} {j : Nat} {f : Invs -> Prop}, f (mkIc p kss j) -> exC kss f
 | [], _, _, h => h
 | ks :: r, j, f, h => ⟨curP ks (p j), Zw7 (j := j + 1) h⟩
theorem Zqa {p : Nat -> List Dat -> Prop} {q : Nat -> List Dat -> Nat} : ∀ {kss : List (List Dk)} {j i : Nat}, (mkIs p q kss j)[i]? = (kss[i]?).map fun ks => (appP ks (curP ks (p (j + i))), appN ks (curN ks (q (j + i))))
 | [], _, _ => rfl
 | ks :: r, j, 0 => rfl
 | ks :: r, j, i + 1 => by
   rw [mkIs, List.getElem?_cons_succ, List.getElem?_cons_succ, Zqa, show j + 1 + i = j + (i + 1) by omega]
theorem Zqb {p : Nat -> List Dat -> Prop} : ∀ {kss : List (List Dk)} {j i : Nat}, (mkIc p kss j)[i]? = (kss[i]?).map fun ks => (appP ks (curP ks (p (j + i))), fun _ => 0)
 | [], _, _ => rfl
 | ks :: r, j, 0 => rfl
 | ks :: r, j, i + 1 => by
   rw [mkIc, List.getElem?_cons_succ, List.getElem?_cons_succ, Zqb, show j + 1 + i = j + (i + 1) by omega]
theorem Zjo {p : Nat -> List Dat -> Prop} {q : Nat -> List Dat -> Nat} {kss : List (List Dk)} {ks : List Dk} {i : Nat} {a : List Dat} (h : kss[i]? = some ks) (hk : Zec ks a = true) :
 (Zcr (mkIs p q kss 0) i a = p i a) /\ (Zet (mkIs p q kss 0) i a = q i a) /\ (Zcr (mkIc p kss 0) i a = p i a) := by
 unfold Zcr Zet
 rw [Zqa, Zqb, h]
 simp only [Option.map_some, Nat.zero_add, Zp8 hk, Zp9 hk, and_self]
def vB : Value -> Value -> Bool
 | .int k n, .int k' n' => decide (k = k') && decide (n = n')
 | .bool a, .bool b => a == b
 | .string a, .string b => decide (a.data.toList = b.data.toList)
 | .nilIface, .nilIface => true
 | _, _ => false
theorem Z05 {a b : Value} (h : vB a b = true) : a = b := by
 unfold vB at h
 split at h
 ·simp only [Bool.and_eq_true, decide_eq_true_eq] at h; rw [h.1, h.2]
 ·rw [beq_iff_eq] at h; rw [h]
 ·rename_i a b
  have h := of_decide_eq_true h
  obtain ⟨⟨x⟩⟩ := a
  obtain ⟨⟨y⟩⟩ := b
  have : x = y := h
  rw [this]
 ·rfl
 ·cases h
mutual
def dB : D -> D -> Bool
 | .lit a, .lit b => vB a b
 | .slc a, .slc b => lB a b
 | _, _ => false
def rB : List D -> List D -> Bool
 | [], [] => true
 | x :: l, y :: m => dB x y && rB l m
 | _, _ => false
def lB : List (List D) -> List (List D) -> Bool
 | [], [] => true
 | x :: l, y :: m => rB x y && lB l m
 | _, _ => false
end
mutual
theorem Z06 : ∀ {a b : D}, dB a b = true -> a = b
 | .lit _, .lit _, h => by rw [dB] at h; rw [Z05 h]
 | .slc _, .slc _, h => by rw [dB] at h; rw [Ztv h]
 | .lit _, .slc _, h => by simp [dB] at h
 | .slc _, .lit _, h => by simp [dB] at h
theorem Zv7 : ∀ {a b : List D}, rB a b = true -> a = b
 | [], [], _ => rfl
 | x :: l, y :: m, h => by rw [rB, Bool.and_eq_true] at h; rw [Z06 h.1, Zv7 h.2]
 | [], _ :: _, h => by simp [rB] at h
 | _ :: _, [], h => by simp [rB] at h
theorem Ztv : ∀ {a b : List (List D)}, lB a b = true -> a = b
 | [], [], _ => rfl
 | x :: l, y :: m, h => by rw [lB, Bool.and_eq_true] at h; rw [Zv7 h.1, Ztv h.2]
 | [], _ :: _, h => by simp [lB] at h
 | _ :: _, [], h => by simp [lB] at h
end
def tpB : List (Bool × List D) -> List (Bool × List D) -> Bool
 | [], [] => true
 | x :: l, y :: m => decide (x.1 = y.1) && rB x.2 y.2 && tpB l m
 | _, _ => false
theorem Zw8 : ∀ {a b : List (Bool × List D)}, tpB a b = true -> a = b
 | [], [], _ => rfl
 | (x, x') :: l, (y, y') :: m, h => by
   simp only [tpB, Bool.and_eq_true, decide_eq_true_eq] at h; rw [h.1.1, Zv7 h.1.2, Zw8 h.2]
 | [], _ :: _, h => by simp [tpB] at h
 | _ :: _, [], h => by simp [tpB] at h
def V.eqB : V -> V -> Bool
 | .d x, .d y => dB x y
 | .agg x, .agg y => rB x y
 | .tup x, .tup y => tpB x y
 | .ptr i o, .ptr j u => decide (i = j) && decide (o = u)
 | .own z a b, .own z' a' b' => decide (z = z') && lB a a' && lB b b'
 | .zs a, .zs b => lB a b
 | .fn f a, .fn g b => decide (f = g) && decide (a = b)
 | _, _ => false
theorem V.eqB_eq {a b : V} (h : a.eqB b = true) : a = b := by
 unfold V.eqB at h
 split at h
 ·rw [Z06 h]
 ·rw [Zv7 h]
 ·rw [Zw8 h]
 ·simp only [Bool.and_eq_true, decide_eq_true_eq] at h; rw [h.1, h.2]
 ·simp only [Bool.and_eq_true, decide_eq_true_eq] at h; rw [h.1.1, Ztv h.1.2, Ztv h.2]
 ·rw [Ztv h]
 ·simp only [Bool.and_eq_true, decide_eq_true_eq] at h; rw [h.1, h.2]
 ·cases h
def vsB : List V -> List V -> Bool
 | [], [] => true
 | x :: l, y :: m => x.eqB y && vsB l m
 | _, _ => false
theorem Ztw : ∀ {a b : List V}, vsB a b = true -> a = b
 | [], [], _ => rfl
 | x :: l, y :: m, h => by rw [vsB, Bool.and_eq_true] at h; rw [V.eqB_eq h.1, Ztw h.2]
 | [], _ :: _, h => by simp [vsB] at h
 | _ :: _, [], h => by simp [vsB] at h
def ksB : List (List V) -> List (List V) -> Bool
 | [], [] => true
 | x :: l, y :: m => vsB x y && ksB l m
 | _, _ => false
theorem Ztx : ∀ {a b : List (List V)}, ksB a b = true -> a = b
 | [], [], _ => rfl
 | x :: l, y :: m, h => by rw [ksB, Bool.and_eq_true] at h; rw [Ztw h.1, Ztx h.2]
 | [], _ :: _, h => by simp [ksB] at h
 | _ :: _, [], h => by simp [ksB] at h
def VO.eqB : VO -> VO -> Bool
 | .ret a, .ret b => a.eqB b
 | .pan a, .pan b => vB a b
 | _, _ => false
theorem VO.eqB_eq {a b : VO} (h : a.eqB b = true) : a = b := by
 unfold VO.eqB at h
 split at h
 ·rw [V.eqB_eq h]
 ·rw [Z05 h]
 ·cases h
def T.nth : T -> Nat -> Option (List Dk × T)
 | .vcons ks b _, 0 => some (ks, b)
 | .vcons _ _ r, i + 1 => r.nth i
 | _, _ => none
structure Fr where
 n : Nat
 vs : T
 ρ : Env
 lp : Bool
def ups (k : Nat) : List RRef := (List.range k).map .up
def Zty (k : Nat) (l : List RRef) : Bool := decide l.Nodup && l.all fun r => match r with | .up n => decide (n < k) | .own _ => true
def endK (k : Nat) (ρ : Env) (o : VO) (K : List (RRef × List RA)) : Option Res :=
 if K.map (·.1) = ups k then (match toKs (ups k) ρ K with | some a => some (o, a) | none => none) else none
def endR (k : Nat) (ρ : Env) (v : RA) (K : List (RRef × List RA)) : Option Res :=
 match v.toV (ups k) ρ with | some v => endK k ρ (.ret v) K | none => none
def askC (k : Nat) (ρ : Env) (args : List RA) (caps : List RRef) (bx : List (RRef × List RA)) : Option (List V × List (List V)) :=
 let l := bx.map (·.1)
 if Zty k l then (match toVs l ρ args, toPs l caps, toKs l ρ bx with
  | some a, some b, some c => some ((a ++ b).map V.zsD, c)
  | _, _, _ => none) else none
def gotR (l : List RRef) (ks : List Dk) (n : Nat) (res : RA) (v : V) (bx' : List (RRef × List RA)) (K : List (List V)) : Option (List Dat) :=
 match mV l res v n with
 | some a => (match mKs l (bx'.map (·.2)) K (n + a.length) with
   | some b => if v.flat && (Zec ks (a ++ b) && decide (bx'.map (·.1) = l)) then some (a ++ b) else none
   | none => none)
 | none => none
def gotP (l : List RRef) (ks : List Dk) (n : Nat) (bx' : List (RRef × List RA)) (K : List (List V)) : Option (List Dat) :=
 match mKs l (bx'.map (·.2)) K n with
 | some b => if Zec ks b && decide (bx'.map (·.1) = l) then some b else none
 | none => none
def gotV (l : List RRef) (ks : List Dk) (n : Nat) (res : RA) (v : V) : Option (List Dat) :=
 match mV l res v n with
 | some b => if v.flat && Zec ks b then some b else none
 | none => none
def Zkq {α : Type} (l : List Res) (g : Res -> Option α) : Option α := match l with
 | [] => none
 | r :: l => match g r with | some a => some a | none => Zkq l g
theorem Zb4 {α : Type} {g : Res -> Option α} {a : α} : ∀ {l : List Res}, Zkq l g = some a -> ∃ r ∈ l, g r = some a
 | [], h => by cases h
 | r :: l, h => by
   unfold Zkq at h
   split at h
   ·rename_i x hx; cases h; exact ⟨r, List.mem_cons_self .., hx⟩
   ·obtain ⟨r', h1, h2⟩ := Zb4 h; exact ⟨r', List.mem_cons_of_mem _ h1, h2⟩
inductive Got where
 | ret (v : V) (w : List Dat) | ret2 (v : V) (w : List Dat) | pan (u : Value) (w : List Dat)
def gotC (l : List RRef) (ks : List Dk) (n : Nat) (res : RA) (bx' : List (RRef × List RA)) (ksp : List Dk) (bxp : List (RRef × List RA)) : Res -> Option Got
 | (.ret v, K) => (match gotR l ks n res v bx' K with
   | some w => some (.ret v w)
   | none => (match gotR l ks n res v.asD bx' K with | some w => some (.ret v.asD w) | none => none))
 | (.pan u, K) => (match gotP l ksp (n + 1) bxp K with | some w => some (.pan u w) | none => none)
def Zor (l : List RRef) (ks : List Dk) (n : Nat) (res : RA) (bx' : List (RRef × List RA)) (ks2 : List Dk) (bx2 : List (RRef × List RA)) (ksp : List Dk) (bxp : List (RRef × List RA)) : Res -> Option Got
 | (.ret v, K) => (match gotR l ks n res v bx' K with
   | some w => some (.ret v w)
   | none => (match gotR l ks2 n res v bx2 K with | some w => some (.ret2 v w) | none => none))
 | (.pan u, K) => (match gotP l ksp (n + 1) bxp K with | some w => some (.pan u w) | none => none)
def gotD (l : List RRef) (ks : List Dk) (n : Nat) (res : RA) (K0 : List (List V)) : Res -> Option (V × List Dat)
 | (.ret v, K) => if ksB K K0 then (match gotV l ks n res v.asD with | some w => some (v.asD, w) | none => none) else none
 | _ => none
def evT (call : CallF) (k : Nat) : Nat -> T -> Env -> List Fr -> Option Res
 | 0, _, _, _ => none
 | m + 1, t, ρ, fr => match t with
   | .ret v K => endR k ρ v K
   | .pan v K => endK k ρ (.pan (dval (v.den ρ).dd)) K
   | .fork e a b => if (e.den ρ).bool then evT call k m a ρ fr else evT call k m b ρ fr
   | .need e t => if (e.den ρ).bool then evT call k m t ρ fr else none
   | .hav n e t => (match evT call k m t (ρ.set n (.b false)) fr with
     | some r => if (e.den ρ).bool then (match evT call k m t (ρ.set n (.b true)) fr with
       | some r' => if r.1.eqB r'.1 && ksB r.2 r'.2 then some r else none
       | none => none) else some r
     | none => none)
   | .call f args caps bx n ks res bx' kr ksp bxp kp => (match askC k ρ args caps bx with
     | some q => (match Zkq (call f q.1 q.2) (gotC (bx.map (·.1)) ks n res bx' ksp bxp) with
       | some (.ret _ w) => evT call k m kr (setN ρ n w) fr
       | some (.pan u w) => evT call k m kp (setN (ρ.set n (.d (.lit u))) (n + 1) w) fr
       | _ => none)
     | none => none)
   | .call2 f args caps bx n ks res bx' kr ks2 bx2 kr2 ksp bxp kp => (match askC k ρ args caps bx with
     | some q => (match Zkq (call f q.1 q.2) (Zor (bx.map (·.1)) ks n res bx' ks2 bx2 ksp bxp) with
       | some (.ret _ w) => evT call k m kr (setN ρ n w) fr
       | some (.ret2 _ w) => evT call k m kr2 (setN ρ n w) fr
       | some (.pan u w) => evT call k m kp (setN (ρ.set n (.d (.lit u))) (n + 1) w) fr
       | none => none)
     | none => none)
   | .dcall f args caps bx n ks res t => (match askC k ρ args caps bx with
     | some q => (match Zkq (call f q.1 q.2) (gotD (bx.map (·.1)) ks n res q.2) with
       | some (_, w) => evT call k m t (setN ρ n w) fr
       | none => none)
     | none => none)
   | .loop n j args vs => (match vs.nth j with
     | some (ks, b) => let a := args.map fun e => e.den ρ
       if Zec ks a then evT call k m b (setN ρ n a) (fr ++ [⟨n, vs, ρ, true⟩]) else none
     | none => none)
   | .cut n b vs => evT call k m b ρ (fr ++ [⟨n, vs, ρ, false⟩])
   | .again lvl j args => (match fr[lvl]? with
     | some F => (match F.vs.nth j with
       | some (ks, b) => let a := args.map fun e => e.den ρ
         if Zec ks a then evT call k m b (setN F.ρ F.n a) (if F.lp then fr.take lvl ++ [F] else fr.take lvl) else none
       | none => none)
     | none => none)
   | _ => none
def upC (m : Nm) (l : List RRef) (i : Nat) : Ref := match l[i]? with | some r => r.den m | none => .own 0 0
theorem Ztz (m : Nm) (l : List RRef) : Up m l (upC m l) := fun i r h => by unfold upC; rw [h]
theorem Zzb (m : Nm) (l : List RRef) : (List.range l.length).map (upC m l) = l.map (RRef.den m) := by
 apply List.ext_getElem
 ·simp
 ·intro i h1 h2
  have hi : i < l.length := by simpa using h1
  simp [upC, hi]
theorem Zos {k : Nat} {l : List RRef} {up : Nat -> Ref} {ν : Nat -> Nat} (hu : ((List.range k).map up).Nodup) (h : Zty k l = true) : ((List.range l.length).map (upC ⟨up, ν⟩ l)).Nodup := by
 rw [Zzb]
 simp only [Zty, Bool.and_eq_true, decide_eq_true_eq, List.all_eq_true] at h
 have hu' : ∀ i j, i < k -> j < k -> up i = up j -> i = j := fun i j hi hj e => by
  have h1 := List.getElem_map up (l := List.range k) (i := i) (h := by simpa using hi)
  have h2 := List.getElem_map up (l := List.range k) (i := j) (h := by simpa using hj)
  simp only [List.getElem_range] at h1 h2
  have hp := List.pairwise_iff_getElem.1 hu
  rcases Nat.lt_trichotomy i j with h | h | h
  ·exact absurd (by rw [h1, h2, e]) (hp i j (by simpa using hi) (by simpa using hj) h)
  ·exact h
  ·exact absurd (by rw [h1, h2, e]) (hp j i (by simpa using hj) (by simpa using hi) h)
 refine List.pairwise_map.2 (List.Pairwise.imp_of_mem ?_ h.1)
 intro a b ha hb hab e
 have h1 := h.2 a ha
 have h2 := h.2 b hb
 cases a with
 | own t => cases b with
   | own s => simp only [RRef.den, Ref.own.injEq] at e; exact hab (by rw [e.1])
   | up n => cases e
 | up n => cases b with
   | own s => cases e
   | up j =>
     simp only [RRef.den, Ref.up.injEq] at e
     exact hab (by rw [hu' n j (by simpa using h1) (by simpa using h2) e])
theorem Zqc {l : List RRef} {ρ : Env} : ∀ {t : List (RRef × List RA)} {K : List (List V)}, toKs l ρ t = some K -> K.length = t.length
 | [], _, h => by cases h; rfl
 | x :: t, K, h => by
   unfold toKs at h
   split at h
   ·rename_i v a h1 h2; cases h
    simp [Zqc h2]
   ·cases h
theorem Zt0 {k : Nat} {ρ : Env} {args : List RA} {caps : List RRef} {bx : List (RRef × List RA)} {q : List V × List (List V)} (h : askC k ρ args caps bx = some q) {up : Nat -> Ref} (hu : ((List.range k).map up).Nodup) (ν : Nat -> Nat) :
 ((List.range q.2.length).map (upC ⟨up, ν⟩ (bx.map (·.1)))).Nodup /\ (∀ {P : Program} {f : FuncId} {H : List (Ref × List A)} {R : Out -> List (Ref × List A) -> Prop}, Holds P f (q.1.map (V.den (upC ⟨up, ν⟩ (bx.map (·.1))))) H R ->
   Holds P f (args.map (fun a => (a.den ρ ⟨up, ν⟩ gen0).lift) ++ caps.map (fun r => A.ptr (.up (r.den ⟨up, ν⟩)) 0)) H R) /\
 Zaz (Zac ρ ⟨up, ν⟩ bx) = bxs (upC ⟨up, ν⟩ (bx.map (·.1))) 0 q.2 := by
 unfold askC at h
 simp only at h
 split at h
 ·rename_i hn
  split at h
  ·rename_i a b c h1 h2 h3
   cases h
   have hU := Ztz ⟨up, ν⟩ (bx.map (·.1))
   refine ⟨?_, ?_, Zll hU 0 h3 fun j x hx => by simp [hx]⟩
   ·have := Zos (ν := ν) hu hn
    rwa [List.length_map, <- Zqc h3] at this
   ·intro P f H R hH
    rw [Zon hU h1, Zts hU h2, <- List.map_append]
    exact Zv6 hH
  ·cases h
 ·cases h
theorem Zot {l : List RRef} {ks : List Dk} {n : Nat} {res : RA} {v : V} {bx' : List (RRef × List RA)} {K : List (List V)} {w : List Dat} (h : gotR l ks n res v bx' K = some w) {m : Nm} {up : Nat -> Ref} (hu : Up m l up) (ρ : Env) :
 Zec ks w = true /\ (∀ gen, v.den up = res.den (setN ρ n w) m gen) /\ bxs up 0 K = Zaz (Zac (setN ρ n w) m bx') := by
 unfold gotR at h
 split at h
 ·rename_i a h1
  split at h
  ·rename_i b h2
   split at h
   ·rename_i hk; cases h
    simp only [Bool.and_eq_true, decide_eq_true_eq] at hk
    have hA : Agr' (setN ρ n (a ++ b)) n (a ++ b) := Zlm
    refine ⟨hk.2.1, fun gen => Zp6 (Zy6 h1 hA.left) hk.1, ?_⟩
    exact (Zll hu 0 (Zp7 h2 hA.right) fun j x hx => by rw [<- hk.2.2]; simp [hx]).symm
   ·cases h
  ·cases h
 ·cases h
theorem Zt1 {l : List RRef} {ks : List Dk} {n : Nat} {bx' : List (RRef × List RA)} {K : List (List V)} {w : List Dat} (h : gotP l ks n bx' K = some w) {m : Nm} {up : Nat -> Ref} (hu : Up m l up) (ρ : Env) :
 Zec ks w = true /\ bxs up 0 K = Zaz (Zac (setN ρ n w) m bx') := by
 unfold gotP at h
 split at h
 ·rename_i b h2
  split at h
  ·rename_i hk; cases h
   simp only [Bool.and_eq_true, decide_eq_true_eq] at hk
   exact ⟨hk.1, (Zll hu 0 (Zp7 h2 Zlm) fun j x hx => by rw [<- hk.2]; simp [hx]).symm⟩
  ·cases h
 ·cases h
theorem Zzc {l : List RRef} {ks : List Dk} {n : Nat} {res : RA} {v : V} {w : List Dat} (h : gotV l ks n res v = some w) {m : Nm} {up : Nat -> Ref} (ρ : Env) :
 Zec ks w = true /\ ∀ gen, v.den up = res.den (setN ρ n w) m gen := by
 unfold gotV at h
 split at h
 ·rename_i a h1
  split at h
  ·rename_i hk; cases h
   simp only [Bool.and_eq_true] at hk
   exact ⟨hk.2, fun gen => Zp6 (Zy6 h1 Zlm) hk.1⟩
  ·cases h
 ·cases h
theorem Zff : ∀ {vs : T} {j : Nat} {ks : List Dk} {b : T}, vs.nth j = some (ks, b) -> vs.ksL[j]? = some ks
 | .vcons ks b r, 0, _, _, h => by cases h; rfl
 | .vcons ks b r, j + 1, _, _, h => by
   simp only [T.nth] at h
   simp only [T.ksL, List.getElem?_cons_succ]
   exact Zff h
 | .ret .., _, _, _, h | .pan .., _, _, _, h | .fork .., _, _, _, h | .need .., _, _, _, h | .call .., _, _, _, h | .call2 .., _, _, _, h | .dcall .., _, _, _, h | .loop .., _, _, _, h | .vnil, _, _, _, h
 | .again .., _, _, _, h | .cut .., _, _, _, h | .bad .., _, _, _, h | .leaf .., _, _, _, h | .hav .., _, _, _, h => by simp [T.nth] at h
section
variable {P : Program} {up : Nat -> Ref} {R : Out -> List (Ref × List A) -> Prop}
theorem Zt2 {Is : Invs} {n : Nat} {ρ : Env} {σ : Sig} : ∀ {vs : T} {j : Nat}, (∀ i ks b, vs.nth i = some (ks, b) -> allK ks n ρ [] fun ρ' vals => Zcr Is (j + i) vals -> b.den P up R ρ' (σ ++ [fun j' a => Zcr Is j' a /\ Zet Is j' a < Zet Is (j + i) vals])) -> vs.denV P up R j Is n ρ σ
 | .vcons ks b r, j, h => by
   unfold T.denV
   refine ⟨h 0 ks b rfl, Zt2 fun i ks' b' e => ?_⟩
   have := h (i + 1) ks' b' e
   rw [show j + 1 + i = j + (i + 1) by omega]; exact this
 | .ret .., _, _ | .pan .., _, _ | .fork .., _, _ | .need .., _, _ | .call .., _, _ | .call2 .., _, _ | .dcall .., _, _ | .loop .., _, _ | .vnil, _, _
 | .again .., _, _ | .cut .., _, _ | .bad .., _, _ | .leaf .., _, _ | .hav .., _, _ => by unfold T.denV; trivial
theorem Zt3 {Is : Invs} {n : Nat} {ρ : Env} {σ : Sig} : ∀ {vs : T} {j : Nat}, (∀ i ks b, vs.nth i = some (ks, b) -> allK ks n ρ [] fun ρ' vals => Zcr Is (j + i) vals -> b.den P up R ρ' σ) -> vs.denC P up R j Is n ρ σ
 | .vcons ks b r, j, h => by
   unfold T.denC
   refine ⟨h 0 ks b rfl, Zt3 fun i ks' b' e => ?_⟩
   have := h (i + 1) ks' b' e
   rw [show j + 1 + i = j + (i + 1) by omega]; exact this
 | .ret .., _, _ | .pan .., _, _ | .fork .., _, _ | .need .., _, _ | .call .., _, _ | .call2 .., _, _ | .dcall .., _, _ | .loop .., _, _ | .vnil, _, _
 | .again .., _, _ | .cut .., _, _ | .bad .., _, _ | .leaf .., _, _ | .hav .., _, _ => by unfold T.denC; trivial
def goto (call : CallF) (k m : Nat) (F : Fr) (frs : List Fr) (j : Nat) (a : List Dat) : Option Res :=
 match F.vs.nth j with
 | some (ks, b) => if Zec ks a then evT call k m b (setN F.ρ F.n a) (if F.lp then frs ++ [F] else frs) else none
 | none => none
theorem Znh {call : CallF} {k m : Nat} {F : Fr} {frs : List Fr} {j : Nat} {a : List Dat} {r : Res} (h : goto call k m F frs j a = some r) :
 ∃ ks b, F.vs.nth j = some (ks, b) /\ Zec ks a = true /\ evT call k m b (setN F.ρ F.n a) (if F.lp then frs ++ [F] else frs) = some r := by
 unfold goto at h
 split at h
 ·rename_i ks b hb
  split at h
  ·rename_i hk; exact ⟨ks, b, hb, hk, h⟩
  ·cases h
 ·cases h
theorem Zln {call : CallF} {k m : Nat} {F : Fr} {frs : List Fr} {j : Nat} {a : List Dat} {ks : List Dk} {b : T} (h1 : F.vs.nth j = some (ks, b)) (h2 : Zec ks a = true) :
 goto call k m F frs j a = evT call k m b (setN F.ρ F.n a) (if F.lp then frs ++ [F] else frs) := by
 unfold goto; rw [h1]; simp only [h2, if_true]
def FrOk (call : CallF) (k m : Nat) (r : Res) (fr : List Fr) (σ : Sig) : Prop :=
 fr.length = σ.length /\ ∀ (lvl : Nat) F h, fr[lvl]? = some F -> σ[lvl]? = some h -> ∀ m' < m, ∀ j a, goto call k m' F (fr.take lvl) j a = some r -> h j a
theorem FrOk.mono {call : CallF} {k m m' : Nat} {r : Res} {fr : List Fr} {σ : Sig} (h : FrOk call k m r fr σ) (hm : m' <= m) : FrOk call k m' r fr σ :=
 ⟨h.1, fun lvl F g h1 h2 n hn => h.2 lvl F g h1 h2 n (by omega)⟩
theorem FrOk.push {call : CallF} {k m : Nat} {r : Res} {fr : List Fr} {σ : Sig} (h : FrOk call k m r fr σ) {F : Fr} {g : Nat -> List Dat -> Prop} (hg : ∀ m' < m, ∀ j a, goto call k m' F fr j a = some r -> g j a) : FrOk call k m r (fr ++ [F]) (σ ++ [g]) := by
 refine ⟨by simp [h.1], fun lvl F' g' h1 h2 => ?_⟩
 by_cases hl : lvl < fr.length
 ·rw [List.getElem?_append_left hl] at h1
  rw [List.getElem?_append_left (by rw [<- h.1]; exact hl)] at h2
  rw [List.take_append_of_le_length (by omega)]
  exact h.2 lvl F' g' h1 h2
 ·have hl' : lvl = fr.length := by
   have := (List.getElem?_eq_some_iff.1 h1).1
   simp at this; omega
  subst hl'
  rw [List.getElem?_append_right (by omega)] at h1
  rw [List.getElem?_append_right (by rw [h.1]; exact Nat.le_refl _)] at h2
  have e : fr.length - σ.length = 0 := by rw [h.1]; omega
  simp only [Nat.sub_self, List.getElem?_cons_zero, Option.some.injEq, e] at h1 h2
  subst h1; subst h2
  rw [List.take_append_of_le_length (Nat.le_refl _), List.take_length]
  exact hg
theorem Zw9 {k : Nat} {ρ : Env} {o : VO} {K : List (RRef × List RA)} {r : Res} (h : endK k ρ o K = some r) : r.1 = o /\ Zac ρ ⟨up, gen0⟩ K = bxs up 0 r.2 := by
 unfold endK at h
 split at h
 ·rename_i hn
  split at h
  ·rename_i a ha; cases h
   refine ⟨rfl, Zop (up := up) (fun i q hq => ?_) 0 ha fun j x hx => ?_⟩
   ·unfold ups at hq
    rw [List.getElem?_map, Option.map_eq_some_iff] at hq
    obtain ⟨j, hj, rfl⟩ := hq
    have := (List.getElem?_eq_some_iff.1 hj)
    obtain ⟨h1, h2⟩ := this
    rw [List.getElem_range] at h2
    subst h2; rfl
   ·rw [<- hn, Nat.zero_add, List.getElem?_map, hx]; rfl
  ·cases h
 ·cases h
theorem Zzd {k : Nat} {ρ : Env} {v : RA} {K : List (RRef × List RA)} {r : Res} (h : endR k ρ v K = some r) : Out.ret (v.den ρ ⟨up, gen0⟩ gen0) = r.1.den up /\ Zac ρ ⟨up, gen0⟩ K = bxs up 0 r.2 := by
 unfold endR at h
 split at h
 ·rename_i u hu
  obtain ⟨h1, h2⟩ := Zw9 (up := up) h
  refine ⟨?_, h2⟩
  rw [h1]
  show Out.ret _ = Out.ret (u.den up)
  congr 1
  refine Zw4 (fun i q hq => ?_) hu
  unfold ups at hq
  rw [List.getElem?_map, Option.map_eq_some_iff] at hq
  obtain ⟨j, hj, rfl⟩ := hq
  obtain ⟨h1, h2⟩ := (List.getElem?_eq_some_iff.1 hj)
  rw [List.getElem_range] at h2
  subst h2; rfl
 ·cases h
theorem Zlo {f : Nat} {vs : List V} {K K' : List (List V)} {v : V} {up' : Nat -> Ref} (h : Holds P f (vs.map (V.den up')) (bxs up' 0 K) fun o H => o = (VO.ret v).den up' /\ H = bxs up' 0 K') :
 Holds P f (vs.map (V.den up')) (bxs up' 0 K) fun o H => o = (VO.ret v.asD).den up' /\ H = bxs up' 0 K' :=
 h.asData fun o H' ⟨e1, e2⟩ => ⟨(VO.ret v.asD).den up', by subst e1; exact V.asD_ok up' v, rfl, e2⟩
section
variable {call : CallF} {f : Nat} {vs : List V} {K0 : List (List V)} {x : Res} {l : List RRef} {ks ks2 ksp : List Dk} {n : Nat} {res : RA} {bx' bx2 bxp : List (RRef × List RA)} {up' : Nat -> Ref} (hc : Zp5 P call) (hx : x ∈ call f vs K0) (hn : ((List.range K0.length).map up').Nodup)
include hc hx hn
theorem Zv8 {v : V} {w : List Dat} (hg : gotC l ks n res bx' ksp bxp x = some (.ret v w)) :
 ∃ K, (Holds P f (vs.map (V.den up')) (bxs up' 0 K0) fun o H => o = (VO.ret v).den up' /\ H = bxs up' 0 K) /\ gotR l ks n res v bx' K = some w := by
 have hH := (hc _ _ _ _ hx).2 _ hn
 unfold gotC at hg
 split at hg
 ·split at hg
  ·rename_i h1; cases hg; exact ⟨_, hH, h1⟩
  ·split at hg
   ·rename_i h1; cases hg; exact ⟨_, Zlo hH, h1⟩
   ·cases hg
 ·split at hg <;> cases hg
theorem Zv9 {u : Value} {w : List Dat} (hg : gotC l ks n res bx' ksp bxp x = some (.pan u w)) :
 ∃ K, (Holds P f (vs.map (V.den up')) (bxs up' 0 K0) fun o H => o = (VO.pan u).den up' /\ H = bxs up' 0 K) /\ gotP l ksp (n + 1) bxp K = some w := by
 have hH := (hc _ _ _ _ hx).2 _ hn
 unfold gotC at hg
 split at hg
 ·split at hg
  ·cases hg
  ·split at hg <;> cases hg
 ·split at hg
  ·rename_i h1; cases hg; exact ⟨_, hH, h1⟩
  ·cases hg
theorem Zt4 {v : V} {w : List Dat} (hg : Zor l ks n res bx' ks2 bx2 ksp bxp x = some (.ret v w)) :
 ∃ K, (Holds P f (vs.map (V.den up')) (bxs up' 0 K0) fun o H => o = (VO.ret v).den up' /\ H = bxs up' 0 K) /\ gotR l ks n res v bx' K = some w := by
 have hH := (hc _ _ _ _ hx).2 _ hn
 unfold Zor at hg
 split at hg
 ·split at hg
  ·rename_i h1; cases hg; exact ⟨_, hH, h1⟩
  ·split at hg <;> cases hg
 ·split at hg <;> cases hg
theorem Zrh {v : V} {w : List Dat} (hg : Zor l ks n res bx' ks2 bx2 ksp bxp x = some (.ret2 v w)) :
 ∃ K, (Holds P f (vs.map (V.den up')) (bxs up' 0 K0) fun o H => o = (VO.ret v).den up' /\ H = bxs up' 0 K) /\ gotR l ks2 n res v bx2 K = some w := by
 have hH := (hc _ _ _ _ hx).2 _ hn
 unfold Zor at hg
 split at hg
 ·split at hg
  ·cases hg
  ·split at hg
   ·rename_i h1; cases hg; exact ⟨_, hH, h1⟩
   ·cases hg
 ·split at hg <;> cases hg
theorem Zt5 {u : Value} {w : List Dat} (hg : Zor l ks n res bx' ks2 bx2 ksp bxp x = some (.pan u w)) :
 ∃ K, (Holds P f (vs.map (V.den up')) (bxs up' 0 K0) fun o H => o = (VO.pan u).den up' /\ H = bxs up' 0 K) /\ gotP l ksp (n + 1) bxp K = some w := by
 have hH := (hc _ _ _ _ hx).2 _ hn
 unfold Zor at hg
 split at hg
 ·split at hg
  ·cases hg
  ·split at hg <;> cases hg
 ·split at hg
  ·rename_i h1; cases hg; exact ⟨_, hH, h1⟩
  ·cases hg
theorem Zze {v : V} {w : List Dat} (hg : gotD l ks n res K0 x = some (v, w)) :
 Holds P f (vs.map (V.den up')) (bxs up' 0 K0) fun o H => o = (VO.ret v).den up' /\ H = bxs up' 0 K0 := by
 have hH := (hc _ _ _ _ hx).2 _ hn
 unfold gotD at hg
 split at hg
 ·split at hg
  ·rename_i hK
   split at hg
   ·cases hg
    have := Zlo hH
    rw [Ztx hK] at this; exact this
   ·cases hg
  ·cases hg
 ·cases hg
end
theorem Z07 {l : List RRef} {ks : List Dk} {n : Nat} {res : RA} {K0 : List (List V)} {x : Res} {v : V} {w : List Dat} (hg : gotD l ks n res K0 x = some (v, w)) : gotV l ks n res v = some w := by
 unfold gotD at hg
 split at hg
 ·split at hg
  ·split at hg
   ·rename_i h1; cases hg; exact h1
   ·cases hg
  ·cases hg
 ·cases hg
theorem least {p : Nat -> Prop} (h : ∃ n, p n) : ∃ n, p n /\ ∀ m, p m -> n <= m := by
 obtain ⟨n, hn⟩ := h
 induction n using Nat.strongRecOn with
 | ind n ih =>
   by_cases hx : ∃ m, m < n /\ p m
   ·obtain ⟨m, h1, h2⟩ := hx; exact ih m h1 h2
   ·exact ⟨n, hn, fun m hm => by
     by_cases h : n <= m
     ·exact h
     ·exact absurd ⟨m, by omega, hm⟩ hx⟩
theorem Z08 {call : CallF} (hc : Zp5 P call) {k : Nat} (hu : ((List.range k).map up).Nodup) {r : Res} (hR : R (r.1.den up) (bxs up 0 r.2)) :
 ∀ (m : Nat) (t : T) (ρ : Env) (fr : List Fr) (σ : Sig), evT call k m t ρ fr = some r -> FrOk call k m r fr σ -> t.den P up R ρ σ := by
 intro m
 induction m using Nat.strongRecOn with
 | ind m ih =>
   intro t ρ fr σ h hF
   cases m with
   | zero => simp [evT] at h
   | succ m =>
     have hF1 := hF.mono (Nat.le_succ m)
     have go : ∀ {t : T} {ρ : Env}, evT call k m t ρ fr = some r -> t.den P up R ρ σ := fun h => ih m (Nat.lt_succ_self m) _ _ _ _ h hF1
     unfold evT at h
     cases t with
     | ret v K =>
       obtain ⟨h1, h2⟩ := Zzd (up := up) h
       unfold T.den
       rw [h1, h2]; exact hR
     | pan v K =>
       obtain ⟨h1, h2⟩ := Zw9 (up := up) h
       unfold T.den
       rw [h1] at hR
       rw [h2]; exact hR
     | fork e a b =>
       simp only at h
       unfold T.den
       split at h
       ·rename_i hb; exact ⟨fun _ => go h, fun hf => by rw [hb] at hf; cases hf⟩
       ·rename_i hb; exact ⟨fun hf => absurd hf hb, fun _ => go h⟩
     | need e t =>
       simp only at h
       unfold T.den
       split at h
       ·rename_i hb; exact ⟨hb, go h⟩
       ·cases h
     | hav n e t =>
       simp only at h
       unfold T.den
       split at h
       ·rename_i r0 h0
        split at h
        ·split at h
         ·rename_i r1 h1
          split at h
          ·rename_i hb; cases h
           simp only [Bool.and_eq_true] at hb
           have e1 : r = r1 := Prod.ext (VO.eqB_eq hb.1) (Ztx hb.2)
           intro b _
           cases b with
           | false => exact go h0
           | true => exact go (by rw [h1, e1])
          ·cases h
         ·cases h
        ·rename_i hb; cases h
         intro b hb'
         cases b with
         | false => exact go h0
         | true => exact absurd (hb' rfl) hb
       ·cases h
     | call f args caps bx n ks res bx' kr ksp bxp kp =>
       simp only at h
       unfold T.den
       split at h
       ·rename_i q hq
        intro ν
        obtain ⟨a1, a2, a3⟩ := Zt0 hq hu ν
        rw [a3]
        have hU := Ztz ⟨up, ν⟩ (bx.map (·.1))
        split at h
        ·rename_i v w hg
         obtain ⟨x, hx, hg⟩ := Zb4 hg
         obtain ⟨K, hH, hw⟩ := Zv8 hc hx a1 hg
         obtain ⟨b1, b2, b3⟩ := Zot hw hU ρ
         exact ⟨_, a2 hH, fun v' H' e => by obtain ⟨e1, e2⟩ := e; cases e1; exact Zjn b1 ⟨b2 _, by rw [e2]; exact b3, go h⟩, fun u H' e => by cases e.1⟩
        ·rename_i u w hg
         obtain ⟨x, hx, hg⟩ := Zb4 hg
         obtain ⟨K, hH, hw⟩ := Zv9 hc hx a1 hg
         obtain ⟨b1, b3⟩ := Zt1 hw hU (ρ.set n (.d (.lit u)))
         exact ⟨_, a2 hH, fun v' H' e => (by cases e.1), fun u' H' e => by obtain ⟨e1, e2⟩ := e; cases e1; exact Zjn b1 ⟨by rw [e2]; exact b3, go h⟩⟩
        ·cases h
       ·cases h
     | call2 f args caps bx n ks res bx' kr ks2 bx2 kr2 ksp bxp kp =>
       simp only at h
       unfold T.den
       split at h
       ·rename_i q hq
        intro ν
        obtain ⟨a1, a2, a3⟩ := Zt0 hq hu ν
        rw [a3]
        have hU := Ztz ⟨up, ν⟩ (bx.map (·.1))
        split at h
        ·rename_i v w hg
         obtain ⟨x, hx, hg⟩ := Zb4 hg
         obtain ⟨K, hH, hw⟩ := Zt4 hc hx a1 hg
         obtain ⟨b1, b2, b3⟩ := Zot hw hU ρ
         exact ⟨_, a2 hH, fun v' H' e => by obtain ⟨e1, e2⟩ := e; cases e1; exact .inl (Zjn b1 ⟨b2 _, by rw [e2]; exact b3, go h⟩), fun u H' e => by cases e.1⟩
        ·rename_i v w hg
         obtain ⟨x, hx, hg⟩ := Zb4 hg
         obtain ⟨K, hH, hw⟩ := Zrh hc hx a1 hg
         obtain ⟨b1, b2, b3⟩ := Zot hw hU ρ
         exact ⟨_, a2 hH, fun v' H' e => by obtain ⟨e1, e2⟩ := e; cases e1; exact .inr (Zjn b1 ⟨b2 _, by rw [e2]; exact b3, go h⟩), fun u H' e => by cases e.1⟩
        ·rename_i u w hg
         obtain ⟨x, hx, hg⟩ := Zb4 hg
         obtain ⟨K, hH, hw⟩ := Zt5 hc hx a1 hg
         obtain ⟨b1, b3⟩ := Zt1 hw hU (ρ.set n (.d (.lit u)))
         exact ⟨_, a2 hH, fun v' H' e => (by cases e.1), fun u' H' e => by obtain ⟨e1, e2⟩ := e; cases e1; exact Zjn b1 ⟨by rw [e2]; exact b3, go h⟩⟩
        ·cases h
       ·cases h
     | dcall f args caps bx n ks res t =>
       simp only at h
       unfold T.den
       split at h
       ·rename_i q hq
        split at h
        ·rename_i v w hg
         obtain ⟨x, hx, hg⟩ := Zb4 hg
         have key := fun ν => (Zt0 hq hu ν)
         have hw := Z07 hg
         have b := fun ν => Zzc hw (m := ⟨up, ν⟩) (up := upC ⟨up, ν⟩ (bx.map (·.1))) ρ
         refine Zjn (b (fun _ => 0)).1 ⟨fun ν => ?_, go h⟩
         obtain ⟨a1, a2, a3⟩ := key ν
         rw [a3]
         refine (a2 (Zze hc hx a1 hg)).mono fun o H' e => ?_
         obtain ⟨e1, e2⟩ := e
         refine ⟨?_, e2⟩
         rw [e1, <- (b ν).2 gen0]; rfl
        ·cases h
       ·cases h
     | loop n j args vs =>
       simp only at h
       unfold T.den
       split at h
       ·rename_i ks b hb
        split at h
        ·rename_i hk
         let F : Fr := ⟨n, vs, ρ, true⟩
         classical
         let q : Nat -> List Dat -> Nat := fun j a => if hx : ∃ m', goto call k m' F fr j a = some r then (least hx).choose else 0
         have hq : ∀ j a m', goto call k m' F fr j a = some r -> goto call k (q j a) F fr j a = some r /\ q j a <= m' := fun j a m' hg => by
          have hx : ∃ m', goto call k m' F fr j a = some r := ⟨m', hg⟩
          have e : q j a = (least hx).choose := dif_pos hx
          rw [e]
          exact ⟨(least hx).choose_spec.1, (least hx).choose_spec.2 _ hg⟩
         refine Zw6 (j := 0) (p := fun j a => ∃ m' ≤ m, goto call k m' F fr j a = some r) (q := q) ⟨?_, Zt2 fun i ks' b' hi => Zoq fun a ha hinv => ?_⟩
         ·rw [(Zjo (Zff hb) hk).1]
          exact ⟨m, Nat.le_refl _, by rw [Zln (F := F) hb hk]; exact h⟩
         ·rw [List.nil_append, Nat.zero_add] at hinv
          rw [(Zjo (Zff hi) ha).1] at hinv
          obtain ⟨m', hm', hg⟩ := hinv
          obtain ⟨hg1, hg2⟩ := hq i a m' hg
          have hrun := hg1
          rw [Zln (F := F) hi ha] at hrun
          refine ih (q i a) (by omega) _ _ _ _ hrun ?_
          refine (hF.mono (m' := q i a) (by omega)).push fun m2 hm2 j' a' hg' => ?_
          obtain ⟨ks2, b2, c1, c2, _⟩ := Znh hg'
          rw [(Zjo (Zff c1) c2).1, (Zjo (Zff c1) c2).2.1, List.nil_append, Nat.zero_add, (Zjo (Zff hi) ha).2.1]
          exact ⟨⟨m2, by omega, hg'⟩, by have := (hq j' a' m2 hg').2; omega⟩
        ·cases h
       ·cases h
     | cut n b vs =>
       simp only at h
       unfold T.den
       let F : Fr := ⟨n, vs, ρ, false⟩
       refine Zw7 (j := 0) (p := fun j a => ∃ m' < m, goto call k m' F fr j a = some r) ⟨?_, Zt3 fun i ks' b' hi => Zoq fun a ha hinv => ?_⟩
       ·refine ih m (Nat.lt_succ_self m) _ _ _ _ h (hF1.push fun m2 hm2 j' a' hg' => ?_)
        obtain ⟨ks2, b2, c1, c2, _⟩ := Znh hg'
        rw [(Zjo (p := fun j a => ∃ m' < m, goto call k m' F fr j a = some r) (q := fun _ _ => 0) (Zff c1) c2).2.2]
        exact ⟨m2, hm2, hg'⟩
       ·rw [List.nil_append, Nat.zero_add] at hinv
        rw [(Zjo (p := fun j a => ∃ m' < m, goto call k m' F fr j a = some r) (q := fun _ _ => 0) (Zff hi) ha).2.2] at hinv
        obtain ⟨m', hm', hg⟩ := hinv
        rw [Zln (F := F) hi ha] at hg
        exact ih m' (by omega) _ _ _ _ hg (hF.mono (by omega))
     | again lvl j args =>
       simp only at h
       unfold T.den
       split at h
       ·rename_i F hfr
        split at h
        ·rename_i ks b hb
         split at h
         ·rename_i hk
          have hl := (List.getElem?_eq_some_iff.1 hfr).1
          obtain ⟨g, hs⟩ : ∃ g, σ[lvl]? = some g := ⟨_, List.getElem?_eq_getElem (by rw [<- hF.1]; exact hl)⟩
          rw [hs]
          exact hF.2 lvl F _ hfr hs m (Nat.lt_succ_self m) j _ (by rw [Zln hb hk]; exact h)
         ·cases h
        ·cases h
       ·cases h
     | vnil => cases h
     | vcons => cases h
     | bad => cases h
     | leaf => cases h
end
structure Ent where
 f : Nat
 args : List RA
 K : List (List RA)
 t : T
def Zds : Nat -> List (List RA) -> List (RRef × List RA)
 | _, [] => []
 | i, c :: l => (.up i, c) :: Zds (i + 1) l
def Zwa (P : Program) (e : Ent) : Prop := ∀ (up : Nat -> Ref) (ρ : Env) (R : Out -> List (Ref × List A) -> Prop), ((List.range e.K.length).map up).Nodup -> e.t.den P up R ρ [] ->
 Holds P e.f (e.args.map (RA.den ρ ⟨up, gen0⟩ gen0)) (Zac ρ ⟨up, gen0⟩ (Zds 0 e.K)) R
structure Wk where
 f : Nat
 live : List Nat
 op : Opt
 args : List RA
 K : List (List RA)
 nv : Nat
def Zxa (P : Program) (f : Nat) : Code := match P.funcs[f]? with | some fn => (match fn.body with | some c => c | none => .skip) | none => .skip
def Zou (P : Program) (w : Wk) : Cfg := ⟨P, (match P.funcs[w.f]? with | some fn => fn.ntmps | none => 0), true, w.live⟩
def Z09 (P : Program) (f : Nat) : List ResultVar := match P.funcs[f]? with | some fn => fn.results.toList | none => []
def Wk.tree (P : Program) (w : Wk) : T := Zc3 (Zou P w) w.op (Zxa P w.f) (Ztp (Nat.log2 (Zou P w).N + 1) w.args (Zds 0 w.K) w.nv) (finT (Zou P w) (Z09 P w.f) ((Zds 0 w.K).map (·.1)))
def Wk.ok (P : Program) (w : Wk) : Bool := P.follows .mixedOrders && (match P.funcs[w.f]? with | some fn => (match fn.body with | some _ => !(fn.name == "runtime.NumGoroutine") | none => false) && decide (w.args.length <= fn.ntmps) | none => false) && Z02 w.args
theorem Zni : ∀ (l : List (List RA)) (i : Nat), Zy4 (Zds i l) = true
 | [], _ => rfl
 | c :: l, i => by
   have := Zni l (i + 1)
   unfold Zy4 at *
   rw [Zds, List.all_cons, this]; rfl
theorem Zhx {ρ : Env} {m : Nm} : ∀ (l : List (List RA)) (i : Nat), (Zac ρ m (Zds i l)).map (·.1) = (List.range' i l.length).map fun j => Ref.up (m.up j)
 | [], _ => rfl
 | c :: l, i => by
   show Ref.up (m.up i) :: (Zac ρ m (Zds (i + 1) l)).map (·.1) = _
   rw [Zhx l (i + 1), List.length_cons, List.range'_succ]; rfl
theorem Z1a {P : Program} {w : Wk} (h : w.ok P = true) : Zwa P ⟨w.f, w.args, w.K, w.tree P⟩ := by
 intro up ρ R hu hd
 unfold Wk.ok at h
 simp only [Bool.and_eq_true] at h
 obtain ⟨⟨h1, h2⟩, h3⟩ := h
 cases hf : P.funcs[w.f]? with
 | none => rw [hf] at h2; cases h2
 | some fn =>
   rw [hf] at h2
   simp only [Bool.and_eq_true, decide_eq_true_eq] at h2
   cases hb : fn.body with
   | none => rw [hb] at h2; simp at h2
   | some c =>
     rw [hb] at h2
     simp only [Bool.not_eq_true'] at h2
     refine walk (c := Zou P w) (op := w.op) (f := w.f) (fn := fn) (code := c) (rl := fn.results.toList) (nv := w.nv) (depth := Nat.log2 (Zou P w).N + 1) (t := w.tree P) h1 hf hb rfl ?_ h2.1 ?_ h3 (Zni _ _) ?_ ?_ ?_
     ·unfold Zou; rw [hf]
     ·unfold Zou; rw [hf]; exact h2.2
     ·unfold Wk.tree Zxa Z09; rw [hf]; simp only [hb]
     ·rw [Zhx, <- List.range_eq_range']
      have := hu
      refine List.pairwise_map.2 ((List.pairwise_map.1 this).imp fun hab e => hab (by simpa using e))
     ·unfold T.vc; exact hd
def mEnt (e : Ent) (vs : List V) (K : List (List V)) : Option (List Dat) :=
 match mVs (ups e.K.length) e.args vs 0 with
 | some a => (match mKs (ups e.K.length) e.K K a.length with | some b => some (a ++ b) | none => none)
 | none => none
def envL (l : List Dat) : Env := fun n => l.getD n (.i 0)
theorem Zwb (l : List Dat) : Agr' (envL l) 0 l := fun i x h => by unfold envL; rw [Nat.zero_add, List.getD_eq_getElem?_getD, h]; rfl
theorem Zhh : ∀ (l : List (List RA)) (i : Nat), (Zds i l).map (·.2) = l
 | [], _ => rfl
 | c :: l, i => by rw [Zds, List.map_cons, Zhh l (i + 1)]
theorem Zkr : ∀ (l : List (List RA)) (i j : Nat) (x : RRef × List RA), (Zds i l)[j]? = some x -> x.1 = .up (i + j)
 | [], _, _, _, h => by simp [Zds] at h
 | c :: l, i, 0, x, h => by simp [Zds] at h; subst h; rfl
 | c :: l, i, j + 1, x, h => by
   rw [Zds, List.getElem?_cons_succ] at h
   rw [Zkr l (i + 1) j x h, show i + 1 + j = i + (j + 1) by omega]
theorem Zt6 {l : List RRef} : ∀ {t : List (List RA)} {u : List (List V)} {n : Nat} {w : List Dat}, mKs l t u n = some w -> u.length = t.length
 | [], [], _, _, _ => rfl
 | e :: t, x :: u, n, w, h => by
   unfold mKs at h
   split at h
   ·split at h
    ·rename_i b h2; cases h
     simp [Zt6 h2]
    ·cases h
   ·cases h
 | [], _ :: _, _, _, h => by cases h
 | _ :: _, [], _, _, h => by cases h
theorem Zxb (up : Nat -> Ref) (k : Nat) : Lo ⟨up, gen0⟩ (ups k) up := fun i q hq => by
 unfold ups at hq
 rw [List.getElem?_map, Option.map_eq_some_iff] at hq
 obtain ⟨j, hj, rfl⟩ := hq
 obtain ⟨h1, h2⟩ := List.getElem?_eq_some_iff.1 hj
 rw [List.getElem_range] at h2
 subst h2; rfl
def tryE (call : CallF) (m : Nat) (f : Nat) (vs : List V) (K : List (List V)) : List Ent -> List Res
 | [] => []
 | e :: l => if e.f = f then (match mEnt e vs K with
   | some a => (match evT call K.length m e.t (envL a) [] with
     | some r => if r.2.length = K.length then r :: tryE call m f vs K l else tryE call m f vs K l
     | none => tryE call m f vs K l)
   | none => tryE call m f vs K l) else tryE call m f vs K l
def evF (tab : List Ent) (prim : Nat -> List V -> Option V) (m : Nat) : Nat -> CallF
 | 0 => fun _ _ _ => []
 | n + 1 => fun f vs K => match prim f vs with
   | some v => if K.isEmpty then [(.ret v, [])] else []
   | none => tryE (evF tab prim m n) m f vs K tab
theorem Zt7 {P : Program} {call : CallF} (hc : Zp5 P call) {m f : Nat} {vs : List V} {K : List (List V)} : ∀ {l : List Ent} {r : Res}, (∀ e ∈ l, Zwa P e) -> r ∈ tryE call m f vs K l -> Runs P f vs K r
 | [], _, _, h => by cases h
 | e :: l, r, he, h => by
   have next : r ∈ tryE call m f vs K l -> Runs P f vs K r := Zt7 hc fun e he' => he e (List.mem_cons_of_mem _ he')
   unfold tryE at h
   split at h
   ·rename_i hf; subst hf
    split at h
    ·rename_i a ha
     split at h
     ·rename_i r0 hr
      split at h
      ·rename_i hlen
       rcases List.mem_cons.1 h with rfl | h
       ·refine ⟨hlen, fun up hu => ?_⟩
        unfold mEnt at ha
        split at ha
        ·rename_i a1 h1
         split at ha
         ·rename_i a2 h2; cases ha
          have hA := Zwb (a1 ++ a2)
          have hl := Zt6 h2
          have e1 := Zoo (gen := gen0) (Zxb up e.K.length) (Ztu h1 hA.left)
          have e2 := Zop (Zxb up e.K.length) 0 (Zp7 (t := Zds 0 e.K) (by rw [Zhh]; exact h2) (by have := hA.right; simpa using this)) fun j x hx => by
           have hj := (List.getElem?_eq_some_iff.1 hx).1
           have hj' : j < e.K.length := by rw [<- Zhh e.K 0, List.length_map]; exact hj
           rw [Zkr _ _ _ _ hx]
           unfold ups
           rw [List.getElem?_map, List.getElem?_range (by omega)]; simp
          have := he e (List.mem_cons_self ..) up (envL (a1 ++ a2)) (fun o H => o = r.1.den up /\ H = bxs up 0 r.2) (by rw [<- hl]; exact hu) (Z08 hc hu ⟨rfl, rfl⟩ m _ _ _ _ hr ⟨rfl, fun lvl F h hF => by simp at hF⟩)
          rw [e1, e2] at this
          exact this
         ·cases ha
        ·cases ha
       ·exact next h
      ·exact next h
     ·exact next h
    ·exact next h
   ·exact next h
theorem Zt8 {P : Program} {tab : List Ent} {prim : Nat -> List V -> Option V} {m : Nat} (ht : ∀ e ∈ tab, Zwa P e) (hp : ∀ f vs v, prim f vs = some v -> Runs P f vs [] (.ret v, [])) : ∀ n, Zp5 P (evF tab prim m n)
 | 0, _, _, _, _, h => by cases h
 | n + 1, f, vs, K, r, h => by
   unfold evF at h
   split at h
   ·rename_i v hv
    split at h
    ·rename_i hK
     have : K = [] := by simpa using hK
     subst this
     rcases List.mem_cons.1 h with rfl | h
     ·exact hp f vs v hv
     ·cases h
    ·cases h
   ·exact Zt7 (Zt8 ht hp n) ht h
end Go.Rf
end
