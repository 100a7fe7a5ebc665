/- Part 5 of the proof: RfJoin. -/
import Derived.Test.YtedalcjkolcolaaJad
set_option linter.unusedVariables false
set_option linter.unusedSimpArgs false
section
namespace Go.Rf
open Go.Ab
def execL (c : Cfg) (op : Opt) : List Code → RSt → (Re → RSt → T) → T
  | [], rs, K => K .nrm rs
  | x :: l, rs, K => execT c op x rs fun e rs => match e with
    | .nrm => execL c op l rs K
    | e => K e rs
def endW (P : Program) (y : Code) (Qw : Exit → Act → World → Prop) : Ex → Act → World → Prop
  | .normal, a, w => y.wp P Qw a w
  | .ret, a, w => Qw .ret a w
  | .exit i, a, w => Qw (.exit i) a w
  | .pan v, a, w => Qw (.panic [{ v, recovered := false }]) a w
def QW (C : Ctx) (y : Code) (Qw : Exit → Act → World → Prop) : Ex → St → Prop := fun ex s => ∀ g a w, Rel C s g a w → endW C.P y Qw ex a w
section
variable {up : Nat → Ref} {R : Out → List (Ref × List A) → Prop}
theorem qc_end {C : Ctx} {y : Code} {Qw : Exit → Act → World → Prop} : ∀ e a w, Qc C (QW C y Qw) e a w → (Exit.then (y.wp C.P Qw) Qw) e a w
  | .normal, _, _, ⟨s, g, r, q⟩ => q g _ _ r
  | .exit _, _, _, ⟨s, g, r, q⟩ => q g _ _ r
  | .ret, _, _, ⟨s, g, r, q⟩ => q g _ _ r
  | .panic _, _, _, ⟨v, e, s, g, r, q⟩ => by subst e; exact q g _ _ r
  | .goto _, _, _, q => q.elim
  | .outgrown, _, _, q => q.elim
theorem execL_ok {c : Cfg} {op : Opt} {C : Ctx} (hP : C.P = c.P) (hN : C.N = c.N) (hmx : c.P.follows .mixedOrders = true) {y : Code} {Qw : Exit → Act → World → Prop} {K : Re → RSt → T} {n0 : Nat} {ρ0 : Env} {σ0 : Sig} (hK : GoodE c.P up R n0 ρ0 σ0 (QW C y Qw) K) :
    ∀ (l : List Code) {ρ : Env} {m : Nm} {rs : RSt} {s : St} {σ : Sig}, Agr n0 ρ0 ρ → n0 ≤ rs.nv → m.up = up → σ0 <+: σ → rs.dep = σ.length → Den ρ m rs s → (execL c op l rs K).den c.P up R ρ σ →
      ∀ g a w, Rel C s g a w → (l.foldr Code.seq y).wp C.P Qw a w
  | [], ρ, m, rs, s, σ, ha, hnv, hu, hσ, hdep, hd, h => fun g a w hR => hK .nrm ρ m rs s σ ha hnv hu hσ hdep hd h g a w hR
  | x :: l, ρ, m, rs, s, σ, ha, hnv, hu, hσ, hdep, hd, h => fun g a w hR => by
    have hx := exec_ok (c := c) (op := op) (C := C) hP hN hmx x (Q := QW C (l.foldr Code.seq y) Qw) (K := fun e rs => match e with | .nrm => execL c op l rs K | e => K e rs) (n0 := n0) (ρ0 := ρ0) (σ0 := σ0) (up := up) (R := R)
      (fun e ρ' m' rs' s' σ' ha' hnv' hu' hσ' hdep' hd' h' => by
        cases e with
        | nrm => exact execL_ok hP hN hmx hK l ha' hnv' hu' hσ' hdep' hd' h'
        | ret => exact hK .ret ρ' m' rs' s' σ' ha' hnv' hu' hσ' hdep' hd' h'
        | exit i => exact hK (.exit i) ρ' m' rs' s' σ' ha' hnv' hu' hσ' hdep' hd' h'
        | pan v => exact hK (.pan v) ρ' m' rs' s' σ' ha' hnv' hu' hσ' hdep' hd' h') ha hnv hu hσ hdep hd h
    exact wp_seq (wp_mono (hx g a w hR) qc_end)
end
def slotsE (rs : RSt) : List Nat → Option (List (Bool × E))
  | [] => some []
  | t :: l => match rs.tm.get t, slotsE rs l with
    | .c e, some r => some ((false, e) :: r)
    | .agg e, some r => some ((true, e) :: r)
    | _, _ => none
def up0 : Nat → Ref := fun i => .own i i
def idxR : List RRef → RRef → Option Nat
  | [], _ => none
  | q :: l, r => if q = r then some 0 else (idxR l r).map (· + 1)
theorem idxR_spec : ∀ {l : List RRef} {r : RRef} {i : Nat}, idxR l r = some i → l[i]? = some r
  | q :: l, r, i, h => by
    unfold idxR at h
    split at h
    · rename_i e; cases h; rw [e]; rfl
    · cases hi : idxR l r with
      | none => rw [hi] at h; cases h
      | some j =>
        rw [hi] at h; cases h
        rw [List.getElem?_cons_succ]
        exact idxR_spec hi
def renC (refs : List RRef) : RA → Option RA
  | .c e => some (.c e)
  | .zs e => some (.zs e)
  | .ptr r 0 => (idxR refs r).map fun i => .ptr (.up i) 0
  | _ => none
def renL (refs : List RRef) : List RA → Option (List RA)
  | [] => some []
  | x :: l => match renC refs x, renL refs l with | some y, some m => some (y :: m) | _, _ => none
def renK (refs : List RRef) : List (RRef × List RA) → Option (List (RRef × List RA))
  | [] => some []
  | (r, c) :: l => match renL refs c, renK refs l with | some d, some m => some ((r, d) :: m) | _, _ => none
def renA (qs : List Ref) : A → A
  | .ptr (.up (.own i _)) o => .ptr (.up (qs.getD i (.own 0 0))) o
  | x => x
theorem renC_spec {refs : List RRef} {x y : RA} (h : renC refs x = some y) (ρ : Env) (m : Nm) (gen : Nat → Nat) : (x.den ρ m gen).lift = renA (refs.map (RRef.den m)) (y.den ρ ⟨up0, gen0⟩ gen) := by
  unfold renC at h
  split at h
  · cases h; rfl
  · cases h; rfl
  · rename_i r
    cases hi : idxR refs r with
    | none => rw [hi] at h; cases h
    | some i =>
      rw [hi] at h; cases h
      have := idxR_spec hi
      show A.ptr (.up (r.den m)) 0 = A.ptr (.up ((refs.map (RRef.den m)).getD i (.own 0 0))) 0
      rw [List.getD, List.getElem?_map, this]
      rfl
  · cases h
theorem renL_spec {refs : List RRef} (ρ : Env) (m : Nm) : ∀ {l l2 : List RA}, renL refs l = some l2 → (kDen ρ m l).map A.lift = (kDen ρ ⟨up0, gen0⟩ l2).map (renA (refs.map (RRef.den m)))
  | [], l2, h => by cases h; rfl
  | x :: l, l2, h => by
    unfold renL at h
    split at h
    · rename_i y n h1 h2
      cases h
      have := renL_spec ρ m h2
      simp only [kDen, List.map_cons] at this ⊢
      rw [this, renC_spec h1]
    · cases h
theorem renK_spec {refs : List RRef} (ρ : Env) (m : Nm) : ∀ {K K2 : List (RRef × List RA)}, renK refs K = some K2 → K2.map (·.1) = K.map (·.1) ∧ liftH (bxDen ρ m K) = ((K.map (·.1)).map fun r => Ref.up (r.den m)).zip ((bxDen ρ ⟨up0, gen0⟩ K2).map fun x => x.2.map (renA (refs.map (RRef.den m))))
  | [], K2, h => by cases h; exact ⟨rfl, rfl⟩
  | (r, c) :: l, K2, h => by
    unfold renK at h
    split at h
    · rename_i d n h1 h2
      cases h
      obtain ⟨k1, k2⟩ := renK_spec ρ m h2
      refine ⟨by simp [k1], ?_⟩
      have := renL_spec ρ m h1
      simp only [liftH, bxDen, List.map_cons, List.zip_cons_cons] at k2 ⊢
      rw [this, k2]
    · cases h
def preT (c : Cfg) (caps : List Nat) (extra : List RRef) (data : List Nat) (rl : List ResultVar) : Re → RSt → T := fun e rs =>
  match e with
  | .nrm => (match rrefs (caps.map fun t => rs.tm.get t), slotsE rs data with
    | some refs, some vs => (match gatherK rs.K (refs ++ extra) with
      | some K => (match renK (refs ++ extra) K with
        | some K2 => if decide (refs ++ extra).Nodup && !(refs ++ extra).isEmpty then .ret (.tup vs) K2 else .bad 120
        | none => .bad 123)
      | none => .bad 121)
    | _, _ => .bad 122)
  | e => finT c rl [] e rs
def dataA : Bool × List D → A
  | (true, l) => .agg l
  | (false, [x]) => .d x
  | _ => .any
def modeOf : Out → FrameMode | .ret _ => .returning | .pan v => .panicking [{ v, recovered := false }]
def resD (kn : List (Nat × Nat)) (ls : List (List A)) : Option (List (Bool × List D)) := kn.mapM fun x => match ls[x.1]? with
  | some l => (match cellsD l with | some l => if l.length = x.2 then some (true, l) else none | none => none)
  | none => none
def midR (P : Program) (F : FuncId) (nc : Nat) (kn : List (Nat × Nat)) (Rfin : Out → Prop) (qs : List Ref) : Out → List (Ref × List A) → Prop := fun o H' =>
  ∃ u' RH, HoldsD P F ((qs.take nc).map fun q => A.ptr (.up q) 0) H' (modeOf o) u' RH ∧ settle u' = .returning ∧ ∀ H2, RH H2 → ∃ vs, resD kn (H2.map (·.2)) = some vs ∧ Rfin (.ret (.tup vs))
def preR (P : Program) (post : Code) (N : Nat) (F : FuncId) (caps data : List Nat) (keep kn : List (Nat × Nat)) (Rfin : Out → Prop) : Out → List (Ref × List A) → Prop := fun o H =>
  (H = [] → Rfin o) ∧ (H ≠ [] → ∃ vs, o = .ret (.tup vs) ∧ ∀ qs : List Ref, qs.length = H.length → qs.Nodup →
    PostHolds P post N (data.zip (vs.map dataA) ++ caps.zip ((qs.take caps.length).map fun q => A.ptr (.up q) 0)) ((qs.map Ref.up).zip (H.map fun x => x.2.map (renA qs))) (keep.map fun x => (x.1, (qs.map Ref.up).getD x.2 (.own 0 0))) (midR P F caps.length kn Rfin qs))
def resChk (P : Program) : List ResultVar → List (Nat × Nat) → List (Nat × Nat) → Bool
  | [], [], [] => true
  | .cell t ty :: l, (t', i) :: k, (j, n) :: m => (t == t') && (i == j) && (szOf P ty == some (n, true)) && resChk P l k m
  | _, _, _ => false
theorem slotsE_spec {rs : RSt} : ∀ {l : List Nat} {vs : List (Bool × E)}, slotsE rs l = some vs → ∀ (ρ : Env) (m : Nm) (gen : Nat → Nat), ∀ x ∈ l.zip ((vs.map (tupDen ρ)).map dataA), rs.tm.get x.1 ≠ .any ∧ x.2 = (rs.tm.get x.1).den ρ m gen ∧ (∃ d, x.2 = .d d) ∨ rs.tm.get x.1 ≠ .any ∧ x.2 = (rs.tm.get x.1).den ρ m gen ∧ ∃ d, x.2 = .agg d
  | [], _, _, _, _, _, x, hx => by simp at hx
  | t :: l, vs, h, ρ, m, gen, x, hx => by
    unfold slotsE at h
    split at h
    · rename_i e r h1 h2
      cases h
      simp only [List.map_cons, List.zip_cons_cons, List.mem_cons] at hx
      rcases hx with rfl | hx
      · left
        dsimp only
        rw [h1]
        exact ⟨(fun e => by cases e), rfl, _, rfl⟩
      · exact slotsE_spec h2 ρ m gen x hx
    · rename_i e r h1 h2
      cases h
      simp only [List.map_cons, List.zip_cons_cons, List.mem_cons] at hx
      rcases hx with rfl | hx
      · right
        dsimp only
        rw [h1]
        exact ⟨(fun e => by cases e), rfl, _, rfl⟩
      · exact slotsE_spec h2 ρ m gen x hx
    · cases h
theorem rrefs_spec : ∀ {l : List RA} {q : List RRef}, rrefs l = some q → l = q.map fun r => RA.ptr r 0
  | [], q, h => by cases h; rfl
  | x :: l, q, h => by
    unfold rrefs at h
    split at h
    · rename_i heq; cases heq
    · rename_i r l' heq
      cases heq
      cases hq : rrefs l with
      | none => rw [hq] at h; cases h
      | some q' =>
        rw [hq] at h; cases h
        rw [rrefs_spec hq]; rfl
    · cases h
theorem lookS_nodup {α : Type} : ∀ {l : List (Nat × α)} {x : Nat × α}, (l.map (·.1)).Nodup → x ∈ l → lookS l x.1 = some x.2
  | (k, y) :: l, x, hn, hx => by
    simp only [List.map_cons, List.nodup_cons] at hn
    unfold lookS
    rcases List.mem_cons.1 hx with rfl | hx
    · rw [if_pos rfl]
    · rw [if_neg (fun e => hn.1 (by rw [← e]; exact List.mem_map_of_mem hx))]
      exact lookS_nodup hn.2 hx
theorem cellsD_map : ∀ l : List D, cellsD (l.map A.d) = some l
  | [] => rfl
  | x :: l => by simp [cellsD, cellsD_map l]
theorem res_keep {P : Program} {s : St} {ls : List (List A)} {qs : List Ref} (hb : ∀ i (h : i < ls.length), ∃ r, qs[i]? = some r ∧ s.K r = some ls[i]) :
    ∀ {rl : List ResultVar} {keep kn : List (Nat × Nat)} {vs : List (Bool × List D)}, resChk P rl keep kn = true → (∀ x ∈ keep, s.tm x.1 = .ptr (qs.getD x.2 (.own 0 0)) 0) → resD kn ls = some vs →
      ∃ as, rl.mapM (resOne P s) = some as ∧ as.mapM tupOne = some vs
  | [], [], [], vs, _, _, h => by cases h; exact ⟨[], rfl, rfl⟩
  | .cell t ty :: rl, (t', i) :: keep, (j, n) :: kn, vs, hc, hk, h => by
    simp only [resChk, Bool.and_eq_true, beq_iff_eq] at hc
    obtain ⟨⟨⟨rfl, rfl⟩, hz⟩, hc⟩ := hc
    unfold resD at h
    rw [List.mapM_cons] at h
    simp only [bind, Option.bind_eq_some_iff, pure, Option.some.injEq] at h
    obtain ⟨v, h1, vs', h2, rfl⟩ := h
    obtain ⟨as, h3, h4⟩ := res_keep hb hc (fun x hx => hk x (List.mem_cons_of_mem _ hx)) h2
    split at h1
    · rename_i l0 hl
      split at h1
      rotate_left
      · cases h1
      rename_i l hcd
      split at h1
      · rename_i hn
        cases h1
        have hi : i < ls.length := (List.getElem?_eq_some_iff.1 hl).1
        obtain ⟨r, hr, hK⟩ := hb i hi
        have e : ls[i] = l0 := (List.getElem?_eq_some_iff.1 hl).2
        have ht := hk (t, i) (List.mem_cons_self ..)
        have hg : qs.getD i (.own 0 0) = r := by rw [List.getD, hr]; rfl
        dsimp only at ht
        rw [hg] at ht
        have : resOne P s (.cell t ty) = some (.agg l) := by
          simp only [resOne, evLoad, hz, ht, hK, e, List.drop_zero]
          have : l0.take n = l0 := List.take_of_length_le (by have := (cellsD_get hcd).1; omega)
          rw [this, hcd]
          simp [hn]
        refine ⟨.agg l :: as, ?_, ?_⟩
        · rw [List.mapM_cons, this, h3]; rfl
        · rw [List.mapM_cons, h4]; rfl
      · cases h1
    · cases h1
  | [], [], _ :: _, _, h, _, _ => by simp [resChk] at h
  | [], _ :: _, _, _, h, _, _ => by simp [resChk] at h
  | .tmp _ :: _, _, _, _, h, _, _ => by simp [resChk] at h
  | .cell _ _ :: _, [], _, _, h, _, _ => by simp [resChk] at h
  | .cell _ _ :: _, _ :: _, [], _, h, _, _ => by simp [resChk] at h
theorem map_lift_d {l : List A} (h : ∀ x ∈ l, ∃ d, x = A.d d) : l.map A.lift = l := by
  have : l.map A.lift = l.map id := List.map_congr_left fun x hx => by obtain ⟨d, rfl⟩ := h x hx; rfl
  rw [this, List.map_id]
theorem all2_map2 {α β γ : Type} {R : β → γ → Prop} {f : α → β} {g : α → γ} : ∀ {l : List α}, (∀ x ∈ l, R (f x) (g x)) → All2 R (l.map f) (l.map g)
  | [], _ => trivial
  | x :: l, h => ⟨h x (List.mem_cons_self ..), all2_map2 fun y hy => h y (List.mem_cons_of_mem _ hy)⟩
theorem noown (g : Gh) (o : Owner) (b : Nat) : ¬ Owns (boxSt []) g o b := fun h => by
  cases h with
  | box h => cases h
  | slot h => cases h
  | cell h _ _ => cases h
theorem keep_lt {P : Program} {ls : List (List A)} : ∀ {rl : List ResultVar} {keep kn : List (Nat × Nat)} {vs : List (Bool × List D)}, resChk P rl keep kn = true → resD kn ls = some vs → ∀ x ∈ keep, x.2 < ls.length
  | [], [], [], vs, _, _, x, hx => by cases hx
  | .cell t ty :: rl, (t', i) :: keep, (j, n) :: kn, vs, hc, h, x, hx => by
    simp only [resChk, Bool.and_eq_true, beq_iff_eq] at hc
    obtain ⟨⟨⟨rfl, rfl⟩, hz⟩, hc⟩ := hc
    unfold resD at h
    rw [List.mapM_cons] at h
    simp only [bind, Option.bind_eq_some_iff, pure, Option.some.injEq] at h
    obtain ⟨v, h1, vs', h2, rfl⟩ := h
    rcases List.mem_cons.1 hx with rfl | hx
    · split at h1
      · rename_i l hl; exact (List.getElem?_eq_some_iff.1 hl).1
      · cases h1
    · exact keep_lt hc h2 x hx
  | [], [], _ :: _, _, h, _, _, _ => by simp [resChk] at h
  | [], _ :: _, _, _, h, _, _, _ => by simp [resChk] at h
  | .tmp _ :: _, _, _, _, h, _, _, _ => by simp [resChk] at h
  | .cell _ _ :: _, [], _, _, h, _, _, _ => by simp [resChk] at h
  | .cell _ _ :: _, _ :: _, [], _, h, _, _, _ => by simp [resChk] at h
def A.unlift : A → A
  | .ptr (.up r) o => .ptr r o
  | .fn f rs => .fn f (rs.map fun r => match r with | .up q => q | q => q)
  | x => x
theorem unlift_lift {x : A} (h : noOwnRef x = true) (hp : x.plain = true) : (A.unlift x).lift = x ∧ (A.unlift x).plain = true := by
  cases x with
  | ptr r o => cases r with
    | own a b => cases h
    | up q => exact ⟨rfl, rfl⟩
  | fn f rs =>
    refine ⟨?_, rfl⟩
    show A.fn f ((rs.map _).map Ref.up) = _
    rw [List.map_map]
    congr 1
    have : rs.map (Ref.up ∘ fun r => match r with | .up q => q | q => q) = rs.map _root_.id := List.map_congr_left fun r hr => by
      have := List.all_eq_true.1 h r hr
      cases r with
      | own a b => cases this
      | up q => rfl
    rw [this, List.map_id]
  | als _ _ => cases hp
  | opt _ _ _ _ _ => cases hp
  | _ => exact ⟨rfl, hp⟩
theorem unliftL {l : List A} (h : l.all noOwnRef = true) (hp : ∀ x ∈ l, x.plain = true) : (l.map A.unlift).map A.lift = l := by
  rw [List.map_map]
  have : l.map (A.lift ∘ A.unlift) = l.map _root_.id := List.map_congr_left fun x hx => (unlift_lift (List.all_eq_true.1 h x hx) (hp x hx)).1
  rw [this, List.map_id]
theorem zip_fst_snd {α β : Type} : ∀ L : List (α × β), L = (L.map (·.1)).zip (L.map (·.2))
  | [] => rfl
  | x :: L => by simp only [List.map_cons, List.zip_cons_cons]; rw [← zip_fst_snd L]
theorem unliftH : ∀ {qs : List Ref} {H : List (Ref × List A)}, H.map (·.1) = qs.map Ref.up → (∀ x ∈ H, x.2.all noOwnRef = true ∧ ∀ y ∈ x.2, y.plain = true) → liftH (qs.zip (H.map fun x => x.2.map A.unlift)) = H
  | [], [], _, _ => rfl
  | [], x :: H, h, _ => by cases h
  | q :: qs, [], h, _ => by cases h
  | q :: qs, x :: H, h, hx => by
    simp only [List.map_cons, List.cons.injEq] at h
    have := unliftH h.2 fun y hy => hx y (List.mem_cons_of_mem _ hy)
    simp only [liftH, List.map_cons, List.zip_cons_cons] at this ⊢
    rw [this, unliftL (hx x (List.mem_cons_self ..)).1 (hx x (List.mem_cons_self ..)).2, ← h.1]
theorem holds_defer {c : Cfg} {op : Opt} {f F : FuncId} {fn Fn' : Func} {Fcode : Code} {l : List Code} {id : Nat} {o1 o2 : Oper} {post : Code} {tys : Array TypeId} {dt : Nat} {caps data : List Nat} {extra : List RRef} {rl : List ResultVar} {keep kn : List (Nat × Nat)} {args : List RA} {nv depth : Nat} {ρ : Env} {t : T} {Rfin : Out → Prop}
    (hmx : c.P.follows .mixedOrders = true) (hf : c.P.funcs[f]? = some fn) (hb : fn.body = some (l.foldr Code.seq (.seq (.region id #[o1, o2] false) post))) (hrs : fn.results.toList = rl) (hN : fn.ntmps = c.N)
    (hn : (fn.name == "runtime.NumGoroutine") = false) (hF : c.P.funcs[F]? = some Fn') (hFb : Fn'.body = some Fcode) (hFn : (Fn'.name == "runtime.NumGoroutine") = false)
    (h1 : o1.op = .makeFunc (.func F) #[] (caps.map Operand.tmp).toArray) (g1 : o1.guard = none) (e1 : o1.dst = some dt)
    (h2 : o2.op = .defer { callee := .value (.tmp dt), args := #[], argTypes := tys }) (g2 : o2.guard = none) (e2 : o2.dst = none) (hdt : dt < c.N)
    (hlen : args.length ≤ c.N) (ha : argOk args = true) (hne : ∀ t ∈ caps ++ data, t ≠ dt) (hcap : caps.length ≠ 0) (hrc : resChk c.P rl keep kn = true) (hkn : (keep.map (·.1)).Nodup) (hrl : rl.length ≠ 1)
    (ht : execL c op l (entry depth args [] nv) (preT c caps extra data rl) = t)
    (h : t.vc c.P (up0) (preR c.P post c.N F caps data keep kn Rfin) ρ) :
    Holds c.P f (args.map (RA.den ρ ⟨up0, gen0⟩ gen0)) [] (fun o H => H = [] ∧ Rfin o) := by
  unfold T.vc at h
  have hargs : ∀ x ∈ args, (x.den ρ ⟨up0, gen0⟩ gen0).isOwn = false ∧ (x.den ρ ⟨up0, gen0⟩ gen0).plain = true ∧ x.ali = none := fun x hx => by
    have := List.all_eq_true.1 ha x hx
    cases x with
    | c x => exact ⟨rfl, rfl, rfl⟩
    | agg x => exact ⟨rfl, rfl, rfl⟩
    | zs x => exact ⟨rfl, rfl, rfl⟩
    | ptr r o => exact ⟨rfl, rfl, rfl⟩
    | fn f l => exact ⟨rfl, rfl, rfl⟩
    | _ => cases this
  have hget : ∀ j, (entry depth args [] nv).tm.get j = .any ∨ args[j]? = some ((entry depth args [] nv).tm.get j) := fun j => by
    rcases setArgs_get args (Tr.full depth) 0 j with h | ⟨h1, _⟩ | ⟨_, h2⟩ | ⟨_, h2⟩
    · exact .inl h
    · omega
    · right; rw [Nat.sub_zero] at h2; exact h2
    · left
      show (setArgs (Tr.full depth) 0 args).get j = .any
      rw [h2, full_get]
  have hd : Den ρ ⟨up0, gen0⟩ (entry depth args [] nv) (initSt (args.map (RA.den ρ ⟨up0, gen0⟩ gen0)) []) := by
    refine ⟨fun j => ?_, fun _ j => ?_, fun r x hx => (by cases hx), List.nodup_nil, fun e he => by cases he⟩
    · rcases hget j with h1 | h1
      · exact .inl h1
      · right
        show ((args.map (RA.den ρ ⟨up0, gen0⟩ gen0))[j]?).getD .any = _
        rw [List.getElem?_map, h1]
        rfl
    · rcases hget j with h1 | h1
      · rw [h1]; rfl
      · exact (hargs _ (List.mem_of_getElem? h1)).2.2
  intro w0 cargs g0 hcargs hheap0
  unfold CallsX
  have hbody : fn.body = some (l.foldr Code.seq (.seq (.region id #[o1, o2] false) post)) := hb
  rw [run_callFunc hf hbody hn]
  refine calls_of_wp_defers hf hbody ?_
  have hR0 := init_rel (N := fn.ntmps) (by rw [hN]; simpa using hlen) (fun x hx => by
    obtain ⟨y, hy, rfl⟩ := List.mem_map.1 hx
    exact ⟨(hargs y hy).1, (hargs y hy).2.1⟩) hcargs hheap0
  let Rend : Ending → World → Prop := fun e w' => ∃ out H' g', ((fun o H => H = [] ∧ Rfin o : Out → List (Ref × List A) → Prop)) out H' ∧ H'.map (·.1) = ([] : List (Ref × List A)).map (·.1) ∧ HeapRel (entryCtx c.P w0 g0 [] 0) (boxSt H') g' w' ∧ EndRep (entryCtx c.P w0 g0 [] 0) (boxSt H') g' w' out e
  show (l.foldr Code.seq (.seq (.region id #[o1, o2] false) post)).wp c.P (bodyPostD c.P fn Rend) _ w0
  let C : Ctx := entryCtx c.P w0 g0 [] fn.ntmps
  have hnil : ∀ {s : St} {g' : Gh} {a : Act} {w : World}, Rel C s g' a w → HeapRel (entryCtx c.P w0 g0 [] 0) (boxSt []) g' w := fun {s g' a w} hR =>
    (HeapRel.out (H := []) (H' := []) rfl hR.heap List.nodup_nil (fun r hr => by cases hr) ⟨rfl, fun x hx => by cases hx⟩).1
  have hgood : GoodE c.P (up0) (preR c.P post c.N F caps data keep kn Rfin) nv ρ [] (QW C (.seq (.region id #[o1, o2] false) post) (bodyPostD c.P fn Rend)) (preT c caps extra data rl) := by
    intro e ρ' m rs s σ hag hnv hu hσ hdep hd h
    have early : e ≠ .nrm → QW C (.seq (.region id #[o1, o2] false) post) (bodyPostD c.P fn Rend) (e.conv ρ') s := fun hne => by
      have hfin : (finT c rl [] e rs).den c.P (up0) (preR c.P post c.N F caps data keep kn Rfin) ρ' σ := by
        unfold preT at h
        cases e with
        | nrm => exact absurd rfl hne
        | ret => exact h
        | exit i => exact h
        | pan v => exact h
      have hk := fin_ok (c := c) (rl := rl) (H := []) (K0 := []) (ρ0 := ρ) (up := up0) (R := preR c.P post c.N F caps data keep kn Rfin) (n0 := nv) rfl (fun x hx => by cases hx) e ρ' m rs s σ hag hnv hu (List.nil_prefix) hdep hd hfin
      intro g a w hR
      cases e with
      | nrm => exact absurd rfl hne
      | ret =>
        obtain ⟨v, H', k1, k2, k3, k4⟩ := hk
        have hH' : H' = [] := List.map_eq_nil_iff.1 k3.1
        subst hH'
        show Leaves c.P fn a.tmps Rend a.defers .returning w
        have hdf : a.defers = [] := hR.defers
        rw [hdf]
        rw [← hrs] at k1
        obtain ⟨cv, m1, p, m2, m3⟩ := run_results (C := C) (fn := fn) hR k1
        refine ⟨cv, m1, .ret v, [], g.give .res (g.ow p), ⟨rfl, k4.1 rfl⟩, rfl, ?_, cv, rfl, ?_, fun ho => ?_⟩
        · have k5 := hnil hR
          exact ⟨fun r c hc => (by cases hc), fun o o' b h1 h2 => (noown _ _ _ h1).elim, fun o b h1 => (noown _ _ _ h1).elim, k5.prs, k5.pr0, k5.prn, k5.up, k5.uu, k5.fr⟩
        · refine (m2.gen0 (p' := p) k2 fun _ => rfl).keep (g.give_keeps .res _ w _ _ fun _ => Nat.le_refl _) fun _ => ⟨upd_same _ _ _, rfl, fun _ => Iff.rfl⟩
        · obtain ⟨t, rfl, ho'⟩ := m3 ho
          refine ⟨fun o h5 => noown _ _ _ h5, ?_⟩
          have e0 : (g.give .res (g.ow (.slot t))).ow .res = g.ow (.slot t) := upd_same _ _ _
          rw [e0]
          exact hR.heap.wr _ _ ho'
      | pan v =>
        obtain ⟨H', k3, k4⟩ := hk
        have hH' : H' = [] := List.map_eq_nil_iff.1 k3.1
        subst hH'
        show Leaves c.P fn a.tmps Rend a.defers (.panicking _) w
        have hdf : a.defers = [] := hR.defers
        rw [hdf]
        exact ⟨.pan _, [], g, ⟨rfl, k4.1 rfl⟩, rfl, hnil hR, rfl⟩
      | exit i => exact hk.elim
    cases e with
    | ret => exact early (by intro e; cases e)
    | exit i => exact early (by intro e; cases e)
    | pan v => exact early (by intro e; cases e)
    | nrm =>
      unfold preT at h
      dsimp only at h
      split at h
      · rename_i refs1 vs hrefs hvs
        let refs : List RRef := refs1 ++ extra
        split at h
        rotate_left
        · unfold T.den at h; exact h.elim
        · rename_i K hK
          split at h
          rotate_left
          · unfold T.den at h; exact h.elim
          rename_i K2 hK2
          split at h
          · rename_i hchk
            simp only [Bool.and_eq_true, decide_eq_true_eq, Bool.not_eq_true', List.isEmpty_eq_false_iff] at hchk
            obtain ⟨hrn, hrne⟩ := hchk
            obtain ⟨hK2n, hK2l⟩ := renK_spec ρ' m hK2
            unfold T.den at h
            intro g a w hR
            show (Code.seq (.region id #[o1, o2] false) post).wp c.P (bodyPostD c.P fn Rend) a w
            have hnm : K.map (·.1) = refs := gather_names hK
            have hin := gather_mem hK
            have hsub : ∀ x ∈ K, x.1 ∈ rs.K.map (·.1) := fun x hx => List.mem_map.2 ⟨_, lookK_mem (hin x hx), rfl⟩
            let H : List (Ref × List A) := bxDen ρ' m K
            have hHK : ∀ x ∈ H, s.K x.1 = some x.2 := fun x hx => by
              obtain ⟨y, hy, rfl⟩ := List.mem_map.1 hx
              exact hd.look (hin y hy)
            have hHfst : H.map (·.1) = refs.map (RRef.den m) := by
              show (bxDen ρ' m K).map (·.1) = _
              rw [← hnm]; simp [bxDen, Function.comp_def]
            have hHn : (H.map (·.1)).Nodup := by
              have hrn' : (K.map (·.1)).Nodup := by rw [hnm]; exact hrn
              rw [hHfst]
              show (refs.map (RRef.den m)).Nodup
              have hnm' : refs = K.map (·.1) := hnm.symm
              rw [hnm']
              refine List.pairwise_map.2 (List.Pairwise.imp_of_mem (fun {x y} hx hy hxy e => hxy ?_) hrn')
              obtain ⟨x', hx', rfl⟩ := List.mem_map.1 hx
              obtain ⟨y', hy', rfl⟩ := List.mem_map.1 hy
              exact names_inj hd.nd (hsub _ hx') (hsub _ hy') e
            let qs : List Ref := refs.map (RRef.den m)
            have hlift : liftH H = (qs.map Ref.up).zip ((bxDen ρ' ⟨up0, gen0⟩ K2).map fun x => x.2.map (renA qs)) := by
              show liftH (bxDen ρ' m K) = _
              rw [hK2l, hnm]
              show _ = ((refs.map (RRef.den m)).map Ref.up).zip _
              rw [List.map_map]
              rfl
            have hHne : bxDen ρ' ⟨up0, gen0⟩ K2 ≠ [] := fun e0 => by
              have hk0 : K2 = [] := List.map_eq_nil_iff.1 e0
              have hk1 : K.map (·.1) = [] := by rw [← hK2n, hk0]; rfl
              exact hrne (hnm.symm.trans hk1)
            obtain ⟨vs', hvs', hpost⟩ := h.2 hHne
            have hvs2 : vs' = vs.map (tupDen ρ') := by
              have : (RA.tup vs).den ρ' ⟨up0, gen0⟩ gen0 = A.tup vs' := by injection hvs'
              have e9 : (RA.tup vs).den ρ' ⟨up0, gen0⟩ gen0 = A.tup (vs.map (tupDen ρ')) := rfl
              rw [e9] at this
              injection this with this
              exact this.symm
            subst hvs2
            have hqlen : qs.length = (bxDen ρ' ⟨up0, gen0⟩ K2).length := by
              show (refs.map (RRef.den m)).length = _
              have := congrArg List.length hK2n
              rw [← hnm]; simp [bxDen] at this ⊢; omega
            have hqn : qs.Nodup := by show (refs.map (RRef.den m)).Nodup; rw [← hHfst]; exact hHn
            have hP := hpost qs hqlen hqn
            rw [← hlift] at hP
            have hcl : caps.length = refs1.length := by
              have := rrefs_spec hrefs
              have := congrArg List.length this
              simpa using this
            have hgetc : ∀ i (hi : i < caps.length), rs.tm.get caps[i] = .ptr (refs1[i]'(by omega)) 0 := fun i hi => by
              have := rrefs_spec hrefs
              have h3 := congrArg (fun l => l[i]?) this
              simp only [List.getElem?_map] at h3
              rw [List.getElem?_eq_getElem hi, List.getElem?_eq_getElem (show i < refs1.length by omega)] at h3
              simpa using h3
            have hec : ∀ i (hi : i < caps.length), s.tm caps[i] = .ptr ((refs1[i]'(by omega)).den m) 0 := fun i hi => by
              have h3 := (hd.tm caps[i]).resolve_left (by rw [hgetc i hi]; intro e; cases e)
              rw [h3, hgetc i hi]; rfl
            let qc : List Ref := refs1.map (RRef.den m)
            have hqc : qs.take caps.length = qc := by
              show ((refs1 ++ extra).map (RRef.den m)).take caps.length = _
              rw [List.map_append, hcl, List.take_left' (by simp)]
            have hev : evalV c.P s o1 = some (.fn F qc) := by
              unfold evalV
              rw [h1]
              have e5 : (caps.map Operand.tmp).toArray.toList.map s.ev = (caps.map fun t => rs.tm.get t).map fun x => x.den ρ' m s.gen := by
                simp only [List.map_map]
                refine List.ext_getElem (by simp) fun i h3 h4 => ?_
                have hi : i < caps.length := by simpa using h3
                simp only [List.getElem_map, Function.comp]
                show s.tm caps[i] = _
                rw [hec i hi, hgetc i hi]; rfl
              have e6 := (refs_of (ρ := ρ') (m := m) (s := s) hrefs).1
              show (if (#[] : Array Operand).toList = [] then (refsOf ((caps.map Operand.tmp).toArray.toList.map s.ev)).map (fun rs => A.fn F rs) else none) = _
              rw [e5, e6]
              rfl
            obtain ⟨v, hv1, hv2, _, _⟩ := evalV_ok (C := C) hev hR (.slot dt)
            obtain ⟨hv3, hv4⟩ := hv2
            let ptrs : Array Value := (qc.map fun r => Value.pointer (some ⟨g.bx r, 0, none⟩)).toArray
            have hv5 : v = .func (.func F) #[] ptrs := hv3
            let d : Deferred := { target := .fn (.func F) ptrs, args := #[] }
            have hdt' : dt < fn.ntmps := by rw [hN]; exact hdt
            have hR1 : Rel C (s.put dt (.fn F qc)) g (a.put (some dt) v) w := hR.put hdt' rfl ⟨hv3, hv4⟩ (fun t n e => by cases e) (fun t n sz i j e => by cases e)
            let a2 : Act := { (a.put (some dt) v) with defers := [d] }
            have hadf : a.defers = [] := hR.defers
            have hsz : dt < a.tmps.size := by rw [hR.size]; exact hdt'
            refine wp_seq (wp_region ?_)
            have w1 : ∀ b : Act, Region.wanted o1 (yielded #[o1, o2] b.tmps) = true := fun b => by simp [Region.wanted, g1]
            have w2 : ∀ b : Act, Region.wanted o2 (yielded #[o1, o2] b.tmps) = true := fun b => by simp [Region.wanted, g2]
            have x2 : (execOp ((a.put (some dt) v).eval) o2).run c.P w = .ok (.defer d) w := by
              have e6 : (a.put (some dt) v).eval (.tmp dt) = v := by simp [Act.eval, Act.put, hsz]
              have e7 := e6.trans hv5
              simp [execOp, h2, resolve, e7, Deferred.ofValue, d]
            have hrg : List.range (#[o1, o2] : Array Oper).size = [0, 1] := rfl
            have z0 : (#[o1, o2] : Array Oper)[0]? = some o1 := rfl
            have z1 : (#[o1, o2] : Array Oper)[1]? = some o2 := rfl
            rw [hrg]
            simp only [wpOps, z0, z1, w1, w2, if_true]
            left
            unfold Oper.wp
            have x1 : (execOp a.eval o1).run c.P w = .ok (.value v) w := hv1
            rw [x1, Oper.upon_value, e1]
            left
            rw [x2, Oper.upon_defer, e2]
            show post.wp c.P (bodyPostD c.P fn Rend) ({ (a.put (some dt) v) with defers := d :: (a.put (some dt) v).defers }.put none undef) w
            have ea2 : ({ (a.put (some dt) v) with defers := d :: (a.put (some dt) v).defers }.put none undef : Act) = a2 := by
              have : (a.put (some dt) v).defers = [] := by rw [put_defers]; exact hadf
              simp only [this]; rfl
            rw [ea2]
            have hsz2 : a2.tmps.size = c.N := by
              show (a.put (some dt) v).tmps.size = _
              rw [put_size, hR.size]; exact hN
            have hslots : ∀ x ∈ data.zip ((vs.map (tupDen ρ')).map dataA) ++ caps.zip ((qs.take caps.length).map fun q => A.ptr (.up q) 0), RepA w (g.down s.gen) (fun _ => 0) (.slot x.1) x.2 (a2.tmps.getD x.1 undef) := fun x hx => by
              have hsame : ∀ t, t ≠ dt → a2.tmps.getD t undef = a.tmps.getD t undef := fun t ht => by
                show (a.put (some dt) v).tmps.getD t undef = _
                rw [getD_put hsz, if_neg ht]
              rcases List.mem_append.1 hx with hx | hx
              · have ht : x.1 ≠ dt := hne _ (List.mem_append.2 (.inr (List.of_mem_zip hx).1))
                rw [hsame _ ht]
                have h3 := hR.slot x.1
                rcases slotsE_spec hvs ρ' m s.gen x hx with ⟨k1, k2, d', k3⟩ | ⟨k1, k2, d', k3⟩
                · have h4 := (hd.tm x.1).resolve_left k1
                  rw [h4, ← k2, k3] at h3
                  rw [k3]; exact h3
                · have h4 := (hd.tm x.1).resolve_left k1
                  rw [h4, ← k2, k3] at h3
                  rw [k3]; exact h3
              · have ht : x.1 ≠ dt := hne _ (List.mem_append.2 (.inl (List.of_mem_zip hx).1))
                rw [hsame _ ht]
                rw [hqc] at hx
                obtain ⟨i, hi, rfl⟩ := List.mem_iff_getElem.1 hx
                have hi' : i < caps.length := by
                  simp only [List.length_zip] at hi; omega
                simp only [List.getElem_zip, List.getElem_map]
                have h3 := hR.slot caps[i]
                rw [hec i hi'] at h3
                have h5 : qc[i]'(by show i < (refs1.map _).length; simp; omega) = (refs1[i]'(by omega)).den m := List.getElem_map _
                rw [h5]
                exact ⟨h3.1, h3.2⟩
            have hheapD : HeapRel (entryCtx c.P w (g.down s.gen) (liftH H) 0) (boxSt (liftH H)) (g.down s.gen) w := hR.down hHK
            refine wp_mono (hP w (g.down s.gen) a2 hsz2 hslots hheapD) fun ex a' w' hq => ?_
            obtain ⟨o, H', g', k1, k2, k3, k4, k5, k6, k7⟩ := hq
            obtain ⟨u', RH, k8, k9, k10⟩ := k2
            have hadf' : a'.defers = [d] := k5
            have hlf : (liftH H).map (·.1) = qs.map Ref.up := by rw [liftH_fst, hHfst]
            have hH'n : (H'.map (·.1)).Nodup := by rw [k3]; exact liftH_nodup hHn
            have hgbx : ∀ r, g'.bx (.up r) = g.bx r := fun r => k4.up r
            have hok' : ∀ q ∈ qs, RefOk g' (fun _ => 0) (.up q) := fun q hq => by
              have hmem : Ref.up q ∈ H'.map (·.1) := by rw [k3, hlf]; exact List.mem_map_of_mem hq
              obtain ⟨c', hc'⟩ := kOf_some.2 hmem
              obtain ⟨_, _, _, _, _, h5⟩ := k4.box _ c' hc'
              exact h5
            have hleave : Leaves c.P fn a'.tmps Rend [d] (modeOf o) w' := by
              refine leaves_cons (f := F) (args := ptrs) (by cases o <;> (intro e; cases e)) ?_ ?_
              · have : (#[] : Array Value) ++ ptrs = ptrs := by simp
                simp only [invoke, this]
                exact run_callFunc hF hFb hFn ptrs w'
              · have hall : All2 (fun x v => ∀ p, RepA w' g' (fun _ => 0) p x v) ((qs.take caps.length).map fun q => A.ptr (.up q) 0) ptrs.toList := by
                  rw [hqc]
                  exact all2_map2 fun q hq p => ⟨by rw [hgbx], hok' q (List.mem_of_mem_take (by rw [hqc]; exact hq))⟩
                have hcall := k8 w' ptrs g' hall (HeapRel.fresh k4)
                refine hcall.mono fun e u2 w2 hq2 => ?_
                obtain ⟨rfl, ⟨cv0, rfl⟩, H2, g2, m1, m2, m3, m3n⟩ := hq2
                show Leaves c.P fn a'.tmps Rend [] (settle u2) w2
                rw [k9]
                obtain ⟨vs2, m5, m6⟩ := k10 H2 m1
                have hH2f : H2.map (·.1) = qs.map Ref.up := by rw [m2, k3, hlf]
                have hH2n : (H2.map (·.1)).Nodup := by rw [m2]; exact hH'n
                have hll : H2.length = qs.length := by
                  have h6 := congrArg List.length hH2f
                  simpa using h6
                let kq : List (Nat × Ref) := keep.map fun x => (x.1, (qs.map Ref.up).getD x.2 (.own 0 0))
                let s3 : St := ⟨fun t => match lookS kq t with | some q => if (kOf H2 q).isSome = true then .ptr q 0 else .any | none => .any, kOf H2, fun _ => 0⟩
                have hs3 : ∀ t, (s3.tm t).isOwn = false ∧ (s3.tm t).plain = true := fun t => by
                  show (match lookS kq t with | some q => if (kOf H2 q).isSome = true then A.ptr q 0 else .any | none => .any).isOwn = false ∧ (match lookS kq t with | some q => if (kOf H2 q).isSome = true then A.ptr q 0 else .any | none => .any).plain = true
                  cases lookS kq t with
                  | none => exact ⟨rfl, rfl⟩
                  | some q => dsimp only; split <;> exact ⟨rfl, rfl⟩
                let D2 : Ctx := { entryCtx c.P w2 g2 H2 fn.ntmps with ds := a'.defers }
                have hRel3 : Rel D2 s3 g2 a' w2 := by
                  refine ⟨rfl, by show a'.tmps.size = fn.ntmps; rw [k6, hN], fun t => ?_, fun u t n hu => ?_, fun u t n x i j hu => ?_, ?_⟩
                  · show RepA w2 g2 (fun _ => 0) (.slot t) (match lookS kq t with | some q => if (kOf H2 q).isSome = true then A.ptr q 0 else .any | none => .any) _
                    cases hl : lookS kq t with
                    | none => trivial
                    | some q =>
                      dsimp only
                      split
                      · rename_i hex
                        have hkk := k7 _ (lookS_mem hl)
                        dsimp only at hkk
                        obtain ⟨c', hc'⟩ := Option.isSome_iff_exists.1 hex
                        obtain ⟨_, _, _, _, _, h5⟩ := m3.box q c' hc'
                        have hmem : q ∈ qs.map Ref.up := by rw [← hH2f]; exact kOf_some.1 ⟨c', hc'⟩
                        obtain ⟨q', hq', rfl⟩ := List.mem_map.1 hmem
                        refine ⟨?_, h5⟩
                        rw [hkk, m3.up q']
                        rfl
                      · trivial
                  · have := (hs3 u).2; rw [hu] at this; cases this
                  · have := (hs3 u).2; rw [hu] at this; cases this
                  · exact HeapRel.conv (C := entryCtx c.P w2 g2 H2 0) (HeapRel.fresh m3) rfl rfl (fun t => (hs3 t).1) rfl rfl rfl rfl rfl
                have hbb : ∀ i (hi : i < (H2.map (·.2)).length), ∃ r, (qs.map Ref.up)[i]? = some r ∧ s3.K r = some (H2.map (·.2))[i] := fun i hi => by
                  have hi2 : i < H2.length := by simpa using hi
                  refine ⟨H2[i].1, ?_, ?_⟩
                  · rw [← hH2f, List.getElem?_map, List.getElem?_eq_getElem hi2]; rfl
                  · refine kOf_of_mem hH2n ?_
                    simp only [List.getElem_map]
                    exact List.getElem_mem hi2
                have hkeep : ∀ x ∈ keep, s3.tm x.1 = .ptr ((qs.map Ref.up).getD x.2 (.own 0 0)) 0 := fun x hx => by
                  have hlt := keep_lt hrc m5 x hx
                  have hl : lookS kq x.1 = some ((qs.map Ref.up).getD x.2 (.own 0 0)) := lookS_nodup (x := (x.1, (qs.map Ref.up).getD x.2 (.own 0 0))) (by
                    have : kq.map (·.1) = keep.map (·.1) := by show (keep.map _).map _ = _; rw [List.map_map]; rfl
                    rw [this]; exact hkn) (List.mem_map.2 ⟨x, hx, rfl⟩)
                  obtain ⟨r, h5, h6⟩ := hbb x.2 hlt
                  have hg : (qs.map Ref.up).getD x.2 (.own 0 0) = r := by rw [List.getD, h5]; rfl
                  show (match lookS kq x.1 with | some q => if (kOf H2 q).isSome = true then A.ptr q 0 else .any | none => .any) = _
                  rw [hl, hg]
                  have h7 : kOf H2 r = some _ := h6
                  exact if_pos (by rw [h7]; rfl)
                obtain ⟨as, n1, n2⟩ := res_keep hbb hrc hkeep m5
                have hres : resA D2.P s3 fn.results.toList = some (.tup vs2) := by
                  rw [hrs]
                  unfold resA
                  split
                  · exact absurd rfl hrl
                  · show (((rl.mapM (resOne c.P s3)).bind fun vs => vs.mapM tupOne)).map A.tup = _
                    rw [n1]; simp only [Option.bind_some, n2, Option.map_some]
                obtain ⟨cv, r1, p, r2, _⟩ := run_results (C := D2) (fn := fn) hRel3 hres
                refine ⟨cv, r1, .ret (.tup vs2), [], ?_⟩
                have htr : HeapRel (entryCtx c.P w (g.down s.gen) (liftH H) 0) (boxSt H2) g2 w2 := HeapRel.trans k4 m3
                have hpl2 : ∀ x ∈ H2, x.2.all noOwnRef = true ∧ ∀ y ∈ x.2, y.plain = true := fun x hx => ⟨m3n x hx, fun y hy => by
                  obtain ⟨cs, _, _, h7, _, _⟩ := m3.box x.1 x.2 (kOf_of_mem hH2n hx)
                  obtain ⟨j, hj⟩ := List.mem_iff_getElem?.1 hy
                  exact (h7 j y hj).1⟩
                let H2c : List (Ref × List A) := qs.zip (H2.map fun x => x.2.map A.unlift)
                have hl2 : liftH H2c = H2 := unliftH hH2f hpl2
                have hback := hR.back (H := H) hHK hHn (g' := g2) (w' := w2) (H2 := H2c) (by
                    show (qs.zip (H2.map fun x => x.2.map A.unlift)).map (·.1) = H.map (·.1)
                    rw [List.map_fst_zip (by simp; omega), hHfst]) (fun x hx y hy => by
                    have := (List.of_mem_zip hx).2
                    obtain ⟨z, hz, e8⟩ := List.mem_map.1 this
                    rw [← e8] at hy
                    obtain ⟨v9, hv9, rfl⟩ := List.mem_map.1 hy
                    exact (unlift_lift (List.all_eq_true.1 (hpl2 z hz).1 v9 hv9) ((hpl2 z hz).2 v9 hv9)).2) (by rw [hl2]; exact htr)
                refine ⟨g.back g2 H, ⟨rfl, m6⟩, rfl, hnil hback.rel, cv, rfl, ?_, fun ho => by cases ho⟩
                obtain ⟨vs3, r3, r4⟩ := r2
                exact ⟨vs3, r3, r4⟩
            cases o with
            | ret v' =>
              rcases k1 with rfl | rfl
              · show Leaves c.P fn a'.tmps Rend a'.defers .returning w'
                rw [hadf']; exact hleave
              · show Leaves c.P fn a'.tmps Rend a'.defers .returning w'
                rw [hadf']; exact hleave
            | pan v' =>
              cases k1
              show Leaves c.P fn a'.tmps Rend a'.defers (.panicking [{ v := v', recovered := false }]) w'
              rw [hadf']; exact hleave
          · unfold T.den at h; exact h.elim
      · unfold T.den at h; exact h.elim
  subst ht
  exact execL_ok (c := c) (op := op) (C := C) rfl hN hmx hgood l (Agr.refl _ _) (Nat.le_refl _) rfl (List.prefix_rfl) rfl hd h g0 _ w0 hR0
def bodyOf (fn : Func) : Code := fn.body.getD .skip
def preCodes (id : Nat) : Code → List Code
  | .seq (.region i ops d) y => if i = id then [] else .region i ops d :: preCodes id y
  | .seq x y => x :: preCodes id y
  | _ => []
def defOps (id : Nat) : Code → Array Oper
  | .seq (.region i ops d) y => if i = id then ops else defOps id y
  | .seq _ y => defOps id y
  | _ => #[]
def postCode (id : Nat) : Code → Code
  | .seq (.region i _ _) y => if i = id then y else postCode id y
  | .seq _ y => postCode id y
  | _ => .skip
def opAt (ops : Array Oper) (i : Nat) : Oper := ops.toList.getD i { dst := none, op := .alloc 0, type := 0, pos := "", after := #[], guard := none }
end Go.Rf
end
