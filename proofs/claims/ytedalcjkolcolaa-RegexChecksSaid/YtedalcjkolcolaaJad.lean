/- Part 4 of the proof: AbDraw, AbCong, AbDrawA. -/
import Derived.Orders
import Derived.Test.YtedalcjkolcolaaJac
section
namespace Go.Ab
open Classical
def Same (t : Nat) (s u : St) : Prop := s.tm t = u.tm t ∧ s.gen t = u.gen t ∧ ∀ n, s.K (.own t n) = u.K (.own t n)
def SameUp (s u : St) : Prop := ∀ q, s.K (.up q) = u.K (.up q)
theorem Same.rfl' {t : Nat} {s : St} : Same t s s := ⟨rfl, rfl, fun _ => rfl⟩
theorem Same.symm {t : Nat} {s u : St} (h : Same t s u) : Same t u s := ⟨h.1.symm, h.2.1.symm, fun n => (h.2.2 n).symm⟩
theorem Same.trans {t : Nat} {s u v : St} (h : Same t s u) (k : Same t u v) : Same t s v := ⟨h.1.trans k.1, h.2.1.trans k.2.1, fun n => (h.2.2 n).trans (k.2.2 n)⟩
theorem St.ext' {s u : St} (h : ∀ t, Same t s u) (hu : SameUp s u) : s = u := by
  obtain ⟨tm, K, gen⟩ := s
  obtain ⟨tm', K', gen'⟩ := u
  have h1 : tm = tm' := funext fun t => (h t).1
  have h2 : gen = gen' := funext fun t => (h t).2.1
  have h3 : K = K' := funext fun r => by
    cases r with
    | own t n => exact (h t).2.2 n
    | up q => exact hu q
  subst h1 h2 h3
  rfl
noncomputable def St.at (u s' : St) (d : Nat) : St :=
  { tm := upd u.tm d (s'.tm d), gen := upd u.gen d (s'.gen d), K := fun r => match r with | .own t n => if t = d then s'.K (.own t n) else u.K (.own t n) | .up q => u.K (.up q) }
theorem at_same (u s' : St) (d : Nat) : Same d (u.at s' d) s' := ⟨upd_same _ _ _, upd_same _ _ _, fun _ => if_pos rfl⟩
theorem at_ne {u s' : St} {d t : Nat} (h : t ≠ d) : Same t (u.at s' d) u := ⟨upd_ne _ _ h, upd_ne _ _ h, fun _ => if_neg h⟩
theorem at_up (u s' : St) (d : Nat) : SameUp (u.at s' d) u := fun _ => rfl
def Step (C : Ctx) (ops : Array Oper) (i : Nat) (s s' : St) : Prop := AO C ops [i] (fun e t => e = .normal ∧ t = s') s
structure Agree (T : List Nat) (s u : St) : Prop where
  up : SameUp s u
  sl : ∀ t ∈ T, Same t s u
structure Loc (C : Ctx) (ops : Array Oper) (i d : Nat) (T : List Nat) (s s' : St) : Prop where
  eq : s' = s.at s' d
  step : ∀ u, Agree (d :: T) s u → Step C ops i u (u.at s' d)
def dirOf (ops : Array Oper) (i : Nat) : List Nat :=
  match ops[i]? with
  | some o => (o.after.toList.filter (Region.binds .any)).map (·.on)
  | none => []
theorem upon_conseq {P : Program} {o : Oper} {a : Act} {w : World} {K K' : Act → World → Prop} {Q Q' : Exit → Act → World → Prop} (h : ∀ a w, K a w → K' a w) (hq : ∀ c a w, Q (.panic c) a w → Q' (.panic c) a w) (ho : ∀ a w, Q .outgrown a w → Q' .outgrown a w)
    (hh : o.wp P a w K Q) : o.wp P a w K' Q' := by
  unfold Oper.wp at *
  generalize (execOp a.eval o).run P w = r at *
  cases r with
  | ok n w' =>
    cases n <;> simp only [Oper.upon] at hh ⊢ <;>
      first
        | exact h _ _ hh
        | exact Calls.mono hh (fun e w'' he => by cases e <;> first | exact h _ _ he | exact hq _ _ _ he | (obtain ⟨a', w', he⟩ := he; exact ⟨a', w', ho _ _ he⟩))
        | exact Rows.mono hh (fun _ _ he => h _ _ he)
  | halt x w' => cases x <;> simp only [Oper.upon] at hh ⊢ <;> first | exact hh | exact hq _ _ _ hh
theorem Step.wpOp {C : Ctx} {ops : Array Oper} {i : Nat} {s s' : St} (h : Step C ops i s s') {K : Act → World → Prop} {Q : Exit → Act → World → Prop} (hK : ∀ g a w, Rel C s' g a w → K a w) {g : Gh} {a : Act} {w : World} (hR : Rel C s g a w) :
    wpOp C.P ops Q i K a w := by
  have h1 := h g a w hR
  rw [wpOps_cons] at h1
  unfold Go.wpOp at h1 ⊢
  have hk : ∀ a w, wpOps C.P ops (Qc C fun e t => e = .normal ∧ t = s') [] a w → K a w := fun a w hn => by
    obtain ⟨t, g', hR', _, rfl⟩ := hn
    exact hK g' a w hR'
  cases ho : ops[i]? with
  | none => rw [ho] at h1; exact hk _ _ h1
  | some o =>
    rw [ho] at h1
    simp only at h1 ⊢
    split
    · rename_i hw
      simp only [hw, if_true] at h1
      rcases h1 with h1 | ⟨_, a', w', h1⟩
      · refine .inl (upon_conseq hk ?_ (fun a w h => h.elim) h1)
        rintro c a w ⟨v, _, t, g', _, h, _⟩
        cases h
      · exact h1.elim
    · rename_i hw
      simp only [hw] at h1
      exact hk _ _ h1
theorem any_suffix {P : Program} {ops : Array Oper} {Q : Exit → Act → World → Prop} {m : Nat} (hsuf : ∀ i, m ≤ i → i < ops.size → ∀ j < i, j ∈ dirOf ops i) (hdir : ∀ i j, j ∈ dirOf ops i → j < i) :
    ∀ (n k : Nat) (listed : Array Bool) (a : Act) (w : World), m ≤ k → k + n = ops.size → listed.size = ops.size → (∀ j, listed.getD j false = decide (j < k)) →
      wpOps P ops Q (List.range' k n) a w → wpAny P .any ops Q n listed a w := by
  have hr : ∀ (k : Nat) (listed : Array Bool), m ≤ k → listed.size = ops.size → (∀ j, listed.getD j false = decide (j < k)) → ∀ i ∈ Region.ready .any ops listed, i = k := by
    intro k listed hm hsz hl i hi
    rw [mem_ready] at hi
    obtain ⟨h1, o, ho, h2⟩ := hi
    have hlt : i < ops.size := (Array.getElem?_eq_some_iff.1 ho).1
    have h3 : ¬ i < k := fun h => by
      have := hl i
      rw [decide_eq_true h] at this
      simp [hsz, hlt] at this h1
      rw [this] at h1
      cases h1
    refine Nat.le_antisymm (Nat.le_of_not_lt fun h4 => ?_) (Nat.le_of_not_lt h3)
    have h5 := hsuf i (by omega) hlt k h4
    unfold dirOf at h5
    rw [ho] at h5
    obtain ⟨e, he, rfl⟩ := List.mem_map.1 h5
    have h6 := List.mem_filter.1 he
    have := h2 e (by simpa using h6.1) h6.2
    rw [hl] at this
    simp at this
  intro n
  induction n with
  | zero =>
    intro k listed a w hm hk hsz hl h
    refine ⟨?_, by simpa [wpOps] using h⟩
    refine List.eq_nil_iff_forall_not_mem.2 fun i hi => ?_
    have := hr k listed hm hsz hl i hi
    rw [mem_ready] at hi
    obtain ⟨_, o, ho, _⟩ := hi
    have hlt : i < ops.size := (Array.getElem?_eq_some_iff.1 ho).1
    omega
  | succ n ih =>
    intro k listed a w hm hk hsz hl h
    refine ⟨fun hnil => ?_, fun i hi => ?_⟩
    · exfalso
      have hlt : k < ops.size := by omega
      have : k ∈ Region.ready .any ops listed := by
        rw [mem_ready]
        refine ⟨?_, ops[k], Array.getElem?_eq_getElem hlt, fun e he hb => ?_⟩
        · have := hl k
          simp [hsz, hlt] at this ⊢
          exact this
        · rw [hl]
          have : e.on ∈ dirOf ops k := by
            unfold dirOf
            rw [Array.getElem?_eq_getElem hlt]
            exact List.mem_map.2 ⟨e, List.mem_filter.2 ⟨by simpa using he, hb⟩, rfl⟩
          simpa using hdir k _ this
      rw [hnil] at this
      cases this
    · have := hr k listed hm hsz hl i hi
      subst this
      rw [List.range'_succ, wpOps_cons] at h
      refine wpOp_mono (fun a w h => ih (i + 1) _ a w (by omega) (by omega) (by simpa using hsz) (fun j => ?_) h) h
      by_cases hj : j = i
      · subst hj
        have hlt : j < listed.size := by omega
        simp [hlt]
      · rw [getD_set_ne false (Ne.symm hj), hl]
        simp
        omega
theorem least {U : List Nat} (x : Nat) (h : x ∈ U) : ∃ i ∈ U, ∀ j < i, j ∉ U := by
  induction x using Nat.strongRecOn with
  | ind x ih =>
    by_cases hx : ∃ j, j < x ∧ j ∈ U
    · obtain ⟨j, h1, h2⟩ := hx
      exact ih j h1 h2
    · exact ⟨x, h, fun j hj hm => hx ⟨j, hj, hm⟩⟩
theorem AW_drawn {C : Ctx} {ops : Array Oper} {id : Nat} {Q : Ex → St → Prop} (hm : C.P.follows .mixedOrders = true) (m : Nat) (ds : List Nat) (S : Nat → St) (T pre : Nat → List Nat)
    (hds : ds.length = m) (hnd : ds.Nodup) (hpre : ∀ i < m, ∀ j ∈ pre i, j ∈ dirOf ops i ∨ ∃ k ∈ dirOf ops i, j ∈ pre k)
    (hT : ∀ i < m, ∀ t ∈ T i, ∀ j, ds[j]? = some t → j ∈ pre i) (hlt : ∀ i < m, ∀ j ∈ pre i, j < i)
    (hloc : ∀ i (h : i < m), Loc C ops i (ds[i]'(hds ▸ h)) (T i) (S i) (S (i + 1)))
    (hsuf : ∀ i, m ≤ i → i < ops.size → ∀ j < i, j ∈ dirOf ops i) (hdir : ∀ i j, j ∈ dirOf ops i → j < i) (hsz : m ≤ ops.size)
    (h : AO C ops (List.range' m (ops.size - m)) Q (S m)) : AW C (.region id ops true) Q (S 0) := by
  subst hds
  have inj : ∀ i j (hi : i < ds.length) (hj : j < ds.length), ds[i] = ds[j] → i = j := fun i j hi hj e => (List.getElem_inj hnd).1 e
  have step1 : ∀ i (hi : i < ds.length) t, t ≠ ds[i] → Same t (S (i + 1)) (S i) := fun i hi t ht => by
    rw [(hloc i hi).eq]
    exact at_ne ht
  have base : ∀ i, i ≤ ds.length → ∀ t, (∀ j (hj : j < ds.length), j < i → ds[j] ≠ t) → Same t (S i) (S 0) := by
    intro i
    induction i with
    | zero => intro _ t _; exact .rfl'
    | succ i ih =>
      intro hi t ht
      exact (step1 i (by omega) t fun e => ht i (by omega) (by omega) e.symm).trans (ih (by omega) t fun j hj hji => ht j hj (by omega))
  have late : ∀ j (hj : j < ds.length) i, j < i → i ≤ ds.length → Same ds[j] (S i) (S (j + 1)) := by
    intro j hj i
    induction i with
    | zero => intro h; omega
    | succ i ih =>
      intro hji hi
      by_cases e : j = i
      · subst e; exact .rfl'
      · exact (step1 i (by omega) _ fun e' => e (inj _ _ hj (by omega) e')).trans (ih (by omega) (by omega))
  have final : ∀ j (hj : j < ds.length) i, j < i → i ≤ ds.length → Same ds[j] (S i) (S ds.length) := fun j hj i hji hi => (late j hj i hji hi).trans (late j hj _ hj (Nat.le_refl _)).symm
  have up0 : ∀ i, i ≤ ds.length → SameUp (S i) (S 0) := by
    intro i
    induction i with
    | zero => intro _ q; rfl
    | succ i ih =>
      intro hi q
      rw [(hloc i (by omega)).eq]
      exact ih (by omega) q
  have main : ∀ (U : List Nat) (listed : Array Bool) (u : St) (g : Gh) (a : Act) (w : World), U.Nodup → (∀ i ∈ U, i < ds.length) → listed.size = ops.size →
      (∀ j, listed.getD j false = true ↔ j < ds.length ∧ j ∉ U) → (∀ j, listed.getD j false = true → ∀ k ∈ pre j, listed.getD k false = true) →
      SameUp u (S 0) → (∀ j (hj : j < ds.length), j ∉ U → Same ds[j] u (S ds.length)) → (∀ t, (∀ j (hj : j < ds.length), j ∉ U → ds[j] ≠ t) → Same t u (S 0)) →
      Rel C u g a w → wpAny C.P .any ops (Qc C Q) (U.length + (ops.size - ds.length)) listed a w := by
    intro U
    induction hn : U.length generalizing U with
    | zero =>
      intro listed u g a w _ _ hlsz hl _ hup hin hout hR
      have hU : U = [] := List.eq_nil_of_length_eq_zero hn
      subst hU
      have hu : u = S ds.length := by
        refine St.ext' (fun t => ?_) fun q => (hup q).trans (up0 _ (Nat.le_refl _) q).symm
        by_cases ht : ∃ j, ∃ hj : j < ds.length, ds[j] = t
        · obtain ⟨j, hj, rfl⟩ := ht
          exact hin j hj (by simp)
        · refine (hout t fun j hj _ e => ht ⟨j, hj, e⟩).trans (base _ (Nat.le_refl _) t fun j hj _ e => ht ⟨j, hj, e⟩).symm
      subst hu
      rw [Nat.zero_add]
      refine any_suffix hsuf hdir _ ds.length listed a w (Nat.le_refl _) (by omega) hlsz (fun j => ?_) (h g a w hR)
      have := hl j
      simp at this
      by_cases hj : j < ds.length
      · simp [hj] at this ⊢; exact this
      · simp [hj] at this ⊢; exact this
    | succ n ih =>
      intro listed u g a w hUnd hUlt hlsz hl hclosed hup hin hout hR
      rw [Nat.succ_add]
      have hne : U ≠ [] := fun e => by subst e; cases hn
      refine ⟨fun hnil => ?_, fun i hi => ?_⟩
      · 
        exfalso
        obtain ⟨x, hx⟩ := List.exists_mem_of_ne_nil _ hne
        obtain ⟨i, hmin, hbelow⟩ := least x hx
        have hid := hUlt i hmin
        have : i ∈ Region.ready .any ops listed := by
          rw [mem_ready]
          have hio : i < ops.size := by omega
          refine ⟨?_, ops[i], Array.getElem?_eq_getElem hio, fun e he hb => ?_⟩
          · have h1 : ¬ listed.getD i false = true := fun h1 => ((hl i).1 h1).2 hmin
            simp [hlsz, hio] at h1 ⊢
            exact h1
          · have h2 : e.on ∈ dirOf ops i := by
              unfold dirOf
              rw [Array.getElem?_eq_getElem hio]
              exact List.mem_map.2 ⟨e, List.mem_filter.2 ⟨by simpa using he, hb⟩, rfl⟩
            have h3 := hdir i _ h2
            exact (hl _).2 ⟨by omega, hbelow _ h3⟩
        rw [hnil] at this
        cases this
      · rw [mem_ready] at hi
        obtain ⟨h1, o, ho, h2⟩ := hi
        have hio : i < ops.size := (Array.getElem?_eq_some_iff.1 ho).1
        have hdl : ∀ j ∈ dirOf ops i, listed.getD j false = true := fun j hj => by
          unfold dirOf at hj
          rw [ho] at hj
          obtain ⟨e, he, rfl⟩ := List.mem_map.1 hj
          have h3 := List.mem_filter.1 he
          exact h2 e (by simpa using h3.1) h3.2
        have hnl : ¬ listed.getD i false = true := by
          simp [hlsz, hio] at h1 ⊢
          exact h1
        have hid : i < ds.length := Nat.lt_of_not_le fun hle => by
          obtain ⟨x, hx⟩ := List.exists_mem_of_ne_nil _ hne
          have hxl := hUlt x hx
          exact ((hl x).1 (hdl x (hsuf i hle hio x (by omega)))).2 hx
        have hiU : i ∈ U := Classical.byContradiction fun hi => hnl ((hl i).2 ⟨hid, hi⟩)
        have hpl : ∀ k ∈ pre i, listed.getD k false = true := fun k hk => by
          rcases hpre i hid k hk with h3 | ⟨j, h3, h4⟩
          · exact hdl k h3
          · exact hclosed j (hdl j h3) k h4
        have hag : Agree (ds[i] :: T i) (S i) u := by
          refine ⟨fun q => ((hup q).trans (up0 i (by omega) q).symm).symm, fun t ht => ?_⟩
          rcases List.mem_cons.1 ht with rfl | ht
          · refine (base i (by omega) _ fun j hj hji e => ?_).trans (hout _ fun j hj hjU e => ?_).symm
            · exact absurd (inj _ _ hj hid e) (by omega)
            · have := inj _ _ hj hid e
              subst this
              exact hjU hiU
          · by_cases htd : ∃ j, ∃ hj : j < ds.length, ds[j] = t
            · obtain ⟨j, hj, rfl⟩ := htd
              have hjp := hT i hid _ ht j (List.getElem?_eq_getElem hj)
              have hji := hlt i hid j hjp
              have hjl := (hl j).1 (hpl j hjp)
              exact (final j hj i hji (by omega)).trans (hin j hj hjl.2).symm
            · exact (base i (by omega) t fun j hj _ e => htd ⟨j, hj, e⟩).trans (hout t fun j hj _ e => htd ⟨j, hj, e⟩).symm
        refine ((hloc i hid).step u hag).wpOp (fun g' a' w' hR' => ?_) hR
        have hlen : (U.erase i).length = n := by rw [List.length_erase_of_mem hiU]; omega
        refine ih (U.erase i) hlen _ (u.at (S (i + 1)) ds[i]) g' a' w' (hUnd.erase i) (fun j hj => hUlt j (List.mem_of_mem_erase hj)) (by simpa using hlsz) (fun j => ?_) (fun j hj k hk => ?_) (fun q => hup q) (fun j hj hjU => ?_) (fun t ht => ?_) hR'
        · by_cases hji : j = i
          · subst hji
            simp [hlsz, hio, hid, hUnd.mem_erase_iff]
          · rw [getD_set_ne false (Ne.symm hji), hl, hUnd.mem_erase_iff]
            simp [hji]
        · by_cases hji : j = i
          · subst hji
            exact getD_set_true (hpl k hk)
          · rw [getD_set_ne false (Ne.symm hji)] at hj
            exact getD_set_true (hclosed j hj k hk)
        · by_cases hji : j = i
          · subst hji
            exact (at_same _ _ _).trans (final j hj (j + 1) (by omega) (by omega))
          · refine (at_ne fun e => hji (inj _ _ hj hid e)).trans (hin j hj fun hm => hjU ((hUnd.mem_erase_iff).2 ⟨hji, hm⟩))
        · refine (at_ne fun e => ?_).trans (hout t fun j hj hjU => ht j hj fun hm => hjU (List.mem_of_mem_erase hm))
          exact ht i hid (fun hm => (hUnd.mem_erase_iff.1 hm).1 rfl) e.symm
  intro g a w hR
  refine wp_region_any hm ?_
  have hR' : Rel C (S 0) g a { w with drawn := w.drawn + 1 } := hR.ext (Ext.drawn w _)
  have hrep : ∀ j, ¬ (Array.replicate ops.size false).getD j false = true := fun j => by
    simp only [Array.getD_eq_getD_getElem?, Array.getElem?_replicate]
    split <;> simp
  have := main (List.range ds.length) (Array.replicate ops.size false) (S 0) g a _ List.nodup_range (fun i hi => List.mem_range.1 hi) (by simp) (fun j => ⟨fun hj => absurd hj (hrep j), fun hj => absurd (List.mem_range.2 hj.1) hj.2⟩) (fun j hj => absurd hj (hrep j))
    (fun _ => rfl) (fun j hj hjU => absurd (List.mem_range.2 hj) hjU) (fun t _ => .rfl') hR'
  rw [List.length_range] at this
  rwa [show ds.length + (ops.size - ds.length) = ops.size by omega] at this
end Go.Ab
end
section
namespace Go.Ab
open Classical
structure EvEq (s u : St) (x : Operand) : Prop where
  ev : s.ev x = u.ev x
  als : ∀ t n, s.ev x = .als t n → s.tm t = u.tm t ∧ s.gen t = u.gen t
  box : ∀ r o, s.ev x = .ptr r o → s.K r = u.K r
  opt : ∀ t n m i j, s.ev x = .opt t n m i j → s.tm t = u.tm t ∧ s.gen t = u.gen t
  gen : ∀ t, x = .tmp t → s.gen t = u.gen t ∧ s.tm t = u.tm t
theorem lit_congr {s u : St} {x : Operand} (h : EvEq s u x) : s.lit x = u.lit x := by unfold St.lit; rw [h.ev]
theorem esc_congr {s u : St} {x : Operand} (h : EvEq s u x) : s.esc x = u.esc x := by
  unfold St.esc
  rw [← h.ev]
  split <;> first | rfl | skip
  rename_i t n e
  rw [(h.als t n e).1, (h.als t n e).2]
theorem escs_congr {s u : St} {x : Operand} (h : EvEq s u x) : s.escs x = u.escs x := by
  unfold St.escs
  rw [← h.ev, esc_congr h]
theorem val_congr {s u : St} {x : Operand} (h : EvEq s u x) : s.val x = u.val x := by
  unfold St.val
  rw [← h.ev, esc_congr h]
theorem slice_congr {s u : St} {x : Operand} (h : EvEq s u x) : s.slice x = u.slice x := by
  unfold St.slice
  rw [esc_congr h]
theorem boxC_congr {s u : St} {x : Operand} (h : EvEq s u x) : s.boxC x = u.boxC x := by
  unfold St.boxC
  rw [← h.ev, esc_congr h]
theorem ownT_congr {s u : St} {x : Operand} (h : EvEq s u x) : ownT s x = ownT u x := by
  unfold ownT
  cases x with
  | tmp t => simp only [(h.gen t rfl).2]
  | _ => rfl
theorem copy_congr {s u : St} {x : Operand} (d : Nat) (h : EvEq s u x) : s.copy d x = u.copy d x := by
  unfold St.copy
  rw [← h.ev]
  split <;> first | rfl | skip
  cases x with
  | tmp t => simp only [(h.gen t rfl).1]
  | _ => rfl
theorem ownS_congr {s u : St} {x : Operand} (h : EvEq s u x) : ownS s x = ownS u x := by
  unfold ownS
  rw [← h.ev]
  split
  · rename_i t n e
    rw [(h.als t n e).2]
    simp only [ownT, (h.als t n e).1]
  · exact ownT_congr h
theorem evPoke_congr {P : Program} {s u : St} {d : Nat} {T : TypeId} {x ix : Operand} (h : EvEq s u x) (hi : EvEq s u ix) : evPoke P d s T x ix = evPoke P d u T x ix := by
  unfold evPoke
  rw [ownS_congr h, lit_congr hi]
  cases ho : ownS u x with
  | none => rfl
  | some q =>
    obtain ⟨t, sz, es, nw⟩ := q
    have hg : s.gen t = u.gen t := by
      rw [← ownS_congr h] at ho
      unfold ownS at ho
      split at ho
      · rename_i t' n e
        split at ho
        · obtain ⟨e1, _⟩ := ownT_spec ho
          cases e1
          exact (h.als t n e).2
        · cases ho
      · obtain ⟨e1, _⟩ := ownT_spec ho
        exact (h.gen t e1).1
    cases u.lit ix with
    | none => rfl
    | some v => cases v with
      | int k i => cases slOf P T with
        | none => rfl
        | some z =>
          obtain ⟨m, b, c, e⟩ := z
          simp only [hg]
      | _ => rfl
theorem bound_congr {s u : St} {x : Option Operand} {n : Nat} (h : ∀ y, x = some y → EvEq s u y) : s.bound x n = u.bound x n := by
  unfold St.bound
  cases x with
  | none => rfl
  | some y => simp only [lit_congr (h y rfl)]
theorem evLoad_congr {P : Program} {s u : St} {t : TypeId} {x : Operand} (h : EvEq s u x) : evLoad P s t (s.ev x) = evLoad P u t (u.ev x) := by
  rw [← h.ev]
  unfold evLoad
  cases he : s.ev x with
  | ptr r o => simp only [h.box r o he]
  | opt t n m i j => simp only [optRow, (h.opt t n m i j he).1, (h.opt t n m i j he).2]
  | _ => rfl
theorem parts_congr {s u : St} {m : Nat} : ∀ (k : Nat) (l : List (Nat × Operand)), (∀ p ∈ l, EvEq s u p.2) → partsFrom s m k l = partsFrom u m k l
  | _, [], _ => rfl
  | k, (i, x) :: l, h => by
    simp only [partsFrom]
    rw [escs_congr (h (i, x) (List.mem_cons_self ..)), parts_congr (k + 1) l fun p hp => h p (List.mem_cons_of_mem _ hp)]
theorem fillD_congr {P : Program} {t : TypeId} {s u : St} : ∀ (l : List (Nat × Operand)) (c : List D), (∀ p ∈ l, EvEq s u p.2) → fillD P t s c l = fillD P t u c l
  | [], _, _ => rfl
  | (i, x) :: l, c, h => by
    simp only [fillD]
    rw [escs_congr (h (i, x) (List.mem_cons_self ..))]
    cases placeOf P t i with
    | none => rfl
    | some p =>
      cases u.escs x with
      | none => rfl
      | some vs => simp only [fillD_congr l _ fun p hp => h p (List.mem_cons_of_mem _ hp)]
theorem vals_congr {s u : St} : ∀ (l : List Operand), (∀ x ∈ l, EvEq s u x) → valsOf s l = valsOf u l
  | [], _ => rfl
  | x :: l, h => by
    simp only [valsOf]
    rw [val_congr (h x (List.mem_cons_self ..)), vals_congr l fun y hy => h y (List.mem_cons_of_mem _ hy)]
theorem evalV_congr {P : Program} {s u : St} {o : Oper} (h : ∀ x ∈ o.op.operands.toList, EvEq s u x) : evalV P s o = evalV P u o := by
  obtain ⟨dst, op, type, pos, after, guard⟩ := o
  simp only at h
  unfold evalV
  cases op <;> simp only [Op.operands] at h <;> try rfl
  case pick c x y => simp only [lit_congr (h c (by simp)), val_congr (h x (by simp)), val_congr (h y (by simp))]
  case build t ps =>
    simp only [evBuild]
    have hf : ∀ c, fillD P t s c ps.toList = fillD P t u c ps.toList := fun c => fillD_congr _ c fun p hp => h p.2 (List.mem_map.2 ⟨p, hp, rfl⟩)
    simp only [hf]
  case load t x => exact evLoad_congr (h x (by simp))
  case nilCheck x => simp only [(h x (by simp)).ev]
  case binOp op t x y p => simp only [(h x (by simp)).ev, (h y (by simp)).ev]
  case unOp op t x => simp only [lit_congr (h x (by simp))]
  case convert a b x => simp only [lit_congr (h x (by simp)), slice_congr (h x (by simp))]
  case makeInterface t x => simp only [(h x (by simp)).ev]
  case makeFunc f first caps =>
    have : caps.toList.map s.ev = caps.toList.map u.ev := List.map_congr_left fun x hx => (h x (by simp; exact .inr (by simpa using hx))).ev
    cases f <;> simp only [this]
  case fieldAddr t x i => simp only [(h x (by simp)).ev]
  case indexAddr t x ix => simp only [lit_congr (h ix (by simp)), (h x (by simp)).ev, slice_congr (h x (by simp))]
  case index t x ix => simp only [lit_congr (h x (by simp)), lit_congr (h ix (by simp)), (h x (by simp)).ev]
  case slice t x lo hi mx =>
    have hlo : ∀ n, s.bound lo n = u.bound lo n := fun n => bound_congr fun y hy => h y (by subst hy; simp)
    have hhi : ∀ n, s.bound hi n = u.bound hi n := fun n => bound_congr fun y hy => h y (by subst hy; simp)
    have hmx : ∀ q n, mx = some q → s.bound (some q) n = u.bound (some q) n := fun q n hq => bound_congr fun y hy => h y (by subst hq; cases hy; simp)
    simp only [lit_congr (h x (by simp)), slice_congr (h x (by simp)), hlo, hhi]
    cases mx with
    | none => rfl
    | some q =>
      have hq : ∀ n, s.bound (some q) n = u.bound (some q) n := fun n => hmx q n rfl
      cases hi with
      | none => rfl
      | some z => simp only [hq]
  case typeAssert x a b ok => cases ok <;> simp only [lit_congr (h x (by simp))]
  case extract x i => simp only [(h x (by simp)).ev]
  case call c =>
    obtain ⟨cal, args, tys⟩ := c
    cases cal with
    | builtin b =>
      have ha : ∀ x ∈ args.toList, EvEq s u x := fun x hx => h x (by simpa [Call.operands] using hx)
      cases b <;> try rfl
      case len =>
        dsimp only
        generalize args.toList = l at ha
        generalize tys.toList = l2
        match l, l2, ha with
        | [], _, _ => rfl
        | [x], [], _ => rfl
        | [x], [t], ha => simp only [lit_congr (ha x (List.mem_cons_self ..)), slice_congr (ha x (List.mem_cons_self ..))]
        | [x], _ :: _ :: _, _ => rfl
        | _ :: _ :: _, _, _ => rfl
      case max =>
        dsimp only
        generalize args.toList = l at ha
        generalize tys.toList = l2
        match l, ha with
        | [], _ => rfl
        | [x], _ => rfl
        | [x, y], ha => simp only [lit_congr (ha x (List.mem_cons_self ..)), lit_congr (ha y (List.mem_cons_of_mem _ (List.mem_cons_self ..)))]
        | _ :: _ :: _ :: _, _ => rfl
    | _ => rfl
end Go.Ab
end
section
namespace Go.Ab
open Classical
def A.deps : A → List Nat
  | .als u _ => [u]
  | .opt u _ _ _ _ => [u]
  | .ptr (.own t _) _ => [t]
  | _ => []
noncomputable def looksT (ops : Array Oper) (s : St) (o : Oper) : List Nat := o.looksAt ops ++ (o.looksAt ops).flatMap fun t => (s.tm t).deps
theorem evEq_of {ops : Array Oper} {s u : St} {o : Oper} {T : List Nat} (hT : ∀ t ∈ looksT ops s o, t ∈ T) (h : Agree T s u) : ∀ x ∈ o.op.operands.toList, EvEq s u x := by
  intro x hx
  cases x with
  | tmp t =>
    have ht : t ∈ o.looksAt ops := List.mem_append_left _ (List.mem_filterMap.2 ⟨.tmp t, hx, rfl⟩)
    have h1 := h.sl t (hT t (List.mem_append_left _ ht))
    have h2 : ∀ t' ∈ (s.tm t).deps, Same t' s u := fun t' ht' => h.sl t' (hT t' (List.mem_append_right _ (List.mem_flatMap.2 ⟨t, ht, ht'⟩)))
    refine ⟨h1.1, fun t' n e => ?_, fun r o' e => ?_, fun t' n m i j e => ?_, fun t' e => by cases e; exact ⟨h1.2.1, h1.1⟩⟩
    · have e' : s.tm t = .als t' n := e
      have := h2 t' (by rw [e']; simp [A.deps])
      exact ⟨this.1, this.2.1⟩
    · have e' : s.tm t = .ptr r o' := e
      cases r with
      | own t' n => exact (h2 t' (by rw [e']; simp [A.deps])).2.2 n
      | up q => exact h.up q
    · have e' : s.tm t = .opt t' n m i j := e
      have := h2 t' (by rw [e']; simp [A.deps])
      exact ⟨this.1, this.2.1⟩
  | const v =>
    refine ⟨rfl, fun t n e => ?_, fun r o' e => ?_, fun t n m i j e => ?_, fun t e => by cases e⟩
    · have := const_plain v; simp only [St.ev] at e; rw [e] at this; cases this
    · simp only [St.ev] at e
      unfold constA at e
      split at e
      · split at e <;> cases e
      · cases e
      · cases e
      · cases e
    · have := const_plain v; simp only [St.ev] at e; rw [e] at this; cases this
  | global n => exact ⟨rfl, (fun t n e => by cases e), (fun r o' e => by cases e), (fun t n m i j e => by cases e), (fun t e => by cases e)⟩
  | func f => exact ⟨rfl, (fun t n e => by cases e), (fun r o' e => by cases e), (fun t n m i j e => by cases e), (fun t e => by cases e)⟩
theorem wanted_congr {ops : Array Oper} {s u : St} {o : Oper} {T : List Nat} (hT : ∀ t ∈ looksT ops s o, t ∈ T) (h : Agree T s u) : wantedA ops u o = wantedA ops s o := by
  unfold wantedA
  cases hg : o.guard with
  | none => rfl
  | some jw =>
    obtain ⟨j, want⟩ := jw
    cases hq : ops[j]? with
    | none => simp [hq]
    | some q =>
      cases ht : q.dst with
      | none => simp [hq, ht]
      | some t =>
        have h1 : t ∈ o.looksAt ops := List.mem_append_right _ (by rw [hg]; simp [hq, ht])
        simp [hq, ht, (h.sl t (hT t (List.mem_append_left _ h1))).1]
noncomputable def quietV (P : Program) (s : St) (o : Oper) (d : Nat) : Option A :=
  match o.op with
  | .move x => s.copy d x
  | .assign x => (match ownT s x with
    | some _ => none
    | none => s.val x)
  | .buildSlice t n parts => (match slOf P t with
    | some (m, _, _, _) => (match partsFrom s m 0 parts.toList with
      | some es => if es.length = n ∧ n * m ≤ 16777216 then some (.own m es []) else none
      | none => none)
    | none => none)
  | .indexAddr t x ix => (match evPoke P d s t x ix with
    | some y => some y
    | none => evalV P s o)
  | _ => evalV P s o
theorem quietV_congr {P : Program} {s u : St} {o : Oper} (d : Nat) (h : ∀ x ∈ o.op.operands.toList, EvEq s u x) : quietV P s o d = quietV P u o d := by
  have hv := evalV_congr (P := P) h
  obtain ⟨dst, op, type, pos, after, guard⟩ := o
  unfold quietV
  cases op <;> first | exact hv | skip
  case move x => exact copy_congr d (h x (by simp [Op.operands]))
  case assign x =>
    have := h x (by simp [Op.operands])
    simp only [ownT_congr this, val_congr this]
  case buildSlice t n ps =>
    have hf : ∀ m, partsFrom s m 0 ps.toList = partsFrom u m 0 ps.toList := fun m => parts_congr 0 _ fun p hp => h p.2 (List.mem_map.2 ⟨p, hp, rfl⟩)
    simp only [hf]
  case indexAddr t x ix =>
    simp only [evPoke_congr (P := P) (d := d) (T := t) (h x (by simp [Op.operands])) (h ix (by simp [Op.operands])), hv]
theorem quietV_ok {C : Ctx} {s : St} {o : Oper} {d : Nat} {v : A} (hd : o.dst = some d) (hN : d < C.N) (h : quietV C.P s o d = some v) : OpOk C o s (s.put d v) := by
  unfold quietV at h
  split at h
  · rename_i x hop
    exact OpOk.of_copy hd hN h fun g a w hR => by simp only [execOp, hop]; rfl
  · rename_i x hop
    split at h
    · cases h
    · intro g a w hR K Q hK
      obtain ⟨h1, h2, h3⟩ := hR.val h (.slot d)
      refine wp_val (v := a.eval x) (w' := w) (by simp only [execOp, hop]; rfl) (hK g _ w ?_)
      rw [hd]
      exact hR.put hN h2 h1 (fun t n e => by subst e; cases h3) (fun t n sz i j e => by subst e; cases h3)
  · rename_i t n parts hop
    split at h
    · rename_i m by_ c e hs
      split at h
      · rename_i es hes
        split at h
        · rename_i hc
          cases h
          exact OpOk.buildSlice hop hd hN hs hes hc.1 hc.2
        · cases h
      · cases h
    · cases h
  · rename_i t x ix hop
    split at h
    · rename_i y hy
      cases h
      exact evPoke_ok hd hN hop hy
    · exact evalV_OpOk hd hN (by rw [h]; rfl)
  · exact evalV_OpOk hd hN (by rw [h]; rfl)
theorem put_sameAt {s : St} {d : Nat} {v : A} (t : Nat) (h : t ≠ d) : Same t (s.put d v) s := by
  refine ⟨upd_ne _ _ h, ?_, fun n => rfl⟩
  simp only [St.put]
  split
  · exact upd_ne _ _ h
  · rfl
theorem put_eq_at (s : St) (d : Nat) (v : A) : s.put d v = s.at (s.put d v) d :=
  St.ext' (fun t => by
    by_cases h : t = d
    · subst h; exact (at_same _ _ _).symm
    · exact (put_sameAt t h).trans (at_ne h).symm) fun q => rfl
theorem put_at {s u : St} {d : Nat} {v : A} (h : Same d s u) : u.at (s.put d v) d = u.put d v :=
  St.ext' (fun t => by
    by_cases e : t = d
    · subst e
      refine (at_same _ _ _).trans ⟨by simp [St.put], ?_, h.2.2⟩
      simp only [St.put, h.1]
      split
      · simp [h.2.1]
      · exact h.2.1
    · exact (at_ne e).trans (put_sameAt t e).symm) fun q => rfl
section
variable {C : Ctx} {ops : Array Oper} {i d : Nat} {o : Oper} {s : St}
theorem loc_quiet {v : A} (ho : ops[i]? = some o) (hd : o.dst = some d) (hN : d < C.N) (hw : wantedA ops s o = some true) (hv : quietV C.P s o d = some v) : Loc C ops i d (looksT ops s o) s (s.put d v) := by
  refine ⟨put_eq_at s d v, fun u h => ?_⟩
  have hT : ∀ t ∈ looksT ops s o, t ∈ d :: looksT ops s o := fun t ht => List.mem_cons_of_mem _ ht
  rw [put_at (h.sl d (List.mem_cons_self ..))]
  refine AO_op ho ((wanted_congr hT h).trans hw) (quietV_ok hd hN ?_) (AO_nil ⟨rfl, rfl⟩)
  rw [← quietV_congr d (evEq_of hT h)]
  exact hv
theorem loc_skip (ho : ops[i]? = some o) (hd : o.dst = some d) (hN : d < C.N) (hw : wantedA ops s o = some false) : Loc C ops i d (looksT ops s o) s (s.put d (.tup [])) := by
  refine ⟨put_eq_at s d (.tup []), fun u h => ?_⟩
  have hT : ∀ t ∈ looksT ops s o, t ∈ d :: looksT ops s o := fun t ht => List.mem_cons_of_mem _ ht
  rw [put_at (h.sl d (List.mem_cons_self ..))]
  refine AO_skip ho ((wanted_congr hT h).trans hw) (fun d' hd' => by rw [hd] at hd'; cases hd'; exact hN) ?_
  rw [hd]
  exact AO_nil ⟨rfl, rfl⟩
theorem setH_self {H : List (Ref × List A)} (h : ∀ x ∈ H, s.K x.1 = some x.2) : s.setH H = s := by
  obtain ⟨tm, K, gen⟩ := s
  simp only [St.setH]
  congr 1
  funext r
  split
  · rename_i c hc
    exact (h _ (kOf_mem hc)).symm
  · rfl
def Reads (H : List (Ref × List A)) (v : A) : Out → List (Ref × List A) → Prop := fun o H' => o = .ret v ∧ H' = H
theorem loc_call {fx : Operand} {args : Array Operand} {tys : Array TypeId} {F : FuncId} {caps : List Ref} {vals : List A} {H : List (Ref × List A)} {v v' : A} (ho : ops[i]? = some o) (hd : o.dst = some d) (hN : d < C.N) (hw : wantedA ops s o = some true)
    (hop : o.op = .call { callee := .value fx, args, argTypes := tys }) (hf : s.ev fx = .fn F caps) (hv : valsOf s args.toList = some vals)
    (hK : ∀ x ∈ H, s.K x.1 = some x.2) (hnd : (H.map (·.1)).Nodup) (hp : ∀ x ∈ H, ∀ y ∈ x.2, y.plain = true)
    (hH : ∀ x ∈ H, ∀ t n, x.1 = .own t n → t ∈ looksT ops s o)
    (hh : Holds C.P F (vals.map A.lift ++ caps.map fun r => .ptr (.up r) 0) (liftH H) (Reads (liftH H) v)) (hb : v.back = some v') : Loc C ops i d (looksT ops s o) s (s.put d v') := by
  refine ⟨put_eq_at s d v', fun u h => ?_⟩
  have hT : ∀ t ∈ looksT ops s o, t ∈ d :: looksT ops s o := fun t ht => List.mem_cons_of_mem _ ht
  rw [put_at (h.sl d (List.mem_cons_self ..))]
  have hev := evEq_of hT h
  have hKu : ∀ x ∈ H, u.K x.1 = some x.2 := fun x hx => by
    rw [← hK x hx]
    cases hr : x.1 with
    | own t n => exact ((h.sl t (List.mem_cons_of_mem _ (hH x hx t n hr))).2.2 n).symm
    | up q => exact (h.up q).symm
  refine AO_call (H := H) (R := Reads (liftH H) v) ho ((wanted_congr hT h).trans hw) hop hd hN ?_ ?_ hKu hnd hh ?_ ?_
  · rw [← (hev fx (by rw [hop]; simp [Op.operands, Call.operands])).ev]; exact hf
  · rw [← vals_congr args.toList fun x hx => hev x (by rw [hop]; simp [Op.operands, Call.operands]; exact .inr (by simpa using hx))]; exact hv
  · rintro w H' ⟨h1, h2⟩
    cases h1
    exact ⟨v', H, hb, h2, rfl, hp, by rw [setH_self hKu]; exact AO_nil ⟨rfl, rfl⟩⟩
  · rintro w H' ⟨h1, h2⟩
    cases h1
theorem alloc_eq_at (s : St) (d : Nat) (c : List A) : s.alloc d c = s.at (s.alloc d c) d :=
  St.ext' (fun t => by
    by_cases h : t = d
    · subst h; exact (at_same _ _ _).symm
    · refine Same.trans ⟨upd_ne _ _ h, upd_ne _ _ h, fun n => upd_ne _ _ fun e => ?_⟩ (at_ne h).symm
      cases e; exact h rfl) fun q => upd_ne _ _ fun e => by cases e
theorem alloc_at {s u : St} {d : Nat} {c : List A} (h : Same d s u) : u.at (s.alloc d c) d = u.alloc d c :=
  St.ext' (fun t => by
    by_cases e : t = d
    · subst e
      refine (at_same _ _ _).trans ⟨by simp [St.alloc, h.2.1], by simp [St.alloc, h.2.1], fun n => ?_⟩
      simp only [St.alloc, h.2.1]
      unfold upd
      split
      · rfl
      · exact h.2.2 n
    · refine (at_ne e).trans ⟨(upd_ne _ _ e).symm, (upd_ne _ _ e).symm, fun n => (upd_ne _ _ fun e' => ?_).symm⟩
      cases e'; exact e rfl) fun q => (upd_ne _ _ fun e => by cases e).symm
noncomputable def newA (P : Program) (s : St) (o : Oper) : Option (List A) :=
  match o.op with
  | .alloc t => (match zeroOf P t with
    | some z => if z.all isCell then some (z.map zeroCell) else none
    | none => none)
  | .box _ x => s.boxC x
  | _ => none
theorem newA_evalOp {P : Program} {N : Nat} {s : St} {c : List A} (hd : o.dst = some d) (hN : d < N) (h : newA P s o = some c) : evalOp P N ops s o = some (s.alloc d c) := by
  unfold newA at h
  unfold evalOp
  rw [hd]
  simp only [hN, if_true]
  split at h
  · rename_i t hop
    rw [hop]
    simp only
    split at h
    · rename_i z hz
      rw [hz]
      simp only
      split at h
      · rename_i hc
        cases h
        simp only [hc, if_true]
      · cases h
    · cases h
  · rename_i t x hop
    rw [hop]
    simp only [h, Option.map_some]
  · cases h
theorem loc_new {c : List A} (ho : ops[i]? = some o) (hd : o.dst = some d) (hN : d < C.N) (hw : wantedA ops s o = some true) (hv : newA C.P s o = some c) : Loc C ops i d (looksT ops s o) s (s.alloc d c) := by
  refine ⟨alloc_eq_at s d c, fun u h => ?_⟩
  have hT : ∀ t ∈ looksT ops s o, t ∈ d :: looksT ops s o := fun t ht => List.mem_cons_of_mem _ ht
  rw [alloc_at (h.sl d (List.mem_cons_self ..))]
  have hev := evEq_of hT h
  refine AO_op ho ((wanted_congr hT h).trans hw) (evalOp_ok (newA_evalOp (ops := ops) hd hN ?_)) (AO_nil ⟨rfl, rfl⟩)
  rw [← hv]
  unfold newA
  split
  · rfl
  · rename_i t x hop
    exact (boxC_congr (hev x (by rw [hop]; simp [Op.operands]))).symm
  · rfl
end
def dstOf (ops : Array Oper) (i : Nat) : Nat := ((ops[i]?).bind (·.dst)).getD 0
def preOf (ops : Array Oper) (i : Nat) : List Nat := dirOf ops i ++ (dirOf ops i).flatMap (dirOf ops)
def dsOf (ops : Array Oper) (m : Nat) : List Nat := (List.range m).map (dstOf ops)
def drawShape (ops : Array Oper) (m : Nat) : Bool :=
  decide (m ≤ ops.size) && (List.range ops.size).all (fun i => (dirOf ops i).all fun j => decide (j < i)) &&
    (List.range ops.size).all (fun i => decide (i < m) || (List.range i).all fun j => (dirOf ops i).contains j) && decide (dsOf ops m).Nodup
def slotsOk (ops : Array Oper) (m k : Nat) (T : List Nat) : Bool := T.all fun t => (List.range m).all fun j => dstOf ops j != t || (preOf ops k).contains j
def DrawCall (C : Ctx) (ops : Array Oper) (m k d : Nat) (s : St) (next : St → Prop) : Prop := ∃ T s', Loc C ops k d T s s' ∧ slotsOk ops m k T = true ∧ next s'
noncomputable def wpD (C : Ctx) (P : Program) (N : Nat) (ops : Array Oper) (m : Nat) : List Oper → Nat → (Ex → St → Prop) → St → Prop
  | [], _, Q, s => wpL C P N ops (ops.toList.drop m) m Q s
  | o :: l, k, Q, s => match o.dst with
    | none => False
    | some d => d < N ∧ (match wantedA ops s o with
      | some true => (match quietV P s o d with
        | some v => slotsOk ops m k (looksT ops s o) = true ∧ wpD C P N ops m l (k + 1) Q (s.put d v)
        | none => (match newA P s o with
          | some c => slotsOk ops m k (looksT ops s o) = true ∧ wpD C P N ops m l (k + 1) Q (s.alloc d c)
          | none => DrawCall C ops m k d s (fun s' => wpD C P N ops m l (k + 1) Q s')))
      | some false => slotsOk ops m k (looksT ops s o) = true ∧ wpD C P N ops m l (k + 1) Q (s.put d (.tup []))
      | none => False)
theorem wpD_chain {C : Ctx} {ops : Array Oper} {m : Nat} {Q : Ex → St → Prop} : ∀ (l : List Oper) (k : Nat) (s : St), (∀ j, j < l.length → l[j]? = ops[k + j]?) → wpD C C.P C.N ops m l k Q s →
    ∃ (S : Nat → St) (T : Nat → List Nat), S k = s ∧ (∀ i, k ≤ i → i < k + l.length → Loc C ops i (dstOf ops i) (T i) (S i) (S (i + 1)) ∧ slotsOk ops m i (T i) = true) ∧ wpL C C.P C.N ops (ops.toList.drop m) m Q (S (k + l.length))
  | [], k, s, _, h => ⟨fun _ => s, fun _ => [], rfl, (fun i h1 h2 => by simp at h2; omega), h⟩
  | o :: l, k, s, hl, h => by
    have h0 : ops[k]? = some o := by simpa using (hl 0 (by simp)).symm
    have hl' : ∀ j, j < l.length → l[j]? = ops[k + 1 + j]? := fun j hj => by
      have := hl (j + 1) (by simpa using hj)
      simpa [Nat.add_assoc, Nat.add_comm 1 j] using this
    have glue : ∀ (s' : St) (T0 : List Nat) (d : Nat), o.dst = some d → Loc C ops k d T0 s s' → slotsOk ops m k T0 = true → wpD C C.P C.N ops m l (k + 1) Q s' →
        ∃ (S : Nat → St) (T : Nat → List Nat), S k = s ∧ (∀ i, k ≤ i → i < k + (o :: l).length → Loc C ops i (dstOf ops i) (T i) (S i) (S (i + 1)) ∧ slotsOk ops m i (T i) = true) ∧ wpL C C.P C.N ops (ops.toList.drop m) m Q (S (k + (o :: l).length)) := by
      intro s' T0 d hd h1 h2 h3
      obtain ⟨S, T, e, h4, h5⟩ := wpD_chain l (k + 1) s' hl' h3
      have hk : dstOf ops k = d := by simp [dstOf, h0, hd]
      refine ⟨fun i => if i = k then s else S i, fun i => if i = k then T0 else T i, by simp, fun i hi1 hi2 => ?_, ?_⟩
      · by_cases hik : i = k
        · subst hik
          simp only [if_true, Nat.succ_ne_self, if_false, e, hk]
          exact ⟨h1, h2⟩
        · have := h4 i (by omega) (by simp at hi2; omega)
          simp only [hik, if_false, show i + 1 ≠ k by omega]
          exact this
      · simp only [List.length_cons, show k + (l.length + 1) ≠ k by omega, if_false]
        rwa [show k + (l.length + 1) = k + 1 + l.length by omega]
    simp only [wpD] at h
    split at h
    · exact h.elim
    · rename_i d hd
      obtain ⟨hN, h⟩ := h
      split at h
      · rename_i hw
        split at h
        · rename_i v hv
          exact glue _ _ d hd (loc_quiet h0 hd hN hw hv) h.1 h.2
        · split at h
          · rename_i c hc
            exact glue _ _ d hd (loc_new h0 hd hN hw hc) h.1 h.2
          · obtain ⟨T, s', h1, h2, h3⟩ := h
            exact glue _ _ d hd h1 h2 h3
      · rename_i hw
        exact glue _ _ d hd (loc_skip h0 hd hN hw) h.1 h.2
      · exact h.elim
theorem drawA {C : Ctx} {P : Program} {N : Nat} (hP : C.P = P) (hN : C.N = N) (hm : P.follows .mixedOrders = true) {id : Nat} {ops : Array Oper} {Q : Ex → St → Prop} {s : St} (m : Nat) (hs : drawShape ops m = true)
    (h : wpD C P N ops m (ops.toList.take m) 0 Q s) : AW C (.region id ops true) Q s := by
  subst hP hN
  simp only [drawShape, Bool.and_eq_true, decide_eq_true_eq, List.all_eq_true, List.mem_range, Bool.or_eq_true, List.contains_iff_mem] at hs
  obtain ⟨⟨⟨h1, h2⟩, h3⟩, h4⟩ := hs
  have hlen : (ops.toList.take m).length = m := by simp; omega
  obtain ⟨S, T, e, h5, h6⟩ := wpD_chain (ops.toList.take m) 0 s (fun j hj => by rw [hlen] at hj; simp [hj]) h
  rw [hlen, Nat.zero_add] at h6
  subst e
  have hdir : ∀ i j, j ∈ dirOf ops i → j < i := fun i j hj => by
    by_cases hi : i < ops.size
    · exact h2 i hi j hj
    · unfold dirOf at hj
      rw [Array.getElem?_eq_none (by omega)] at hj
      cases hj
  have hds : (dsOf ops m).length = m := by simp [dsOf]
  have hget : ∀ i (h : i < (dsOf ops m).length), (dsOf ops m)[i] = dstOf ops i := fun i h => by simp [dsOf]
  refine AW_drawn hm m (dsOf ops m) S T (preOf ops) hds h4 (fun i _ j hj => ?_) (fun i hi t ht j hj => ?_) (fun i _ j hj => ?_) (fun i hi => ?_) (fun i hi hio j hji => ?_) hdir h1 ?_
  · rcases List.mem_append.1 hj with h | h
    · exact .inl h
    · obtain ⟨k, h7, h8⟩ := List.mem_flatMap.1 h
      exact .inr ⟨k, h7, List.mem_append_left _ h8⟩
  · have h7 := (h5 i (Nat.zero_le _) (by rw [hlen]; omega)).2
    simp only [slotsOk, List.all_eq_true, List.mem_range, Bool.or_eq_true, bne_iff_ne, ne_eq, List.contains_iff_mem] at h7
    obtain ⟨hjl, hj⟩ := List.getElem?_eq_some_iff.1 hj
    rw [hget j hjl] at hj
    exact (h7 t ht j (by omega)).resolve_left fun hne => hne hj
  · rcases List.mem_append.1 hj with h | h
    · exact hdir i j h
    · obtain ⟨k, h7, h8⟩ := List.mem_flatMap.1 h
      have := hdir i k h7
      have := hdir k j h8
      omega
  · rw [hget]
    exact (h5 i (Nat.zero_le _) (by rw [hlen]; omega)).1
  · rcases h3 i hio with h | h
    · omega
    · exact h j hji
  · exact wpL_sound rfl rfl _ m _ (fun j => by simp) h6 |> fun h => by
      have e : (ops.toList.drop m).length = ops.size - m := by simp
      rwa [e] at h
theorem draw_pc {C : Ctx} {P : Program} {N : Nat} (hP : C.P = P) (hN : C.N = N) {ops : Array Oper} {s : St} {m k : Nat} {o : Oper} {fx : Operand} {args : Array Operand} {tys : Array TypeId} {F : FuncId} (vals : List A) {d : Nat} {v v' : A} {next : St → Prop}
    (hh : Holds P F (vals.map A.lift) [] (Gives v)) (ho : ops[k]? = some o) (hop : o.op = .call { callee := .value fx, args, argTypes := tys }) (hd : o.dst = some d) (hlt : d < N) (hb : v.back = some v') (hw : wantedA ops s o = some true) (hf : s.ev fx = .fn F []) (hv : valsOf s args.toList = some vals)
    (hs : slotsOk ops m k (looksT ops s o) = true) (h : next (s.put d v')) : DrawCall C ops m k d s next := by
  subst hP hN
  exact ⟨_, _, loc_call (H := []) (caps := []) (v := v) ho hd hlt hw hop hf hv (fun x h => by cases h) (by simp) (fun x h => by cases h) (fun x h => by cases h) (by simpa [liftH] using (show Holds C.P F (vals.map A.lift) [] (Reads [] v) from hh)) hb, hs, h⟩
attribute [simp] wpD quietV newA looksT A.deps slotsOk dstOf preOf dirOf Oper.looksAt Op.operands Call.operands Region.binds
end Go.Ab
end
