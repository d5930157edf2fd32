/- A machine over values for Go functions, proved sound, and functions run on it: texts D5, D6, D7, D8, W3, W4, W5, W6, Y1. -/
import Derived.Laws.Sem
import Derived.Test.YtkkmgjhfjhcdmaaGreatDoorFetchTickXaf
/- A region whose order is drawn: the machine's run, and what is to be read off it. (To be put into M3 in drawW's place.) -/
namespace Go.Proofs.YtkkmgjhfjhcdmaaGreatDoor.Mx
set_option linter.all false
open Go Go.RowKit
theorem chkTo_get {D : List (List Nat)} {b : Ac} {j : Nat} : ∀ (l : List Ac) (i k : Nat) (a : Ac), chkTo D b j i l = true → l[k]? = some a → depB D (i + k) j = true ∨ okPair a b = true
  | [], _, _, _, _, h => by simp at h
  | x :: r, i, k, a, h, hk => by
    simp only [chkTo, Bool.and_eq_true, Bool.or_eq_true] at h
    cases k with
    | zero => simp at hk; subst hk; exact h.1
    | succ k =>
      have := chkTo_get r (i + 1) k a h.2 (by simpa using hk)
      rwa [show i + (k + 1) = i + 1 + k by omega]
theorem chkAll_get {D : List (List Nat)} {acs : List Ac} : ∀ (l : List Ac) (j k : Nat) (b : Ac), chkAll D acs j l = true → l[k]? = some b → chkTo D b (j + k) 0 (acs.take (j + k)) = true
  | [], _, _, _, _, h => by simp at h
  | x :: r, j, k, b, h, hk => by
    simp only [chkAll, Bool.and_eq_true] at h
    cases k with
    | zero => simp at hk; subst hk; exact h.1
    | succ k =>
      have := chkAll_get r (j + 1) k b h.2 (by simpa using hk)
      rwa [show j + (k + 1) = j + 1 + k by omega]
theorem chk_pair {D : List (List Nat)} {acs : List Ac} (h : chkAll D acs 0 acs = true) {i j : Nat} {a b : Ac} (hij : i < j) (hi : acs[i]? = some a) (hj : acs[j]? = some b) : depB D i j = true ∨ okPair a b = true := by
  have h1 := chkAll_get acs 0 j b h hj
  rw [Nat.zero_add] at h1
  have := chkTo_get (acs.take j) 0 i a h1 (by rw [List.getElem?_take_of_lt hij]; exact hi)
  rwa [Nat.zero_add] at this
/-- one operation has run -/
def Run (P : Program) (E : Env) (id i : Nat) (o : Oper) (s : St) (d : Dl) : Prop :=
  match o.op with
  | .call { callee := .value (.func h), args := xs, .. } => ∃ l r, argsOk s.sv (E.md id i) (xs.toList.map (opv s.tv)) = some l ∧ Meets P h l r ∧ callOut (E.md id i) s.ctr s.sv (xs.toList.map (opv s.tv)) r = some d
  | op => aop E.T op o.type s.ctr s.tv s.sv = some d
def wants (all : List Oper) (o : Oper) (s : St) : Option Bool :=
  match o.guard with
  | none => some true
  | some (j, w) => match gq all s j with
    | .sc (.bool q) => some (q == w)
    | .tu [] => some false
    | _ => none
def Ev (P : Program) (E : Env) (id i : Nat) (all : List Oper) (o : Oper) (s : St) (d : Dl) (ac : Ac) : Prop :=
  (wants all o s = some true ∧ ac = ⟨rdsO o.op s, d.upd.map (·.1)⟩ ∧ Run P E id i o s d) ∨ (wants all o s = some false ∧ ac = ⟨[], []⟩ ∧ d = ⟨.tu [], []⟩)
def runD : List Oper → List Dl → St → St
  | o :: l, d :: ds, s => runD l ds (s.go o.dst d)
  | _, _, s => s
section
variable {P : Program} {E : Env} {id : Nat} {D : List (List Nat)} {all : List Oper} {K : St → Prop}
theorem stepR_run {i : Nat} {o : Oper} {K : Ac → St → Prop} {s : St} (h : stepR P E id i o K s) : ∃ d, Run P E id i o s d ∧ K ⟨rdsO o.op s, d.upd.map (·.1)⟩ (s.go o.dst d) := by
  unfold stepR at h
  split at h
  · rename_i f xs ats ho
    obtain ⟨l, r, h1, h2, d, h3, h4⟩ := h
    refine ⟨d, ?_, h4⟩
    unfold Run
    split
    · rename_i f' xs' ats' ho'
      rw [ho] at ho'
      cases ho'
      exact ⟨l, r, h1, h2, h3⟩
    · rename_i hno; exact (hno f xs ats ho).elim
  · rename_i hno
    obtain ⟨d, h3, h4⟩ := h
    refine ⟨d, ?_, h4⟩
    unfold Run
    split
    · rename_i f xs ats ho; exact (hno f xs ats ho).elim
    · exact h3
theorem drW_read : ∀ (l : List Oper) (i : Nat) (acc : List Ac) (s : St), drW P E id D all K i l acc s → ∃ (ds : List Dl) (acs : List Ac), ds.length = l.length ∧ acs.length = l.length ∧
    (∀ (k : Nat) (o : Oper) (d : Dl) (ac : Ac), l[k]? = some o → ds[k]? = some d → acs[k]? = some ac → Ev P E id (i + k) all o (runD (l.take k) (ds.take k) s) d ac) ∧
    chkAll D (acc.reverse ++ acs) 0 (acc.reverse ++ acs) = true ∧ K (runD l ds s)
  | [], i, acc, s, h => ⟨[], [], rfl, rfl, fun k o d ac hk => by simp at hk, by simpa using h.1, h.2⟩
  | o :: l, i, acc, s, h => by
    have fin : ∀ (d : Dl) (ac : Ac), Ev P E id i all o s d ac → drW P E id D all K (i + 1) l (ac :: acc) (s.go o.dst d) → ∃ (ds : List Dl) (acs : List Ac), ds.length = (o :: l).length ∧ acs.length = (o :: l).length ∧
        (∀ (k : Nat) (o' : Oper) (d : Dl) (ac : Ac), (o :: l)[k]? = some o' → ds[k]? = some d → acs[k]? = some ac → Ev P E id (i + k) all o' (runD ((o :: l).take k) (ds.take k) s) d ac) ∧
        chkAll D (acc.reverse ++ acs) 0 (acc.reverse ++ acs) = true ∧ K (runD (o :: l) ds s) := by
      intro d ac he hd
      obtain ⟨ds, acs, h1, h2, h3, h4, h5⟩ := drW_read l (i + 1) (ac :: acc) _ hd
      refine ⟨d :: ds, ac :: acs, by simp [h1], by simp [h2], ?_, by simpa using h4, h5⟩
      rintro (_ | k) o' d' ac' ho hd' hac
      · simp at ho hd' hac
        subst ho hd' hac
        exact he
      · have := h3 k o' d' ac' (by simpa using ho) (by simpa using hd') (by simpa using hac)
        rw [show i + (k + 1) = i + 1 + k by omega]
        simpa [runD] using this
    simp only [drW] at h
    cases hg : o.guard with
    | none =>
      rw [hg] at h
      obtain ⟨d, h1, h2⟩ := stepR_run h
      exact fin d _ (.inl ⟨by simp [wants, hg], rfl, h1⟩) h2
    | some jw =>
      obtain ⟨j, w⟩ := jw
      rw [hg] at h
      simp only at h
      unfold GK at h
      split at h
      · rename_i q hq
        unfold Br at h
        split at h
        · rename_i hqw
          obtain ⟨d, h1, h2⟩ := stepR_run h
          exact fin d _ (.inl ⟨by simp only [wants, hg, hq]; rw [hqw], rfl, h1⟩) h2
        · rename_i hqw
          exact fin _ _ (.inr ⟨by simp only [wants, hg, hq]; simpa using hqw, rfl, rfl⟩) h
      · rename_i hq
        exact fin _ _ (.inr ⟨by simp only [wants, hg, hq], rfl, rfl⟩) h
      · exact h.elim
end
end Go.Proofs.YtkkmgjhfjhcdmaaGreatDoor.Mx

/- A region whose order is drawn: states by places. -/
namespace Go.Proofs.YtkkmgjhfjhcdmaaGreatDoor.Mx
set_option linter.all false
open Go Go.RowKit
abbrev Loc := Sum Nat Nat
abbrev Cel := Sum AV (Option Blk)
def σs (s : St) : Loc → Cel
  | .inl t => .inl (s.tv t)
  | .inr m => .inr (s.sv m)
def wrO (dst : Option Tmp) (d : Dl) : List (Loc × Cel) := (match dst with | some t => [(.inl t, .inl d.val)] | none => []) ++ d.upd.map fun p => (.inr p.1, .inr p.2)
def tvOf (σ : Loc → Cel) : Tv := fun t => match σ (.inl t) with | .inl x => x | .inr _ => .no
def svOf (σ : Loc → Cel) : Sv := fun m => match σ (.inr m) with | .inr B => B | .inl _ => none
theorem setF_app (u v : List (Loc × Cel)) (σ : Loc → Cel) : setF (u ++ v) σ = setF v (setF u σ) := by
  induction u generalizing σ with
  | nil => rfl
  | cons p u ih => obtain ⟨l, x⟩ := p; simp only [List.cons_append, setF, ih]
theorem set_names (u : Up) : ∀ (σ : Loc → Cel), (∀ t, setF (u.map fun p => ((.inr p.1 : Loc), (.inr p.2 : Cel))) σ (.inl t) = σ (.inl t)) ∧ svOf (setF (u.map fun p => ((.inr p.1 : Loc), (.inr p.2 : Cel))) σ) = syncF u (svOf σ) := by
  induction u with
  | nil => exact fun σ => ⟨fun _ => rfl, rfl⟩
  | cons p u ih =>
    obtain ⟨m, B⟩ := p
    intro σ
    simp only [List.map_cons, setF, syncF]
    obtain ⟨h1, h2⟩ := ih (fun k => if (.inr m : Loc) = k then (.inr B : Cel) else σ k)
    refine ⟨fun t => by rw [h1]; simp, h2.trans ?_⟩
    congr 1
    funext n
    unfold svOf updS
    by_cases h : m = n
    · subst h; simp
    · have : ¬ (Sum.inr m : Loc) = Sum.inr n := fun e => h (Sum.inr.inj e)
      simp only [this, if_false, h]
theorem tvOf_set (dst : Option Tmp) (d : Dl) (σ : Loc → Cel) : tvOf (setF (wrO dst d) σ) = updT (tvOf σ) dst d.val := by
  funext t
  unfold wrO tvOf updT
  rw [setF_app, (set_names d.upd _).1]
  cases dst with
  | none => simp [setF]
  | some k =>
    simp only [setF]
    by_cases h : k = t
    · subst h; simp
    · have : ¬ (Sum.inl k : Loc) = Sum.inl t := fun e => h (Sum.inl.inj e)
      have h2 : ¬ some k = some t := fun e => h (Option.some.inj e)
      simp only [this, if_false, h2]
theorem svOf_set (dst : Option Tmp) (d : Dl) (σ : Loc → Cel) : svOf (setF (wrO dst d) σ) = syncF d.upd (svOf σ) := by
  unfold wrO
  rw [setF_app, (set_names d.upd _).2]
  congr 1
  funext m
  unfold svOf
  cases dst with
  | none => simp [setF]
  | some k => simp [setF]
theorem tvOf_σs (s : St) : tvOf (σs s) = s.tv := rfl
theorem svOf_σs (s : St) : svOf (σs s) = s.sv := rfl
theorem σs_go (s : St) (dst : Option Tmp) (d : Dl) : σs (s.go dst d) = setF (wrO dst d) (σs s) := by
  funext l
  cases l with
  | inl t =>
    have h1 := congrFun (tvOf_set dst d (σs s)) t
    have h2 : (s.go dst d).tv t = updT s.tv dst d.val t := congrFun (go_tv s dst d) t
    unfold tvOf at h1
    have : ∃ x, setF (wrO dst d) (σs s) (.inl t) = .inl x := by
      unfold wrO
      rw [setF_app, (set_names d.upd _).1]
      cases dst with
      | none => exact ⟨s.tv t, rfl⟩
      | some k =>
        simp only [setF]
        by_cases h : (Sum.inl k : Loc) = Sum.inl t
        · exact ⟨d.val, by rw [if_pos h]⟩
        · exact ⟨s.tv t, by rw [if_neg h]; rfl⟩
    obtain ⟨x, hx⟩ := this
    rw [hx] at h1
    rw [hx]
    show Sum.inl ((s.go dst d).tv t) = Sum.inl x
    rw [h2]
    exact congrArg Sum.inl h1.symm
  | inr m =>
    have h1 := congrFun (svOf_set dst d (σs s)) m
    have h2 : (s.go dst d).sv m = syncF d.upd s.sv m := congrFun (go_sv s dst d) m
    unfold svOf at h1
    have : ∃ B, setF (wrO dst d) (σs s) (.inr m) = .inr B := by
      have : ∀ (u : List (Loc × Cel)) (σ : Loc → Cel), (∀ p ∈ u, ∀ m, p.1 = .inr m → ∃ B, p.2 = .inr B) → (∃ B, σ (.inr m) = .inr B) → ∃ B, setF u σ (.inr m) = .inr B := by
        intro u
        induction u with
        | nil => exact fun σ _ h => h
        | cons p u ih =>
          obtain ⟨l, x⟩ := p
          intro σ hu hσ
          simp only [setF]
          refine ih _ (fun p hp => hu p (List.mem_cons_of_mem _ hp)) ?_
          by_cases h : l = .inr m
          · obtain ⟨B, hB⟩ := hu (l, x) (by simp) m h
            exact ⟨B, by rw [if_pos h]; exact hB⟩
          · obtain ⟨B, hB⟩ := hσ
            exact ⟨B, by rw [if_neg h]; exact hB⟩
      refine this _ _ (fun p hp m' he => ?_) ⟨s.sv m, rfl⟩
      unfold wrO at hp
      rcases List.mem_append.1 hp with hp | hp
      · cases dst with
        | none => simp at hp
        | some k => simp at hp; subst hp; simp at he
      · obtain ⟨q, _, rfl⟩ := List.mem_map.1 hp
        exact ⟨q.2, rfl⟩
    obtain ⟨B, hB⟩ := this
    rw [hB] at h1
    rw [hB]
    show Sum.inr ((s.go dst d).sv m) = Sum.inr B
    rw [h2]
    exact congrArg Sum.inr h1.symm
/-- program order, as a fold -/
theorem runD_fold (W : Nat → List (Loc × Cel)) (s0 : St) : ∀ (l : List Oper) (ds : List Dl), ds.length = l.length → (∀ (k : Nat) (o : Oper) (d : Dl), l[k]? = some o → ds[k]? = some d → W k = wrO o.dst d) →
    ∀ k, k ≤ l.length → σs (runD (l.take k) (ds.take k) s0) = foldW W (fun _ => True) (σs s0) k ∧ (runD (l.take k) (ds.take k) s0).ctr = s0.ctr + 256 * k := by
  intro l ds hl hW k
  induction k with
  | zero => intro _; exact ⟨rfl, rfl⟩
  | succ k ih =>
    intro hk
    obtain ⟨h1, h2⟩ := ih (by omega)
    obtain ⟨o, ho⟩ : ∃ o, l[k]? = some o := ⟨_, List.getElem?_eq_getElem (by omega)⟩
    obtain ⟨d, hd⟩ : ∃ d, ds[k]? = some d := ⟨_, List.getElem?_eq_getElem (by omega)⟩
    have app : ∀ (l l2 : List Oper) (ds ds2 : List Dl) (s : St), ds.length = l.length → runD (l ++ l2) (ds ++ ds2) s = runD l2 ds2 (runD l ds s) := by
      intro l
      induction l with
      | nil => intro l2 ds ds2 s h; have : ds = [] := List.eq_nil_of_length_eq_zero (by simpa using h); subst this; rfl
      | cons x l ih =>
        intro l2 ds ds2 s h
        cases ds with
        | nil => simp at h
        | cons y ds => exact ih l2 ds ds2 _ (by simpa using h)
    rw [List.take_add_one, List.take_add_one, ho, hd, app _ _ _ _ _ (by simp only [List.length_take]; omega)]
    simp only [Option.toList_some, runD, foldW, if_true]
    refine ⟨?_, ?_⟩
    · rw [σs_go, h1, hW k o d ho hd]
    · show (runD _ _ s0).ctr + 256 = _
      rw [h2]; omega
end Go.Proofs.YtkkmgjhfjhcdmaaGreatDoor.Mx

/- A region whose order is drawn: what is apart. -/
namespace Go.Proofs.YtkkmgjhfjhcdmaaGreatDoor.Mx
set_option linter.all false
open Go Go.RowKit
theorem okD_get {all : List Oper} {D : List (List Nat)} (h : okD all D = true) {j : Nat} {o : Oper} (ho : all[j]? = some o) :
    (∀ i, depB D i j = true → ∃ e ∈ o.after.toList, Region.binds .any e = true ∧ (e.on = i ∨ depB D i e.on = true)) ∧ (∀ e ∈ o.after.toList, Region.binds .any e = true → e.on < j) ∧ (∀ i, depB D i j = true → i < j) ∧
    ∀ i p, i < j → depB D i j = false → all[i]? = some p → (∀ t ∈ dstL p, t ∉ tmpsO all o ∧ t ∉ dstL o) ∧ ∀ t ∈ dstL o, t ∉ tmpsO all p := by
  have hj := List.all_eq_true.1 h j (List.mem_range.2 (idx_lt ho))
  rw [ho] at hj
  simp only [okDj, Bool.and_eq_true] at hj
  obtain ⟨⟨⟨h1, h2⟩, h3⟩, h4⟩ := hj
  refine ⟨fun i hi => ?_, fun e he hb => ?_, fun i hi => ?_, fun i p hij hd hp => ?_⟩
  · have := List.all_eq_true.1 h1 i (by simpa [depB] using hi)
    obtain ⟨e, he, hh⟩ := List.any_eq_true.1 this
    simp only [Bool.and_eq_true, Bool.or_eq_true, beq_iff_eq] at hh
    exact ⟨e, he, hh.1, hh.2⟩
  · have := List.all_eq_true.1 h2 e he
    simpa [hb] using this
  · have := List.all_eq_true.1 h3 i (by simpa [depB] using hi)
    simpa using this
  · have := List.all_eq_true.1 h4 i (List.mem_range.2 hij)
    rw [hd, hp] at this
    simp only [Bool.false_or, Bool.and_eq_true] at this
    have d1 := disjB_spec this.1
    have d2 := disjB_spec this.2
    exact ⟨fun t ht => ⟨fun hh => d1 t ht (List.mem_append_left _ hh), fun hh => d1 t ht (List.mem_append_right _ hh)⟩, fun t ht => d2 t ht⟩
def rdL (all : List Oper) (acs : List Ac) (j : Nat) : Loc → Prop
  | .inl t => ∃ o, all[j]? = some o ∧ t ∈ tmpsO all o
  | .inr m => ∃ a, acs[j]? = some a ∧ m ∈ a.rd
def wrL (all : List Oper) (ds : List Dl) (k : Nat) : List (Loc × Cel) := match all[k]?, ds[k]? with | some o, some d => wrO o.dst d | _, _ => []
theorem wrL_inl {all : List Oper} {ds : List Dl} {k t : Nat} (h : Wr (wrL all ds) k (.inl t)) : ∃ o, all[k]? = some o ∧ t ∈ dstL o := by
  obtain ⟨x, hx⟩ := h
  unfold wrL at hx
  split at hx
  · rename_i o d ho hd
    unfold wrO at hx
    rcases List.mem_append.1 hx with hx | hx
    · refine ⟨o, ho, ?_⟩
      cases hdst : o.dst with
      | none => rw [hdst] at hx; simp at hx
      | some t' => rw [hdst] at hx; simp at hx; simp [dstL, hdst, hx.1]
    · obtain ⟨q, _, hq⟩ := List.mem_map.1 hx; simp at hq
  · simp at hx
theorem wrL_inr {all : List Oper} {ds : List Dl} {k m : Nat} (h : Wr (wrL all ds) k (.inr m)) : ∃ d, ds[k]? = some d ∧ m ∈ d.upd.map (·.1) := by
  obtain ⟨x, hx⟩ := h
  unfold wrL at hx
  split at hx
  · rename_i o d ho hd
    unfold wrO at hx
    rcases List.mem_append.1 hx with hx | hx
    · cases hdst : o.dst with
      | none => rw [hdst] at hx; simp at hx
      | some t' => rw [hdst] at hx; simp at hx
    · obtain ⟨q, hq, he⟩ := List.mem_map.1 hx
      simp only [Prod.mk.injEq, Sum.inr.injEq] at he
      exact ⟨d, hd, List.mem_map.2 ⟨q, hq, he.1⟩⟩
  · simp at hx
theorem apart_ok {P : Program} {E : Env} {id : Nat} {all : List Oper} {D : List (List Nat)} {ds : List Dl} {acs : List Ac} {S : Nat → St} (hD : okD all D = true) (hl1 : ds.length = all.length) (hl2 : acs.length = all.length)
    (hE : ∀ (k : Nat) (o : Oper) (d : Dl) (ac : Ac), all[k]? = some o → ds[k]? = some d → acs[k]? = some ac → Ev P E id k all o (S k) d ac) (hc : chkAll D acs 0 acs = true) :
    Apart all.length (wrL all ds) (rdL all acs) (fun i j => depB D i j = true) := by
  have get : ∀ j, j < all.length → ∃ o d a, all[j]? = some o ∧ ds[j]? = some d ∧ acs[j]? = some a ∧ (d.upd.map (·.1) = a.wn) := fun j hj => by
    have h1 := List.getElem?_eq_getElem (l := all) hj
    have h2 := List.getElem?_eq_getElem (l := ds) (i := j) (by omega)
    have h3 := List.getElem?_eq_getElem (l := acs) (i := j) (by omega)
    refine ⟨_, _, _, h1, h2, h3, ?_⟩
    rcases hE j _ _ _ h1 h2 h3 with ⟨_, e, _⟩ | ⟨_, e, e'⟩
    · rw [e]
    · rw [e, e']; rfl
  have pair : ∀ i j a b, i < j → depB D i j ≠ true → acs[i]? = some a → acs[j]? = some b → (∀ m ∈ a.wn, m ∉ b.rd ∧ m ∉ b.wn) ∧ ∀ m ∈ b.wn, m ∉ a.rd := fun i j a b hij hd ha hb => by
    have := (chk_pair hc hij ha hb).resolve_left hd
    simp only [okPair, Bool.and_eq_true] at this
    exact ⟨fun m hm => ⟨disjB_spec this.1.1 m hm, disjB_spec this.1.2 m hm⟩, disjB_spec this.2⟩
  constructor
  · intro i j hj hd
    obtain ⟨o, d, a, h1, _⟩ := get j hj
    exact (okD_get hD h1).2.2.1 i hd
  · intro i j k hij hj hd hw
    obtain ⟨o, d, a, h1, h2, h3, h4⟩ := get j hj
    obtain ⟨p, d', a', g1, g2, g3, g4⟩ := get i (by omega)
    obtain ⟨s1, s2⟩ := (okD_get hD h1).2.2.2 i p hij (by simpa using hd) g1
    obtain ⟨n1, n2⟩ := pair i j a' a hij hd g3 h3
    cases k with
    | inl t =>
      obtain ⟨p', hp', ht⟩ := wrL_inl hw
      rw [g1] at hp'; cases hp'
      refine ⟨fun ⟨o', ho', hr⟩ => ?_, fun hw' => ?_⟩
      · rw [h1] at ho'; cases ho'; exact (s1 t ht).1 hr
      · obtain ⟨o', ho', hr⟩ := wrL_inl hw'
        rw [h1] at ho'; cases ho'; exact (s1 t ht).2 hr
    | inr m =>
      obtain ⟨d2, hd2, hm⟩ := wrL_inr hw
      rw [g2] at hd2; cases hd2
      rw [g4] at hm
      refine ⟨fun ⟨a2, ha2, hr⟩ => ?_, fun hw' => ?_⟩
      · rw [h3] at ha2; cases ha2; exact (n1 m hm).1 hr
      · obtain ⟨d3, hd3, hm'⟩ := wrL_inr hw'
        rw [h2] at hd3; cases hd3
        rw [h4] at hm'
        exact (n1 m hm).2 hm'
  · intro i j k hij hj hd hw hr
    obtain ⟨o, d, a, h1, h2, h3, h4⟩ := get j hj
    obtain ⟨p, d', a', g1, g2, g3, g4⟩ := get i (by omega)
    obtain ⟨s1, s2⟩ := (okD_get hD h1).2.2.2 i p hij (by simpa using hd) g1
    obtain ⟨n1, n2⟩ := pair i j a' a hij hd g3 h3
    cases k with
    | inl t =>
      obtain ⟨o', ho', ht⟩ := wrL_inl hw
      rw [h1] at ho'; cases ho'
      obtain ⟨p', hp', hr⟩ := hr
      rw [g1] at hp'; cases hp'
      exact s2 t ht hr
    | inr m =>
      obtain ⟨d3, hd3, hm'⟩ := wrL_inr hw
      rw [h2] at hd3; cases hd3
      rw [h4] at hm'
      obtain ⟨a2, ha2, hr⟩ := hr
      rw [g3] at ha2; cases ha2
      exact n2 m hm' hr
end Go.Proofs.YtkkmgjhfjhcdmaaGreatDoor.Mx

/- A region whose order is drawn: any order comes to the same. -/
namespace Go.Proofs.YtkkmgjhfjhcdmaaGreatDoor.Mx
set_option linter.all false
open Go Go.RowKit
section
variable {w0 : World} {M R : Nat → Prop} {P : Program} {E : Env} {args : List Value} {np N : Nat}
/-- the state with those in L done -/
def InvL (w0 : World) (M R : Nat → Prop) (args : List Value) (N : Nat) (c0 n : Nat) (L : Nat → Prop) (σ : Loc → Cel) (a : Act) (w : World) : Prop :=
  ∃ γ φ, Sim w0 M R γ φ (tvOf σ) (svOf σ) a w ∧ (∀ m, c0 ≤ m → (∀ i, i < n → L i → ¬ (c0 + 256 * i ≤ m ∧ m < c0 + 256 * i + 256)) → γ m = none) ∧ (∀ (i : Nat) (v : Value), args[i]? = some v → a.tmps.getD i undef = v) ∧ a.tmps.size = N
/-- one operation, at another state that agrees on what it looks at -/
theorem run_step (hT : TOk P E.T) (ha : args.length ≤ np) {id i c0 n : Nat} {o : Oper} {S : St} {d : Dl} (hr : Run P E id i o S d) (hc : S.ctr = c0 + 256 * i) {L L' : Nat → Prop} {σ : Loc → Cel} (hi : i < n) (hL : ¬ L i) (hL' : ∀ k, L' k ↔ L k ∨ k = i)
    (hv : ∀ x ∈ o.op.operands.toList, opv S.tv x = opv (tvOf σ) x) (hs0 : ∀ k ∈ rdsO o.op S, S.sv k = svOf σ k) (hd : opDst np N o = true) {a : Act} {w : World} (hI : InvL w0 M R args N c0 n L σ a w)
    {next : Act → World → Prop} {Q : Exit → Act → World → Prop} (hK : ∀ a w, InvL w0 M R args N c0 n L' (setF (wrO o.dst d) σ) a w → next a w) : o.wp P a w next Q := by
  have hs : rdsAll o.op = true → ∀ x ∈ o.op.operands.toList, ∀ k ∈ supA S.sv (opv S.tv x), S.sv k = svOf σ k := fun hno x hx k hk =>
    hs0 k (by rw [rdsO_of hno]; exact List.mem_flatMap.2 ⟨x, hx, hk⟩)
  obtain ⟨γ, φ, hS, hg, hargs, hsz⟩ := hI
  have hf : Fresh γ (c0 + 256 * i) := fun m h1 h2 => hg m (by omega) fun k hk hLk hh => by
    have : k ≠ i := fun e => hL (e ▸ hLk)
    omega
  have cont : ∀ (v : Value) (w' : World) (γ' : Gs) (φ' : Fp), (∀ m, ¬ (c0 + 256 * i ≤ m ∧ m < c0 + 256 * i + 256) → γ' m = γ m) → Sim w0 M R γ' φ' (tvOf σ) (syncF d.upd (svOf σ)) a w' → RepV w' (okOf w0 M R φ' (syncF d.upd (svOf σ)) w') γ' v d.val → next (a.put o.dst v) w' := by
    intro v w' γ' φ' h1 h2 h3
    obtain ⟨p1, p2⟩ := put_args ha hd hsz hargs v
    refine hK _ _ ⟨γ', φ', ?_, fun m hm hh => ?_, p2, (put_size a _ _).trans hsz⟩
    · rw [tvOf_set, svOf_set]
      exact h2.put p1 h3
    · rw [h1 m (hh i hi ((hL' i).2 (.inr rfl)))]
      exact hg m hm fun k hk hLk => hh k hk ((hL' k).2 (.inl hLk))
  unfold Run at hr
  split at hr
  · rename_i f xs ats ho
    obtain ⟨l, r, h1, h2, h3⟩ := hr
    have hmem : ∀ x ∈ xs.toList, x ∈ o.op.operands.toList := fun x hx => by rw [ho]; simp only [Op.operands, Call.operands]; simp; right; simpa using hx
    have e1 : xs.toList.map (opv S.tv) = xs.toList.map (opv (tvOf σ)) := List.map_congr_left fun x hx => hv x (hmem x hx)
    obtain ⟨q1, q2⟩ := callOut_congr (sv := S.sv) (sv' := svOf σ) (md := E.md id i) (b := S.ctr) (xs := xs.toList.map (opv S.tv)) (r := r) fun y hy k hk => by
      obtain ⟨x, hx, rfl⟩ := List.mem_map.1 hy
      exact hs (by rw [ho]; rfl) x (hmem x hx) k hk
    rw [q2, e1] at h1
    rw [q1, e1, hc] at h3
    exact callOp_ok hS hf ho h1 h2 h3 next Q cont
  · have hcg : aop E.T o.op o.type S.ctr S.tv S.sv = aop E.T o.op o.type S.ctr (tvOf σ) (svOf σ) := by
      cases hm : rdsAll o.op with
      | true => exact aop_congr hv (hs hm)
      | false => exact aop_congr0 hv hs0 hm
    rw [hcg, hc] at hr
    exact OpStep.of_res (aop_ok hT hS hf hr) next Q cont
theorem wants_ok {all : Array Oper} {o : Oper} {S : St} {a : Act} {w : World} {ok : Nat → Prop} {γ : Gs} (hg : ∀ t, t ∈ tmpsO all.toList o → RepV w ok γ (a.tmps.getD t undef) (S.tv t)) {b : Bool} (h : wants all.toList o S = some b) : Region.wanted o (yielded all a.tmps) = b := by
  unfold wants at h
  cases hgd : o.guard with
  | none => rw [hgd] at h; simp at h; subst h; simp [Region.wanted, hgd]
  | some jw =>
    obtain ⟨j, wt⟩ := jw
    rw [hgd] at h
    simp only at h
    have hd : (all[j]?).bind (·.dst) = dstAt all.toList j := by rw [← dstAt_eq]; simp
    unfold gq at h
    have hy : yielded all a.tmps j = (match (dstAt all.toList j).bind (a.tmps[·]?) with | some (.bool b) => some b | _ => none) := by unfold yielded; rw [hd]; rfl
    cases hdj : dstAt all.toList j with
    | none => rw [hdj] at h; simp at h
    | some t =>
      rw [hdj] at h hy
      simp only at h
      have ht := hg t (by simp [tmpsO, hgd, hdj])
      simp only [Option.bind_some] at hy
      split at h
      · rename_i q hq
        rw [hq] at ht
        obtain ⟨e, _⟩ := rep_sc ht
        have : a.tmps[t]? = some (.bool q) := by
          rw [Array.getD_eq_getD_getElem?] at e
          cases hh : a.tmps[t]? with
          | none => rw [hh] at e; simp [undef] at e
          | some u => rw [hh] at e; simp at e; rw [e]
        rw [this] at hy
        simp only [Option.some.injEq] at h
        simp [Region.wanted, hgd, hy, ← h]
      · rename_i hq
        rw [hq] at ht
        obtain ⟨vs, e, hl, _⟩ := ht
        have hvs : vs = [] := List.eq_nil_of_length_eq_zero (by simpa using hl)
        subst hvs
        have hy' : yielded all a.tmps j = none := by
          rw [hy]
          rw [Array.getD_eq_getD_getElem?] at e
          cases hh : a.tmps[t]? with
          | none => rfl
          | some u => rw [hh] at e; simp at e; subst e; rfl
        simp only [Option.some.injEq] at h
        simp [Region.wanted, hgd, hy', ← h]
      · cases h
theorem draw_ok (hT : TOk P E.T) (ha : args.length ≤ np) (hm : P.follows .mixedOrders = true) {id : Nat} {all : Array Oper} {D : List (List Nat)} {K : St → Prop} {Q : Exit → Act → World → Prop} (hK : ∀ s a w, K s → Inv w0 M R args N s a w → Q .normal a w) {s0 : St} {a : Act} {w : World}
    (hdst : ∀ o ∈ all.toList, opDst np N o = true) (hD : okD all.toList D = true) (h : drW P E id D all.toList K 0 all.toList [] s0) (hI : Inv w0 M R args N s0 a w) : (Code.region id all true).wp P Q a w := by
  classical
  obtain ⟨ds, acs, l1, l2, hE, hchk, hfin⟩ := drW_read _ _ _ _ h
  simp only [List.reverse_nil, List.nil_append, Nat.zero_add] at hE hchk
  have hA := apart_ok (S := fun k => runD (all.toList.take k) (ds.take k) s0) hD l1 l2 hE hchk
  have hlen : all.toList.length = all.size := by simp
  have hfold := runD_fold (wrL all.toList ds) s0 all.toList ds l1 fun k o d ho hd => by simp only [wrL, ho, hd]
  let σ : (L : Nat → Prop) → Loc → Cel := fun L => foldW (wrL all.toList ds) L (σs s0) all.toList.length
  have allL : ∀ L : Nat → Prop, (∀ i, i < all.size → L i) → σ L = σs (runD all.toList ds s0) := fun L hall => by
    have hh := (hfold all.toList.length (Nat.le_refl _)).1
    rw [List.take_length, ← l1, List.take_length] at hh
    rw [hh, l1]
    funext k
    exact foldW_eq _ fun i hi _ => ⟨fun _ => trivial, fun _ => hall i (by omega)⟩
  have noL : ∀ L : Nat → Prop, (∀ i, ¬ L i) → σ L = σs s0 := fun L hno => by
    have : ∀ n, foldW (wrL all.toList ds) L (σs s0) n = σs s0 := by
      intro n
      induction n with
      | zero => rfl
      | succ n ih => simp only [foldW]; rw [if_neg (hno n), ih]
    exact this _
  have addL : ∀ (L L' : Nat → Prop) (i : Nat), i < all.toList.length → ¬ L i → (∀ k, L' k ↔ L k ∨ k = i) → (∀ i j, j < all.toList.length → L j → depB D i j = true → L i) → σ L' = setF (wrL all.toList ds i) (σ L) := fun L L' i hi hn hL' hcl => by
    have e := fold_add (s := σs s0) hA (L := L) hcl hi hn
    show foldW _ _ _ _ = _
    rw [← e]
    funext k
    exact foldW_eq _ fun j _ _ => hL' j
  have rdsL : ∀ (L : Nat → Prop) (i : Nat), i < all.toList.length → ¬ L i → (∀ i j, j < all.toList.length → L j → depB D i j = true → L i) → (∀ k, depB D k i = true → L k) → ∀ l, rdL all.toList acs i l → σ L l = σs (runD (all.toList.take i) (ds.take i) s0) l := fun L i hi hn hcl hd l hl => by
    rw [(hfold i (by omega)).1]
    exact fold_reads (s := σs s0) hA (L := L) hcl hi hn hd hl
  have key : ∀ (fuel : Nat) (listed : Array Bool) (a : Act) (w : World), listed.size = all.size → ((List.range all.size).filter fun i => !listed.getD i true).length ≤ fuel →
      (∀ i j, j < all.toList.length → listed.getD j false = true → depB D i j = true → listed.getD i false = true) → InvL w0 M R args N s0.ctr all.size (fun i => listed.getD i false = true) (σ fun i => listed.getD i false = true) a w →
      wpAny P .any all Q fuel listed a w := by
    have full : ∀ (listed : Array Bool) (a : Act) (w : World), (∀ i, i < all.size → listed.getD i false = true) → InvL w0 M R args N s0.ctr all.size (fun i => listed.getD i false = true) (σ fun i => listed.getD i false = true) a w → Q .normal a w := by
      intro listed a w hall ⟨γ, φ, hS, hg, h1, h2⟩
      have e := allL (fun i => listed.getD i false = true) hall
      rw [e] at hS
      have hc := (hfold all.toList.length (Nat.le_refl _)).2
      rw [List.take_length, ← l1, List.take_length] at hc
      exact hK _ a w hfin ⟨γ, φ, hS, fun m hm => hg m (by omega) fun i hi _ hh => by omega, h1, h2⟩
    have none_ready : ∀ (listed : Array Bool), listed.size = all.size → Region.ready .any all listed = [] → ∀ i, i < all.size → listed.getD i false = true := by
      intro listed hsz hr i
      induction i using Nat.strongRecOn with
      | _ i ih =>
        intro hi
        apply Classical.byContradiction
        intro hn
        have ho : all[i]? = some all[i] := Array.getElem?_eq_getElem hi
        have hmem : i ∈ Region.ready .any all listed := by
          refine mem_ready.2 ⟨?_, all[i], ho, fun e he hb => ?_⟩
          · have hi' : i < listed.size := by omega
            simp only [Array.getD_eq_getD_getElem?, Array.getElem?_eq_getElem hi', Option.getD_some] at hn ⊢
            simpa using hn
          · have := (okD_get hD (j := i) (o := all[i]) (by simpa using ho)).2.1 e (by simpa using he) hb
            exact ih e.on this (by omega)
        rw [hr] at hmem
        simp at hmem
    intro fuel
    induction fuel with
    | zero =>
      intro listed a w hsz hcnt hcl hI
      have hall : ∀ i, i < all.size → listed.getD i false = true := fun i hi => by
        have h0 : ((List.range all.size).filter fun i => !listed.getD i true) = [] := List.eq_nil_of_length_eq_zero (by omega)
        have := List.filter_eq_nil_iff.1 h0 i (List.mem_range.2 hi)
        have hi' : i < listed.size := by omega
        simp only [Array.getD_eq_getD_getElem?, Array.getElem?_eq_getElem hi', Option.getD_some] at this ⊢
        simpa using this
      refine ⟨?_, full listed a w hall hI⟩
      unfold Region.ready
      rw [List.filter_eq_nil_iff]
      intro i hi
      have hi := List.mem_range.1 hi
      have := hall i hi
      have hi' : i < listed.size := by omega
      simp only [Array.getD_eq_getD_getElem?, Array.getElem?_eq_getElem hi', Option.getD_some] at this ⊢
      simp [this]
    | succ fuel ih =>
      intro listed a w hsz hcnt hcl hI
      refine ⟨fun hr => full listed a w (none_ready listed hsz hr) hI, fun i hi => ?_⟩
      obtain ⟨h0, o, ho, hdeps⟩ := mem_ready.1 hi
      have hi' : i < all.size := (Array.getElem?_eq_some_iff.1 ho).1
      have hol : all.toList[i]? = some o := by simpa using ho
      have hn : ¬ listed.getD i false = true := by
        have hi2 : i < listed.size := by omega
        simp only [Array.getD_eq_getD_getElem?, Array.getElem?_eq_getElem hi2, Option.getD_some] at h0 ⊢
        simp [h0]
      have hok := okD_get hD hol
      have hd : ∀ k, depB D k i = true → listed.getD k false = true := fun k hk => by
        obtain ⟨e, he, hb, hh⟩ := hok.1 k hk
        have hl := hdeps e (by simpa using he) hb
        rcases hh with rfl | hh
        · exact hl
        · exact hcl k e.on (by have := hok.2.1 e he hb; omega) hl hh
      obtain ⟨d, hdd⟩ : ∃ d, ds[i]? = some d := ⟨_, List.getElem?_eq_getElem (by omega)⟩
      obtain ⟨ac, hac⟩ : ∃ ac, acs[i]? = some ac := ⟨_, List.getElem?_eq_getElem (by omega)⟩
      have hEi := hE i o d ac hol hdd hac
      have agr := rdsL (fun i => listed.getD i false = true) i (by omega) hn hcl hd
      have agT : ∀ t, t ∈ tmpsO all.toList o → tvOf (σ fun i => listed.getD i false = true) t = (runD (all.toList.take i) (ds.take i) s0).tv t := fun t ht => by
        unfold tvOf
        rw [agr (.inl t) ⟨o, hol, ht⟩]; rfl
      have agN : ∀ m, m ∈ ac.rd → svOf (σ fun i => listed.getD i false = true) m = (runD (all.toList.take i) (ds.take i) s0).sv m := fun m hm' => by
        unfold svOf
        rw [agr (.inr m) ⟨ac, hac, hm'⟩]; rfl
      have hL' : ∀ k, (listed.setIfInBounds i true).getD k false = true ↔ listed.getD k false = true ∨ k = i := fun k => by
        have hi2 : i < listed.size := by omega
        by_cases hk : k = i
        · subst hk
          simp [Array.getD_eq_getD_getElem?, hi2]
        · rw [getD_set_ne _ (Ne.symm hk)]
          simp [hk]
      have hset := addL (fun i => listed.getD i false = true) (fun k => (listed.setIfInBounds i true).getD k false = true) i (by omega) hn hL' hcl
      have hwi : wrL all.toList ds i = wrO o.dst d := by simp only [wrL, hol, hdd]
      rw [hwi] at hset
      have next : ∀ a w, InvL w0 M R args N s0.ctr all.size (fun k => (listed.setIfInBounds i true).getD k false = true) (setF (wrO o.dst d) (σ fun i => listed.getD i false = true)) a w → wpAny P .any all Q fuel (listed.setIfInBounds i true) a w := fun a w hI' => by
        rw [← hset] at hI'
        refine ih _ a w (by simpa using hsz) ?_ ?_ hI'
        · have hmem : i ∈ (List.range all.size).filter fun i => !listed.getD i true := List.mem_filter.2 ⟨List.mem_range.2 hi', by simp [h0]⟩
          have e : ((List.range all.size).filter fun k => !(listed.setIfInBounds i true).getD k true) = ((List.range all.size).filter fun i => !listed.getD i true).filter fun k => decide (k ≠ i) := by
            rw [List.filter_filter]
            refine List.filter_congr fun k hk => ?_
            by_cases hk' : k = i
            · subst hk'
              have hi2 : k < listed.size := by omega
              simp [Array.getD_eq_getD_getElem?, hi2]
            · rw [getD_set_ne _ (Ne.symm hk')]
              simp [hk']
          have lt : (((List.range all.size).filter fun i => !listed.getD i true).filter fun k => decide (k ≠ i)).length < ((List.range all.size).filter fun i => !listed.getD i true).length :=
            List.length_filter_lt_length_iff_exists.2 ⟨i, hmem, by simp⟩
          rw [e]; omega
        · intro k j hj hLj hkj
          rcases (hL' j).1 hLj with hLj | rfl
          · exact (hL' k).2 (.inl (hcl k j hj hLj hkj))
          · exact (hL' k).2 (.inl (hd k hkj))
      have hdo := hdst o (List.mem_of_getElem? hol)
      have hw : ∀ b, wants all.toList o (runD (all.toList.take i) (ds.take i) s0) = some b → Region.wanted o (yielded all a.tmps) = b := fun b hb => by
        obtain ⟨γ, φ, hS, _⟩ := hI
        exact wants_ok (fun t ht => by rw [← agT t ht]; exact hS.tm t) hb
      unfold wpOp
      simp only [ho]
      rcases hEi with ⟨e1, e2, e3⟩ | ⟨e1, e2, e3⟩
      · rw [hw true e1, if_pos rfl]
        refine .inl (run_step (n := all.size) hT ha e3 (by rw [(hfold i (by omega)).2]) hi' hn hL' (fun x hx => ?_) (fun k hk => ?_) hdo hI next)
        · cases x with
          | tmp t => exact (agT t (List.mem_append_left _ (List.mem_filterMap.2 ⟨_, hx, rfl⟩))).symm
          | _ => rfl
        · exact (agN k (by rw [e2]; exact hk)).symm
      · rw [hw false e1, if_neg (by simp)]
        subst e3
        refine next _ _ ?_
        obtain ⟨γ, φ, hS, hg, h1, h2⟩ := hI
        obtain ⟨p1, p2⟩ := put_args ha hdo h2 h1 undef
        refine ⟨γ, φ, ?_, fun m hm' hh => hg m hm' fun k hk hLk => hh k hk ((hL' k).2 (.inl hLk)), p2, (put_size a _ _).trans h2⟩
        rw [tvOf_set, svOf_set]
        exact hS.put p1 ⟨[], rfl, rfl, fun j v x hv => by simp at hv⟩
  refine wp_region_any hm (key _ _ a _ (by simp) ?_ ?_ ?_)
  · have : ((List.range all.size).filter fun i => !(Array.replicate all.size false).getD i true).length ≤ (List.range all.size).length := List.length_filter_le _ _
    simpa using this
  · intro i j hj hh
    rw [Array.getD_eq_getD_getElem?] at hh
    simp only [Array.getElem?_replicate] at hh
    split at hh <;> simp at hh
  · obtain ⟨γ, φ, hS, hg, h1, h2⟩ := hI
    have e := noL (fun i => (Array.replicate all.size false).getD i false = true) fun i => by
      rw [Array.getD_eq_getD_getElem?]
      simp only [Array.getElem?_replicate]
      split <;> simp
    rw [e]
    exact ⟨γ, φ, hS.same ⟨rfl, rfl, rfl, rfl⟩, fun m hm _ => hg m hm, h1, h2⟩
end
end Go.Proofs.YtkkmgjhfjhcdmaaGreatDoor.Mx

/- Text, run by the machine: sound. -/
namespace Go.Proofs.YtkkmgjhfjhcdmaaGreatDoor.Mx
set_option linter.all false
open Go Go.RowKit
section
variable {w0 : World} {M R : Nat → Prop} {P : Program} {E : Env} {args : List Value} {np N : Nat}
theorem br_mono {A B A' B' : Prop} {q : Bool} (h1 : A → A') (h2 : B → B') (h : Br A B q) : Br A' B' q := by
  unfold Br at *
  split at h
  · rename_i hq; rw [if_pos hq]; exact h1 h
  · rename_i hq; rw [if_neg hq]; exact h2 h
theorem gk_mono {A B A' B' : Prop} {w : Bool} {x : AV} (h1 : A → A') (h2 : B → B') (h : GK w A B x) : GK w A' B' x := by
  unfold GK at *
  split at h
  · exact br_mono h1 h2 h
  · exact h2 h
  · exact h.elim
theorem ck_mono {A B A' B' : Prop} {x : AV} (h1 : A → A') (h2 : B → B') (h : CK A B x) : CK A' B' x := by
  unfold CK at *
  split at h
  · exact br_mono h1 h2 h
  · exact h.elim
theorem rgB_mono {s : St} {dst : Option Tmp} {K K' : St → Prop} (hK : ∀ s, K s → K' s) {m : Nat} {B : Option Blk} (h : RgB s dst K m B) : RgB s dst K' m B := by
  unfold RgB at *
  split at h
  · exact hK _ h
  · exact h
theorem rgK_mono {T : Ty} {t : TypeId} {s : St} {dst : Option Tmp} {K K' : St → Prop} (hK : ∀ s, K s → K' s) {x : AV} (h : RgK T t s dst K x) : RgK T t s dst K' x := by
  refine ⟨h.1, ?_⟩
  have h := h.2
  cases x <;> try (exact h.elim)
  · exact rgB_mono hK h
  · exact hK _ h
theorem nxK_mono {T : Ty} {t : TypeId} {s : St} {dst : Option Tmp} {K K' : St → Prop} (hK : ∀ s, K s → K' s) {x : AV} (h : NxK T t s dst K x) : NxK T t s dst K' x := by
  unfold NxK at *
  split at h
  · unfold NxB at *
    split at h
    · exact ⟨h.1, fun e => hK _ (h.2.1 e), fun kv r p => hK _ (h.2.2 kv r p)⟩
    · exact h
  · exact h
theorem enK_mono {T : Ty} {t : TypeId} {s : St} {dst : Option Tmp} {K K' : St → Prop} (hK : ∀ s, K s → K' s) {x : AV} (h : EnK T t s dst K x) : EnK T t s dst K' x := by
  unfold EnK at *
  split at h
  · unfold EnB at *
    split at h
    · exact ⟨h.1, hK _ h.2⟩
    · exact h
  · exact h
theorem step1_mono {id i : Nat} {o : Oper} {K K' : St → Prop} (hK : ∀ s, K s → K' s) {s : St} (h : step1 P E id i o K s) : step1 P E id i o K' s := by
  have key : ∀ op : Op, o.op = op → step1 P E id i o K' s := by
    intro op ho
    unfold step1 at h ⊢
    rw [ho] at h ⊢
    cases op with
    | range t x => exact rgK_mono hK h
    | entry x => exact enK_mono hK h
    | next x q => cases q with
      | true => obtain ⟨d, h3, h4⟩ := h; exact ⟨d, h3, hK _ h4⟩
      | false => exact nxK_mono hK h
    | call c =>
      obtain ⟨cal, args, ats⟩ := c
      cases cal with
      | value f => cases f with
        | func g =>
          obtain ⟨l, r, h1, h2, d, h3, h4⟩ := h
          exact ⟨l, r, h1, h2, d, h3, hK _ h4⟩
        | _ => obtain ⟨d, h3, h4⟩ := h; exact ⟨d, h3, hK _ h4⟩
      | _ => obtain ⟨d, h3, h4⟩ := h; exact ⟨d, h3, hK _ h4⟩
    | _ => obtain ⟨d, h3, h4⟩ := h; exact ⟨d, h3, hK _ h4⟩
  exact key _ rfl
theorem opsW_mono {id : Nat} {all : List Oper} {K K' : St → Prop} (hK : ∀ s, K s → K' s) : ∀ (l : List Oper) (i : Nat) (s : St), opsW P E id all K i l s → opsW P E id all K' i l s
  | [], i, s, h => hK s h
  | o :: l, i, s, h => by
    simp only [opsW] at h ⊢
    split at h
    · exact step1_mono (opsW_mono hK l (i + 1)) h
    · exact gk_mono (step1_mono (opsW_mono hK l (i + 1))) (opsW_mono hK l (i + 1) _) h
theorem stepR_mono {id i : Nat} {o : Oper} {K K' : Ac → St → Prop} (hK : ∀ a s, K a s → K' a s) {s : St} (h : stepR P E id i o K s) : stepR P E id i o K' s := by
  unfold stepR at *
  split at h
  · obtain ⟨l, r, h1, h2, d, h3, h4⟩ := h
    exact ⟨l, r, h1, h2, d, h3, hK _ _ h4⟩
  · obtain ⟨d, h3, h4⟩ := h
    exact ⟨d, h3, hK _ _ h4⟩
theorem drW_mono {id : Nat} {D : List (List Nat)} {all : List Oper} {K K' : St → Prop} (hK : ∀ s, K s → K' s) : ∀ (l : List Oper) (i : Nat) (acc : List Ac) (s : St), drW P E id D all K i l acc s → drW P E id D all K' i l acc s
  | [], i, acc, s, h => ⟨h.1, hK s h.2⟩
  | o :: l, i, acc, s, h => by
    simp only [drW] at h ⊢
    split at h
    · exact stepR_mono (fun a s => drW_mono hK l (i + 1) (a :: acc) s) h
    · exact gk_mono (stepR_mono fun a s => drW_mono hK l (i + 1) (a :: acc) s) (drW_mono hK l (i + 1) _ _) h
theorem drawW_mono {id : Nat} {all : List Oper} {K K' : St → Prop} (hK : ∀ s, K s → K' s) {s : St} (h : drawW P E id all K s) : drawW P E id all K' s := ⟨h.1, drW_mono hK _ _ _ _ h.2⟩
theorem lp_mono {F : Po → St → Prop} (hF : ∀ (Q Q' : Po) (s : St), (∀ e s, Q e s → Q' e s) → F Q s → F Q' s) {Q Q' : Po} (hQ : ∀ e s, Q e s → Q' e s) {s : St} (h : Lp F Q s) : Lp F Q' s := fun I hI => h I fun s hs => hI s (hF _ _ s (fun e s he => by
  cases e with
  | normal => exact he
  | _ => exact hQ _ _ he) hs)
/-- a round, unfolded -/
theorem lp_unfold {F : Po → St → Prop} (hF : ∀ (Q Q' : Po) (s : St), (∀ e s, Q e s → Q' e s) → F Q s → F Q' s) {Q : Po} {s : St} : Lp F Q s ↔ F (Po.then (Lp F Q) Q) s := by
  constructor
  · intro h
    refine h (fun s => F (Po.then (Lp F Q) Q) s) fun s hs => hF _ _ s (fun e s he => ?_) hs
    cases e with
    | normal => exact fun I hI => hI s (hF _ _ s (fun e s he => by
        cases e with
        | normal => exact he I hI
        | _ => exact he) he)
    | _ => exact he
  · intro h I hI
    refine hI s (hF _ _ s (fun e s he => ?_) h)
    cases e with
    | normal => exact he I hI
    | _ => exact he
theorem aw_mono : ∀ (c : Code) (Q Q' : Po) (s : St), (∀ e s, Q e s → Q' e s) → aw P E c Q s → aw P E c Q' s
  | .skip, Q, Q', s, hQ, h => hQ _ _ h
  | .seq x y, Q, Q', s, hQ, h => by
    refine aw_mono x _ _ s (fun e s he => ?_) h
    cases e with
    | normal => exact aw_mono y _ _ s hQ he
    | _ => exact hQ _ _ he
  | .cond (.tmp t) x y, Q, Q', s, hQ, h => ck_mono (aw_mono x _ _ s hQ) (aw_mono y _ _ s hQ) h
  | .block id c, Q, Q', s, hQ, h => by
    refine aw_mono c _ _ s (fun e s he => ?_) h
    cases e with
    | exit id' => simp only [Po.inBlock] at he ⊢; split at he <;> rename_i hi <;> simp only [hi, if_true, if_false] <;> exact hQ _ _ he
    | _ => exact hQ _ _ he
  | .exit id, Q, Q', s, hQ, h => hQ _ _ h
  | .ret, Q, Q', s, hQ, h => hQ _ _ h
  | .loop c, Q, Q', s, hQ, h => lp_mono (F := fun Q s => aw P E c Q (norm (E.kp (headId c)) s)) (fun Q Q' s hQ h => aw_mono c _ _ _ hQ h) hQ h
  | .region id all false, Q, Q', s, hQ, h => by
    simp only [aw] at h ⊢
    cases hx : E.ex id with
    | false => rw [hx] at h; exact opsW_mono (hQ _) _ _ _ h
    | true => rw [hx] at h; exact h.imp fun s' k => ⟨k.1, hQ _ _ k.2⟩
  | .region id all true, Q, Q', s, hQ, h => drawW_mono (hQ _) h
  | .cond (.const _) _ _, _, _, _, _, h => h.elim
  | .cond (.global _) _ _, _, _, _, _, h => h.elim
  | .cond (.func _) _ _, _, _, _, _, h => h.elim
  | .rangeFunc _ _ _ _, _, _, _, _, h => h.elim
  | .scope _, _, _, _, _, h => h.elim
  | .label _, _, _, _, _, h => h.elim
  | .goto _, _, _, _, _, h => h.elim
  | .refuse _, _, _, _, _, h => h.elim
/-- a loop, one round on -/
theorem aw_loop {c : Code} {Q : Po} {s : St} : aw P E (.loop c) Q s ↔ aw P E c (Po.then (aw P E (.loop c) Q) Q) (norm (E.kp (headId c)) s) := lp_unfold (F := fun Q s => aw P E c Q (norm (E.kp (headId c)) s)) fun Q Q' s hQ h => aw_mono c _ _ _ hQ h
/-- the ends of a text, as they are -/
def QX (w0 : World) (M R : Nat → Prop) (args : List Value) (N : Nat) (Q : Po) : Exit → Act → World → Prop
  | .normal, a, w => ∃ s, Q .normal s ∧ Inv w0 M R args N s a w
  | .exit id, a, w => ∃ s, Q (.exit id) s ∧ Inv w0 M R args N s a w
  | .ret, a, w => ∃ s, Q .ret s ∧ Inv w0 M R args N s a w
  | _, _, _ => False
theorem drawW_ok (hT : TOk P E.T) (hm : P.follows .mixedOrders = true) (ha : args.length ≤ np) {id : Nat} {all : Array Oper} {K : St → Prop} {Q : Exit → Act → World → Prop} (hK : ∀ s a w, K s → Inv w0 M R args N s a w → Q .normal a w) {s : St} {a : Act} {w : World}
    (hd : ∀ o ∈ all.toList, opDst np N o = true) (h : drawW P E id all.toList K s) (hI : Inv w0 M R args N s a w) : (Code.region id all true).wp P Q a w := draw_ok hT ha hm hK hd h.1 h.2 hI
theorem aw_ok (hT : TOk P E.T) (hm : P.follows .mixedOrders = true) (ha : args.length ≤ np) : ∀ (c : Code) (Q : Po) (s : St) (a : Act) (w : World), dstOk np N c = true → aw P E c Q s → Inv w0 M R args N s a w → c.wp P (QX w0 M R args N Q) a w
  | .skip, Q, s, a, w, hd, h, hI => wp_skip ⟨s, h, hI⟩
  | .seq x y, Q, s, a, w, hd, h, hI => by
    simp only [dstOk, Bool.and_eq_true] at hd
    refine wp_seq (wp_mono (aw_ok hT hm ha x _ s a w hd.1 h hI) fun e a w he => ?_)
    cases e with
    | normal => obtain ⟨s', h', hI'⟩ := he; exact aw_ok hT hm ha y Q s' a w hd.2 h' hI'
    | exit id => exact he
    | ret => exact he
    | _ => exact he.elim
  | .cond (.tmp t) x y, Q, s, a, w, hd, h, hI => by
    simp only [dstOk, Bool.and_eq_true] at hd
    have h : CK (aw P E x Q s) (aw P E y Q s) (s.tv t) := h
    unfold CK at h
    split at h
    · rename_i q hq
      have ht : a.eval (.tmp t) = .bool q := by
        obtain ⟨γ, φ, hS, _⟩ := hI
        have := hS.tm t
        rw [hq] at this
        exact (rep_sc this).1
      unfold Br at h
      refine wp_cond ht ?_
      split at h
      · rename_i hq'; rw [if_pos hq']; exact aw_ok hT hm ha x Q s a w hd.1 h hI
      · rename_i hq'; rw [if_neg hq']; exact aw_ok hT hm ha y Q s a w hd.2 h hI
    · exact h.elim
  | .block id c, Q, s, a, w, hd, h, hI => by
    refine wp_block (wp_mono (aw_ok hT hm ha c _ s a w hd h hI) fun e a w he => ?_)
    cases e with
    | normal => exact he
    | exit id' =>
      obtain ⟨s', h', hI'⟩ := he
      simp only [Po.inBlock] at h'
      simp only [Exit.inBlock]
      split at h' <;> rename_i hi <;> simp only [hi, if_true, if_false] <;> exact ⟨s', h', hI'⟩
    | ret => exact he
    | _ => exact he.elim
  | .exit id, Q, s, a, w, hd, h, hI => wp_exit ⟨s, h, hI⟩
  | .ret, Q, s, a, w, hd, h, hI => wp_ret ⟨s, h, hI⟩
  | .loop c, Q, s, a, w, hd, h, hI => by
    have key := h (fun s => ∀ a w, Inv w0 M R args N s a w → ∀ (b : Frame) (k : List Item) (cs : List Frame), ∃ e a' w', QX w0 M R args N Q e a' w' ∧ Arrives P (lone (b.at a (.code c :: .inLoop c :: k)) cs w) b k cs e a' w') fun s hs a w hI b k cs => by
      obtain ⟨e, a₁, w₁, hq, harr⟩ := aw_ok hT hm ha c _ _ a w hd hs (norm_ok hI) b (.inLoop c :: k) cs
      cases e with
      | normal =>
        obtain ⟨s', h', hI'⟩ := hq
        obtain ⟨e₂, a₂, w₂, hq₂, harr₂⟩ := h' a₁ w₁ hI' b k cs
        exact ⟨e₂, a₂, w₂, hq₂, .of_steps (Steps.trans harr (.one step_inLoop)) harr₂⟩
      | exit id => exact ⟨.exit id, a₁, w₁, hq, .pass (x := .inLoop c) rfl (fun _ _ => .inl (by simp)) harr⟩
      | ret => exact ⟨.ret, a₁, w₁, hq, .pass (x := .inLoop c) rfl (fun _ _ => .inl (by simp)) harr⟩
      | _ => exact hq.elim
    intro b k cs
    obtain ⟨e, a', w', hq, harr⟩ := key a w hI b k cs
    exact ⟨e, a', w', hq, .of_steps (.one step_loop) harr⟩
  | .region id all false, Q, s, a, w, hd, h, hI => by
    simp only [aw] at h
    cases hx : E.ex id with
    | false =>
      rw [hx] at h
      refine wp_region ?_
      have := opsW_ok (id := id) (all := all) (Q := QX w0 M R args N Q) hT ha (fun s a w hk hI => ⟨s, hk, hI⟩) all.toList 0 (keep (E.kp id) (frz (E.fz id) s)) a w (by simp) (fun o ho => List.all_eq_true.1 hd o ho) h (keep_ok (frz_ok hI))
      rw [List.range_eq_range']
      simpa using this
    | true =>
      rw [hx] at h
      obtain ⟨s', h1, h2⟩ := h
      intro b k cs
      obtain ⟨e, a', w', ⟨he, hq⟩, harr⟩ := h1 w0 M R args np N a w ha (fun o ho => List.all_eq_true.1 hd o ho) (keep_ok (frz_ok hI)) b k cs
      subst he
      exact ⟨.normal, a', w', ⟨s', h2, hq⟩, harr⟩
  | .region id all true, Q, s, a, w, hd, h, hI => drawW_ok hT hm ha (fun s a w hk hI => ⟨s, hk, hI⟩) (fun o ho => List.all_eq_true.1 hd o ho) h (keep_ok (frz_ok hI))
  | .cond (.const _) _ _, _, _, _, _, _, h, _ => h.elim
  | .cond (.global _) _ _, _, _, _, _, _, h, _ => h.elim
  | .cond (.func _) _ _, _, _, _, _, _, h, _ => h.elim
  | .rangeFunc _ _ _ _, _, _, _, _, _, h, _ => h.elim
  | .scope _, _, _, _, _, _, h, _ => h.elim
  | .label _, _, _, _, _, _, h, _ => h.elim
  | .goto _, _, _, _, _, _, h, _ => h.elim
  | .refuse _, _, _, _, _, _, h, _ => h.elim
end
end Go.Proofs.YtkkmgjhfjhcdmaaGreatDoor.Mx

/- A function, run by the machine: what it promises. -/
namespace Go.Proofs.YtkkmgjhfjhcdmaaGreatDoor.Mx
set_option linter.all false
open Go Go.RowKit
def tmsOf : Nat → List AV → List (Nat × AV)
  | _, [] => []
  | k, x :: r => (k, x) :: tmsOf (k + 1) r
/-- a function's first state -/
def enter (avs : List AV) : St := ⟨tmsOf 0 (thAs 1 avs).1, sync (thAs 1 avs).2 [], 1 + wds avs⟩
def fin1 (T : Ty) (s : St) : ResultVar → Option AV
  | .tmp t => some (s.tv t)
  | .cell a t => match T t, s.tv a with
    | some ti, .pt m i j => match s.sv m with
      | some (.bx cs) => bif i == 0 then loaded ti (cs.drop j) else none
      | _ => none
    | _, _ => none
def finV (T : Ty) (s : St) : List ResultVar → Option (List AV)
  | [] => some []
  | r :: q => match fin1 T s r, finV T s q with | some x, some l => some (x :: l) | _, _ => none
def lentV (s : St) : Nat → List Bool → List AV
  | _, [] => []
  | i, q :: r => (bif q then s.tv i else .no) :: lentV s (i + 1) r
def outs : List Bool → List AV → List (Option AV)
  | q :: r, t :: ts => (bif q then some t else none) :: outs r ts
  | _, _ => []
def wrapR : List AV → AV
  | [x] => x
  | ts => .tu ts
/-- a function's answer -/
def finish (T : Ty) (rs : List ResultVar) (lent : List Bool) (s : St) : Option Ans :=
  match finV T s rs with
  | some xs => match exL (exA s.sv) (xs ++ lentV s 0 lent) with
    | some (ts, ns) => bif nodupB ns then some (wrapR (ts.take xs.length), outs lent (ts.drop xs.length)) else none
    | none => none
  | none => none
def Fin (T : Ty) (rs : List ResultVar) (lent : List Bool) (r : Ans) : Po
  | .exit _, _ => False
  | _, s => finish T rs lent s = some r
def resG (tmps : Array Value) : ResultVar → Sem Value
  | .tmp t => pure (tmps.getD t undef)
  | .cell b t => do loadVar t (← asAddr (tmps.getD b undef))
theorem results_resG (fn : Func) (tmps : Array Value) : results fn tmps = (do let vs ← fn.results.mapM (resG tmps); pure (if h : vs.size = 1 then vs[0] else .tuple vs)) := by
  unfold results
  congr
section
variable {w0 : World} {M R : Nat → Prop} {γ : Gs} {φ : Fp} {tv : Tv} {sv : Sv} {a : Act} {w : World} {P : Program} {T : Ty} {E : Env} {args : List Value} {np N : Nat}
theorem exAL_ok (h : Sim w0 M R γ φ tv sv a w) : ∀ (cs l : Row) (N : List Nat) (vs : Nat → Value), (∀ (j : Nat) (x : AV), cs[j]? = some x → RepV w (okOf w0 M R φ sv w) γ (vs j) x) → exL (exA sv) cs = some (l, N) → nodupB N = true →
    l.length = cs.length ∧ (∀ n ∈ N, live sv n) ∧ ∃ Fs : Nat → Nat → Prop, (∀ j b, Fs j b → Nφ φ N b) ∧ (∀ i j b, Fs i b → Fs j b → i = j) ∧ ∀ (j : Nat) (y : AV), l[j]? = some y → OwnA w (okOf w0 M R φ sv w) (Fs j) (vs j) y
  | [], l, N, vs, hv, hx, hn => by
    simp only [exL] at hx
    cases hx
    exact ⟨rfl, fun n hn => by simp at hn, fun _ _ => False, fun _ _ h => h.elim, fun _ _ _ h => h.elim, fun j y hy => by simp at hy⟩
  | x :: r, l, N, vs, hv, hx, hn => by
    simp only [exL] at hx
    split at hx
    · rename_i y ns l' ms h1 h2
      cases hx
      obtain ⟨n1, n2, n3⟩ := nodupB_app hn
      obtain ⟨a1, a2⟩ := exA_ok h (hv 0 x rfl) h1 n1
      obtain ⟨b1, b2, Fs, b3, b4, b5⟩ := exAL_ok h r l' ms (fun j => vs (j + 1)) (fun j x hj => hv (j + 1) x (by simpa using hj)) h2 n2
      refine ⟨by simp [b1], fun n hn => ?_, fun j => match j with | 0 => Nφ φ ns | j + 1 => Fs j, ?_, ?_, ?_⟩
      · rcases List.mem_append.1 hn with hn | hn
        · exact a1 n hn
        · exact b2 n hn
      · rintro (_ | j) b hb
        · obtain ⟨n, hn, hb⟩ := hb; exact ⟨n, List.mem_append_left _ hn, hb⟩
        · obtain ⟨n, hn, hb⟩ := b3 j b hb; exact ⟨n, List.mem_append_right _ hn, hb⟩
      · rintro (_ | i) (_ | j) b hb hb'
        · rfl
        · exact (Nφ_dj h a1 b2 n3 b hb (b3 j b hb')).elim
        · exact (Nφ_dj h a1 b2 n3 b hb' (b3 i b hb)).elim
        · rw [b4 i j b hb hb']
      · rintro (_ | j) y hy
        · simp at hy; subst hy; exact a2
        · exact b5 j y (by simpa using hy)
    · cases hx
theorem fin1_ok (hT : TOk P T) {s : St} (h : Sim w0 M R γ φ s.tv s.sv a w) {r : ResultVar} {x : AV} (hx : fin1 T s r = some x) :
    ∃ v, (resG a.tmps r).run P w = .ok v w ∧ RepV w (okOf w0 M R φ s.sv w) γ v x := by
  cases r with
  | tmp t => simp only [fin1] at hx; cases hx; exact ⟨_, rfl, h.tm t⟩
  | cell b t =>
    simp only [fin1] at hx
    split at hx
    · rename_i ti m i j hti hb
      split at hx
      · rename_i cs hm
        rw [cond_eq_ite] at hx
        split at hx
        · rename_i hi
          have hi : i = 0 := by simpa using hi
          subst hi
          obtain ⟨c, cur, e, fr, k1, k2, k3, k4, k5, k6⟩ := h.bk m _ hm
          have hb' := h.tm b
          rw [hb] at hb'
          obtain ⟨v0, z, g1, g2⟩ := hb'
          rw [k1] at g1
          cases g1
          obtain ⟨_, e1⟩ := g2
          have ht := hT t ti hti
          unfold loaded at hx
          split at hx
          · rename_i l hl
            cases hx
            have hC : CellsAt w (RepC w (okOf w0 M R φ s.sv w) γ) c 0 cs := fun k x hk => ⟨_, by rw [Nat.zero_add]; exact cell_some k3 (Nat.lt_of_lt_of_le (idx_lt hk) k5), (k6 k x hk).1, (k6 k x hk).2⟩
            obtain ⟨p1, p2⟩ := part_at ht.st hC hl
            obtain ⟨v, q1, q2⟩ := load_rep (P := P) ht p1 p2
            refine ⟨v, ?_, q2⟩
            simp only [resG, e1]
            simpa [Instr.loadAt, Instr.sureAddr, asAddr] using q1
          · cases hx
        · cases hx
      · cases hx
    · cases hx
theorem finV_ok (hT : TOk P T) {s : St} (h : Sim w0 M R γ φ s.tv s.sv a w) : ∀ (rs : List ResultVar) (xs : List AV), finV T s rs = some xs → ∃ vs : List Value,
    (rs.mapM (resG a.tmps)).run P w = .ok vs w ∧ vs.length = xs.length ∧ ∀ (j : Nat) (v : Value) (x : AV), vs[j]? = some v → xs[j]? = some x → RepV w (okOf w0 M R φ s.sv w) γ v x
  | [], xs, hx => by
    simp only [finV] at hx
    cases hx
    exact ⟨[], by simp, rfl, fun j v x hv => by simp at hv⟩
  | r :: q, xs, hx => by
    simp only [finV] at hx
    split at hx
    · rename_i x l h1 h2
      cases hx
      obtain ⟨v, a1, a2⟩ := fin1_ok hT h h1
      obtain ⟨vs, b1, b2, b3⟩ := finV_ok hT h q l h2
      refine ⟨v :: vs, ?_, by simp [b2], ?_⟩
      · rw [List.mapM_cons]
        simp only [Sem.run_bind, a1, Result.andThen_ok, b1, Sem.run_pure]
      · rintro (_ | j) u y hu hy
        · simp at hu hy; subst hu hy; exact a2
        · exact b3 j u y (by simpa using hu) (by simpa using hy)
    · cases hx
theorem lentV_get (s : St) : ∀ (lent : List Bool) (i j : Nat) (x : AV), (lentV s i lent)[j]? = some x → x = s.tv (i + j) ∨ x = .no
  | [], i, j, x, h => by simp [lentV] at h
  | q :: r, i, j, x, h => by
    cases j with
    | zero => simp [lentV] at h; cases q <;> simp_all
    | succ j =>
      simp [lentV] at h
      rcases lentV_get s r (i + 1) j x h with h | h
      · left; rw [h]; congr 1; omega
      · exact .inr h
theorem outs_get : ∀ (lent : List Bool) (ts : List AV) (i : Nat) (t : AV), (outs lent ts)[i]? = some (some t) → lent[i]? = some true ∧ ts[i]? = some t
  | [], ts, i, t, h => by simp [outs] at h
  | _ :: _, [], i, t, h => by simp [outs] at h
  | q :: r, x :: ts, i, t, h => by
    cases i with
    | zero => cases q <;> simp [outs] at h; exact ⟨rfl, by simp [h]⟩
    | succ i => simp only [outs, List.getElem?_cons_succ] at h; simpa using outs_get r ts i t h
theorem lentV_true (s : St) : ∀ (lent : List Bool) (i j : Nat), lent[j]? = some true → (lentV s i lent)[j]? = some (s.tv (i + j))
  | [], i, j, h => by simp at h
  | q :: r, i, j, h => by
    cases j with
    | zero => simp at h; subst h; simp [lentV]
    | succ j =>
      simp only [List.getElem?_cons_succ] at h
      simp only [lentV, List.getElem?_cons_succ]
      rw [lentV_true s r (i + 1) j h]
      congr 2; omega
theorem finish_ok (hT : TOk P T) {G : Fp} {okc : Nat → Prop} {s : St} {a : Act} {w1 : World} {avs : List AV} (hA : ArgsRep w okc G args avs) (h : Sim w (fun b => ∃ i, G i b) okc γ φ s.tv s.sv a w1) {lent : List Bool} (hg : ∀ (i : Nat) (v : Value), (args.take lent.length)[i]? = some v → a.tmps.getD i undef = v)
    {fn : Func} {rs : List ResultVar} {r : Ans} (hr : fn.results = rs.toArray) (hl : lent.length ≤ avs.length) (hf : finish T rs lent s = some r) :
    ∃ v, (results fn a.tmps).run P w1 = .ok v w1 ∧ ∃ H, Post w okc G args r v w1 H := by
  unfold finish at hf
  split at hf
  · rename_i xs hxs
    split at hf
    · rename_i ts ns hts
      rw [cond_eq_ite] at hf
      split at hf
      · rename_i hnd
        cases hf
        obtain ⟨vs, r1, r2, r3⟩ := finV_ok hT h rs xs hxs
        obtain ⟨b1, b2, Fs, b3, b4, b5⟩ := exAL_ok h (xs ++ lentV s 0 lent) ts ns (fun j => if j < xs.length then vs.getD j undef else a.tmps.getD (j - xs.length) undef) (fun j x hj => by
          by_cases hjl : j < xs.length
          · rw [List.getElem?_append_left hjl] at hj
            simp only [hjl, if_true]
            refine r3 j _ x ?_ hj
            rw [List.getD_eq_getElem?_getD, List.getElem?_eq_getElem (by omega)]; rfl
          · rw [List.getElem?_append_right (by omega)] at hj
            simp only [hjl, if_false]
            rcases lentV_get s lent 0 _ x hj with e | e
            · rw [e, Nat.zero_add]; exact h.tm _
            · rw [e]; exact Rep.no _) hts hnd
        have hts' : xs.length ≤ ts.length := by rw [b1, List.length_append]; omega
        have hlive : ∀ j c, Fs j c → c < w1.heap.size ∧ (w.heap.size ≤ c ∨ ∃ i, G i c) := fun j c hc => by
          obtain ⟨n, hn, hc⟩ := b3 j c hc
          exact h.nw n c (b2 n hn) hc
        have hokF : ∀ c, okOf w (fun b => ∃ i, G i b) okc φ s.sv w1 c → ∀ (H : Fp), (∀ i c, H i c → ∃ j, Fs j c) → okP w okc G H w1 c := fun c hc H hH => by
          refine ⟨hc.1, hc.2.1, fun i hi => ?_⟩
          obtain ⟨j, hj⟩ := hH i c hi
          obtain ⟨n, hn, hc'⟩ := b3 j c hj
          exact hc.2.2 n (b2 n hn) hc'
        have hH : ∀ (i : Nat) (c : Nat), (fun i c => match i with | 0 => ∃ j, j < xs.length ∧ Fs j c | i + 1 => Fs (xs.length + i) c : Fp) i c → ∃ j, Fs j c := by
          rintro (_ | i) c hc
          · obtain ⟨q, _, hc⟩ := hc; exact ⟨q, hc⟩
          · exact ⟨_, hc⟩
        let v : Value := if hh : vs.toArray.size = 1 then vs.toArray[0] else .tuple vs.toArray
        refine ⟨v, ?_, fun i c => match i with | 0 => ∃ j, j < xs.length ∧ Fs j c | i + 1 => Fs (xs.length + i) c, h.fr, h.cl, ?_, ?_, ?_, ?_⟩
        · rw [results_resG, hr, List.mapM_toArray, map_eq_pure_bind]
          simp only [Sem.run_bind, r1, Result.andThen_ok, Sem.run_pure]
          rfl
        · rintro (_ | i) (_ | j) c hc hc'
          · rfl
          · obtain ⟨q, hq, hc⟩ := hc; have := b4 _ _ c hc hc'; omega
          · obtain ⟨q, hq, hc'⟩ := hc'; have := b4 _ _ c hc hc'; omega
          · have := b4 _ _ c hc hc'; omega
        · rintro (_ | i) c hc
          · obtain ⟨q, hq, hc⟩ := hc; exact hlive q c hc
          · exact hlive _ c hc
        · have ow : ∀ j t, j < xs.length → (ts.take xs.length)[j]? = some t → OwnA w1 (okP w okc G (fun i c => match i with | 0 => ∃ j, j < xs.length ∧ Fs j c | i + 1 => Fs (xs.length + i) c) w1) (fun c => j < xs.length ∧ Fs j c) (vs.getD j undef) t := fun j t hj ht => by
            rw [List.getElem?_take_of_lt hj] at ht
            have := b5 j t ht
            simp only [hj, if_true] at this
            exact this.mono (fun c hc => ⟨hokF c hc _ hH, rfl⟩) _ fun c hc => ⟨⟨hj, hc⟩, rfl⟩
          have tl : (ts.take xs.length).length = xs.length := by rw [List.length_take]; omega
          revert ow tl
          generalize htk : ts.take xs.length = tk
          intro ow tl
          by_cases h1 : xs.length = 1
          · obtain ⟨t0, rfl⟩ := List.length_eq_one_iff.1 (tl.trans h1)
            obtain ⟨v0, rfl⟩ := List.length_eq_one_iff.1 (r2.trans h1)
            have := ow 0 t0 (by omega) rfl
            show OwnV _ _ _ v0 t0
            have := this.mono (ok' := okP w okc G (fun i c => match i with | 0 => ∃ j, j < xs.length ∧ Fs j c | i + 1 => Fs (xs.length + i) c) w1) (fun c hc => ⟨hc, rfl⟩) (fun c => ∃ j, j < xs.length ∧ Fs j c) fun c hc => ⟨⟨0, hc⟩, rfl⟩
            cases t0 with
            | tu q => cases this with | rd _ _ _ _ _ hR => cases hR
            | _ => exact this
          · have e1 : wrapR tk = .tu tk := by
              match tk, tl with
              | [], _ => rfl
              | [x], tl => exact (h1 tl.symm).elim
              | _ :: _ :: _, _ => rfl
            have e2 : v = .tuple vs.toArray := by
              show (if hh : _ then _ else _) = _
              rw [dif_neg (by simp; omega)]
            rw [e1, e2]
            refine ⟨vs, fun j c => j < xs.length ∧ Fs j c, rfl, by omega, fun j c hc => ⟨j, hc⟩, fun i j c hc hc' => b4 i j c hc.2 hc'.2, fun j u t hu ht => ?_⟩
            have e : u = vs.getD j undef := by rw [List.getD_eq_getElem?_getD, hu]; rfl
            rw [e]
            exact ow j t (by have := idx_lt ht; omega) ht
        · intro i t ht
          obtain ⟨o1, o2⟩ := outs_get lent _ i t ht
          rw [List.getElem?_drop] at o2
          have hi : i < args.length := by have := idx_lt o1; have := hA.len; omega
          refine ⟨args[i], List.getElem?_eq_getElem hi, ?_⟩
          have := b5 _ t o2
          rw [if_neg (by omega), show xs.length + i - xs.length = i by omega, hg i args[i] (by rw [List.getElem?_take_of_lt (idx_lt o1)]; exact List.getElem?_eq_getElem hi)] at this
          exact this.mono (fun c hc => ⟨hokF c hc _ hH, rfl⟩) _ fun c hc => ⟨hc, rfl⟩
      · cases hf
    · cases hf
  · cases hf
end
end Go.Proofs.YtkkmgjhfjhcdmaaGreatDoor.Mx

/- A function meets what the machine says of it. -/
namespace Go.Proofs.YtkkmgjhfjhcdmaaGreatDoor.Mx
set_option linter.all false
open Go Go.RowKit
section
variable {P : Program} {E : Env}
theorem tmsOf_get : ∀ (l : List AV) (k t : Nat), tget (tmsOf k l) t = if k ≤ t ∧ t < k + l.length then l.getD (t - k) .no else .no
  | [], k, t => by rw [if_neg (by simp only [List.length_nil]; omega)]; rfl
  | x :: r, k, t => by
    simp only [tmsOf, tget, cond_eq_ite, beq_iff_eq]
    by_cases h : k = t
    · subst h
      rw [if_pos rfl, if_pos (by simp only [List.length_cons]; omega)]
      simp
    · rw [if_neg h, tmsOf_get r (k + 1) t]
      by_cases h2 : k ≤ t ∧ t < k + (x :: r).length
      · rw [if_pos h2, if_pos (by simp only [List.length_cons] at h2; omega), show t - k = (t - (k + 1)) + 1 by omega]
        simp
      · rw [if_neg h2, if_neg (by simp only [List.length_cons] at h2; omega)]
theorem thA_tu (k : Nat) (x : AV) (hx : ∀ cs, x ≠ .tu cs) (cs : List AV) : (thA k x).1 ≠ .tu cs := by
  cases x with
  | sl o z r => cases o <;> simp [thA, th1]
  | pb o cs => cases o <;> simp [thA, th1]
  | tu q => exact (hx q rfl).elim
  | _ => simp [thA, th1]
theorem repA_repV {w : World} {ok : Nat → Prop} {γ : Gs} {v : Value} {x : AV} (h : RepA w ok γ v x) : RepV w ok γ v x := by
  cases x <;> first | exact h | exact h.elim
theorem enter_ok {w : World} {okc : Nat → Prop} {G : Fp} {args : List Value} {avs : List AV} (hA : ArgsRep w okc G args avs) {N : Nat} (hN : avs.length ≤ N) :
    Inv w (fun b => ∃ i, G i b) okc args N (enter avs) { tmps := args.toArray ++ Array.replicate (N - args.toArray.size) undef, defers := [] } w := by
  classical
  have hvs : ∀ (i : Nat) (x : AV), avs[i]? = some x → args[i]? = some (args.getD i undef) := fun i x hx => by
    have := idx_lt hx
    have := hA.len
    rw [List.getD_eq_getElem?_getD, List.getElem?_eq_getElem (by omega)]; rfl
  obtain ⟨γd, φd, A, rv⟩ := thAs_ad avs 1 (fun i => args.getD i undef) G hA.dj (fun i x hx => hA.own i _ x (hvs i x hx) hx)
  let γ : Gs := fun n => if 1 ≤ n ∧ n < 1 + wds avs then γd n else none
  let φ : Fp := fun n b => (1 ≤ n ∧ n < 1 + wds avs) ∧ φd n b
  have hγ : Agr 1 (wds avs) γd γ := fun j h1 h2 => by show (if _ then _ else _) = _; rw [if_pos ⟨h1, h2⟩]
  have hφ : ∀ j, 1 ≤ j → j < 1 + wds avs → φ j = φd j := fun j h1 h2 => by funext b; exact propext ⟨fun h => h.2, fun h => ⟨⟨h1, h2⟩, h⟩⟩
  have hsv : (enter avs).sv = syncF (thAs 1 avs).2 (fun _ => none) := by
    show sget (sync _ []) = _
    rw [sget_sync]; rfl
  have hin : ∀ m B, (enter avs).sv m = some B → (m, some B) ∈ (thAs 1 avs).2 := fun m B h => by
    rw [hsv] at h
    by_cases he : ∃ C, (m, C) ∈ (thAs 1 avs).2
    · obtain ⟨C, hC⟩ := he
      rw [syncF_in (A.fn m) hC] at h
      subst h
      exact hC
    · rw [syncF_out fun C hC => he ⟨C, hC⟩] at h
      cases h
  have hok : ∀ b, okc b → okOf w (fun b => ∃ i, G i b) okc φ (enter avs).sv w b := fun b hb => ⟨hA.inn b hb, .inl hb, fun m _ hm => by
    obtain ⟨j, hj⟩ := A.sub m b hm.2
    exact (hA.sep j b hj).2.2 hb⟩
  have htm : ∀ t, t < args.length → (args.toArray ++ Array.replicate (N - args.toArray.size) undef).getD t undef = args.getD t undef := fun t ht => by
    rw [Array.getD_eq_getD_getElem?, Array.getElem?_append_left (by simpa using ht), List.getD_eq_getElem?_getD]
    simp
  refine ⟨γ, φ, ⟨⟨rfl, rfl, rfl, Nat.le_refl _, fun _ _ _ => rfl⟩, Kp.refl w, ⟨rfl, fun b hb => ⟨hA.gl b hb, fun ⟨j, hj⟩ => (hA.sep j b hj).2.2 (hA.gl b hb), hA.inn b (hA.gl b hb)⟩, hA.gw⟩, ?_, ?_, ?_, ?_⟩, ?_, ?_, ?_⟩
  · intro m n _ _ hne b hb hb'
    exact hne (A.dj m n b hb.2 hb'.2)
  · intro m b _ hb
    obtain ⟨j, hj⟩ := A.sub m b hb.2
    exact ⟨(hA.sep j b hj).2.1, .inr ⟨j, hj⟩⟩
  · intro t
    show RepV _ _ _ _ (tget (tmsOf 0 (thAs 1 avs).1) t)
    rw [tmsOf_get]
    split
    · rename_i ht
      rw [thAs_len] at ht
      rw [htm t (by rw [hA.len]; omega), Nat.sub_zero]
      have hx : (thAs 1 avs).1[t]? = some ((thAs 1 avs).1.getD t .no) := by
        rw [List.getD_eq_getElem?_getD, List.getElem?_eq_getElem (by rw [thAs_len]; omega)]; rfl
      exact (repA_repV (rv γ hγ t _ hx)).mono (fun b hb => ⟨hok b hb, rfl⟩) fun _ _ h => h
    · exact Rep.no _
  · intro m B hB
    exact (A.ok m B (hin m B hB) γ φ _ hγ hφ).up (φ' := φ) hok
  · intro n hn
    have hn : 1 + wds avs ≤ n := hn
    show (if _ then _ else _) = _
    rw [if_neg (by omega)]
  · intro i v hi
    have := idx_lt hi
    rw [htm i this, List.getD_eq_getElem?_getD, hi]; rfl
  · have := hA.len
    simp; omega
theorem Inv.take {w0 : World} {M R : Nat → Prop} {args : List Value} {N : Nat} {s : St} {a : Act} {w : World} (h : Inv w0 M R args N s a w) (k : Nat) : Inv w0 M R (args.take k) N s a w := by
  obtain ⟨γ, φ, h1, h2, h3, h4⟩ := h
  refine ⟨γ, φ, h1, h2, fun i v hi => ?_, h4⟩
  have := idx_lt hi
  rw [List.getElem?_take_of_lt (by rw [List.length_take] at this; omega)] at hi
  exact h3 i v hi
/-- WHAT A FUNCTION PROMISES -/
theorem meets_of (hT : TOk P E.T) (hm : P.follows .mixedOrders = true) {f : FuncId} {fn : Func} {c : Code} {rs : List ResultVar} {lent : List Bool} {avs : List AV} {r : Ans} (hf : P.funcs[f]? = some fn) (hb : fn.body = some c) (hn : (fn.name == "runtime.NumGoroutine") = false)
    (hr : fn.results = rs.toArray) (hd : dstOk lent.length fn.ntmps c = true) (hN : avs.length ≤ fn.ntmps) (hl : lent.length ≤ avs.length) (h : aw P E c (Fin E.T rs lent r) (enter avs)) : Meets P f avs r := by
  intro w ok G args hA
  left
  constructor
  · have h1 : fn.name ≠ "runtime.NumGoroutine" := by simpa using hn
    simp [callFunc, hf, h1, hb]
  · refine calls_of_wp hf hb (wp_mono (aw_ok hT hm (np := lent.length) (by rw [List.length_take]; omega) c _ _ _ w hd h ((enter_ok hA hN).take lent.length)) fun e a w1 he => ?_)
    have fin : ∀ s, finish E.T rs lent s = some r → Inv w (fun b => ∃ i, G i b) ok (args.take lent.length) fn.ntmps s a w1 → a.defers = [] ∧ ∃ v, (results fn a.tmps).run P w1 = .ok v w1 ∧ ∃ H, Post w ok G args r v w1 H := fun s hs ⟨γ, φ, hS, _, hg, _⟩ => ⟨hS.df.1, finish_ok hT hA hS hg hr hl hs⟩
    cases e with
    | normal => obtain ⟨s, hs, hI⟩ := he; exact fin s hs hI
    | ret => obtain ⟨s, hs, hI⟩ := he; exact fin s hs hI
    | exit id => obtain ⟨s, hs, hI⟩ := he; exact hs.elim
    | _ => exact he.elim
end
end Go.Proofs.YtkkmgjhfjhcdmaaGreatDoor.Mx

/- Rules by which simp runs a text. -/
namespace Go.Proofs.YtkkmgjhfjhcdmaaGreatDoor.Mx
set_option linter.all false
open Go Go.RowKit
theorem info_of {P : Program} {k : Nat} {t : TypeInfo} (h : P.types[k]? = some t) : P.info? k = some t := by
  have hk := (Array.getElem?_eq_some_iff.1 h).1
  show Tables.info? _ _ = _
  unfold Tables.info?
  rw [if_pos hk]
  exact h
theorem under_of {P : Program} {k : Nat} {t : TypeInfo} (h : P.types[k]? = some t) (hn : ∀ s u, t.desc ≠ .named s u) : P.underlying k = some t.desc := by
  unfold Program.underlying
  rw [info_of h]
  split
  · rename_i s u _ _ _ _ _ _ _ _ _ e
    cases e
    exact (hn _ _ rfl).elim
  · rename_i e; cases e; rfl
  · rename_i e; cases e
theorem tyOk_one {P : Program} {k : Nat} {t : TypeInfo} {z : Value} {ti : TI} (h : P.types[k]? = some t) (hz : t.zero = some z) (hc : z.cells.toList = [z]) (h1 : ti.size = 1) (hs : t.size = 1) (hb : t.bytes = ti.bytes) (hb1 : 1 ≤ ti.bytes) (hzz : ti.zero = [z])
    (hk : KindOk P k ti.kind) (hst : isStr ti.kind = false) (hcz : ti.cz = []) (hcm : ti.cmp = false) (ho : z.oneCell' = true) : TyOk P k ti := by
  refine ⟨⟨t, z, info_of h, by rw [hs, h1], hb, hz, by rw [hc, hzz]⟩, hk, by rw [hzz, h1]; rfl, by rw [h1]; decide, hb1, ?_, by rw [h1]; decide, ?_, ?_, fun _ => h1, fun _ => ⟨t, z, info_of h, hz, hzz⟩, by rw [hcm]; intro h; cases h⟩
  · intro fs hfs
    rw [hfs] at hst
    cases hst
  · intro v hv
    rw [hzz] at hv
    simp only [List.mem_singleton] at hv
    rw [hv]; exact ho
  · intro k z' hh
    rw [hcz] at hh
    simp at hh
def look : List (Nat × List Nat) → Nat → List Nat
  | [], _ => []
  | (k, l) :: r, n => bif k == n then l else look r n
section
variable {P : Program} {E : Env} {id i : Nat} {d : Option Tmp} {ty : TypeId} {ps : String} {af : Array Edge} {g : Option (Nat × Bool)} {K : St → Prop} {s : St}
theorem step_move (x : Operand) : step1 P E id i ⟨d, .move x, ty, ps, af, g⟩ K s ↔ After (fun x => K (s.go d x)) (aop E.T (.move x) ty s.ctr s.tv s.sv) := Iff.rfl
theorem step_assign (x : Operand) : step1 P E id i ⟨d, .assign x, ty, ps, af, g⟩ K s ↔ After (fun x => K (s.go d x)) (aop E.T (.assign x) ty s.ctr s.tv s.sv) := Iff.rfl
theorem step_pick (c x y : Operand) : step1 P E id i ⟨d, .pick c x y, ty, ps, af, g⟩ K s ↔ After (fun x => K (s.go d x)) (aop E.T (.pick c x y) ty s.ctr s.tv s.sv) := Iff.rfl
theorem step_alloc (e : TypeId) : step1 P E id i ⟨d, .alloc e, ty, ps, af, g⟩ K s ↔ After (fun x => K (s.go d x)) (aop E.T (.alloc e) ty s.ctr s.tv s.sv) := Iff.rfl
theorem step_box (e : TypeId) (x : Operand) : step1 P E id i ⟨d, .box e x, ty, ps, af, g⟩ K s ↔ After (fun x => K (s.go d x)) (aop E.T (.box e x) ty s.ctr s.tv s.sv) := Iff.rfl
theorem step_build (t : TypeId) (qs : Array (Nat × Operand)) : step1 P E id i ⟨d, .build t qs, ty, ps, af, g⟩ K s ↔ After (fun x => K (s.go d x)) (aop E.T (.build t qs) ty s.ctr s.tv s.sv) := Iff.rfl
theorem step_buildSlice (t : TypeId) (n : Nat) (qs : Array (Nat × Operand)) : step1 P E id i ⟨d, .buildSlice t n qs, ty, ps, af, g⟩ K s ↔ After (fun x => K (s.go d x)) (aop E.T (.buildSlice t n qs) ty s.ctr s.tv s.sv) := Iff.rfl
theorem step_load (t : TypeId) (x : Operand) : step1 P E id i ⟨d, .load t x, ty, ps, af, g⟩ K s ↔ After (fun x => K (s.go d x)) (aop E.T (.load t x) ty s.ctr s.tv s.sv) := Iff.rfl
theorem step_store (t : TypeId) (x y : Operand) : step1 P E id i ⟨d, .store t x y, ty, ps, af, g⟩ K s ↔ After (fun x => K (s.go d x)) (aop E.T (.store t x y) ty s.ctr s.tv s.sv) := Iff.rfl
theorem step_nilCheck (x : Operand) : step1 P E id i ⟨d, .nilCheck x, ty, ps, af, g⟩ K s ↔ After (fun x => K (s.go d x)) (aop E.T (.nilCheck x) ty s.ctr s.tv s.sv) := Iff.rfl
theorem step_binOp (o : BinOp) (t : TypeId) (x y : Operand) (u : TypeId) : step1 P E id i ⟨d, .binOp o t x y u, ty, ps, af, g⟩ K s ↔ After (fun x => K (s.go d x)) (aop E.T (.binOp o t x y u) ty s.ctr s.tv s.sv) := Iff.rfl
theorem step_unOp (o : UnOp) (t : TypeId) (x : Operand) : step1 P E id i ⟨d, .unOp o t x, ty, ps, af, g⟩ K s ↔ After (fun x => K (s.go d x)) (aop E.T (.unOp o t x) ty s.ctr s.tv s.sv) := Iff.rfl
theorem step_convert (t u : TypeId) (x : Operand) : step1 P E id i ⟨d, .convert t u x, ty, ps, af, g⟩ K s ↔ After (fun x => K (s.go d x)) (aop E.T (.convert t u x) ty s.ctr s.tv s.sv) := Iff.rfl
theorem step_makeSlice (t : TypeId) (x y : Operand) : step1 P E id i ⟨d, .makeSlice t x y, ty, ps, af, g⟩ K s ↔ After (fun x => K (s.go d x)) (aop E.T (.makeSlice t x y) ty s.ctr s.tv s.sv) := Iff.rfl
theorem step_slice (t : TypeId) (x : Operand) (lo hi mx : Option Operand) : step1 P E id i ⟨d, .slice t x lo hi mx, ty, ps, af, g⟩ K s ↔ After (fun x => K (s.go d x)) (aop E.T (.slice t x lo hi mx) ty s.ctr s.tv s.sv) := Iff.rfl
theorem step_fieldAddr (t : TypeId) (x : Operand) (f : Nat) : step1 P E id i ⟨d, .fieldAddr t x f, ty, ps, af, g⟩ K s ↔ After (fun x => K (s.go d x)) (aop E.T (.fieldAddr t x f) ty s.ctr s.tv s.sv) := Iff.rfl
theorem step_indexAddr (t : TypeId) (x y : Operand) : step1 P E id i ⟨d, .indexAddr t x y, ty, ps, af, g⟩ K s ↔ After (fun x => K (s.go d x)) (aop E.T (.indexAddr t x y) ty s.ctr s.tv s.sv) := Iff.rfl
theorem step_index (t : TypeId) (x y : Operand) : step1 P E id i ⟨d, .index t x y, ty, ps, af, g⟩ K s ↔ After (fun x => K (s.go d x)) (aop E.T (.index t x y) ty s.ctr s.tv s.sv) := Iff.rfl
theorem step_extract (x : Operand) (n : Nat) : step1 P E id i ⟨d, .extract x n, ty, ps, af, g⟩ K s ↔ After (fun x => K (s.go d x)) (aop E.T (.extract x n) ty s.ctr s.tv s.sv) := Iff.rfl
theorem step_makeMap (t : TypeId) (x : Option Operand) : step1 P E id i ⟨d, .makeMap t x, ty, ps, af, g⟩ K s ↔ After (fun x => K (s.go d x)) (aop E.T (.makeMap t x) ty s.ctr s.tv s.sv) := Iff.rfl
theorem step_lookup (t : TypeId) (x y : Operand) (q : Bool) : step1 P E id i ⟨d, .lookup t x y q, ty, ps, af, g⟩ K s ↔ After (fun x => K (s.go d x)) (aop E.T (.lookup t x y q) ty s.ctr s.tv s.sv) := Iff.rfl
theorem step_mapUpdate (t : TypeId) (x y z : Operand) : step1 P E id i ⟨d, .mapUpdate t x y z, ty, ps, af, g⟩ K s ↔ After (fun x => K (s.go d x)) (aop E.T (.mapUpdate t x y z) ty s.ctr s.tv s.sv) := Iff.rfl
theorem step_insert (t : TypeId) (x y z : Operand) : step1 P E id i ⟨d, .insert t x y z, ty, ps, af, g⟩ K s ↔ After (fun x => K (s.go d x)) (aop E.T (.insert t x y z) ty s.ctr s.tv s.sv) := Iff.rfl
theorem step_bi (b : Builtin) (xs : Array Operand) (ats : Array TypeId) : step1 P E id i ⟨d, .call { callee := .builtin b, args := xs, argTypes := ats }, ty, ps, af, g⟩ K s ↔ After (fun x => K (s.go d x)) (aop E.T (.call { callee := .builtin b, args := xs, argTypes := ats }) ty s.ctr s.tv s.sv) := Iff.rfl
end
theorem step_call {P : Program} {E : Env} {id i : Nat} {d : Option Tmp} {h : FuncId} {xs : Array Operand} {ats : Array TypeId} {ty : TypeId} {ps : String} {af : Array Edge} {g : Option (Nat × Bool)} {K : St → Prop} {s : St} :
    step1 P E id i ⟨d, .call { callee := .value (.func h), args := xs, argTypes := ats }, ty, ps, af, g⟩ K s ↔ AfterC P h (fun r => After (fun x => K (s.go d x)) (callOut (E.md id i) s.ctr s.sv (xs.toList.map (opv s.tv)) r)) (argsOk s.sv (E.md id i) (xs.toList.map (opv s.tv))) := Iff.rfl
theorem br_split {A B : Prop} {q : Bool} (h1 : q = true → A) (h2 : q = false → B) : Br A B q := by
  unfold Br
  split
  · exact h1 ‹_›
  · exact h2 (by simpa using ‹¬ q = true›)
theorem br_dec {A B p : Prop} {_ : Decidable p} (h1 : p → A) (h2 : ¬ p → B) : Br A B (decide p) := br_split (fun h => h1 (of_decide_eq_true h)) (fun h => h2 (of_decide_eq_false h))
section
variable {P : Program} {E : Env} {Q : Po} {s : St}
theorem aw_skip : aw P E .skip Q s ↔ Q .normal s := Iff.rfl
theorem aw_seq {x y : Code} : aw P E (.seq x y) Q s ↔ aw P E x (Po.then (aw P E y Q) Q) s := Iff.rfl
theorem aw_cond {t : Tmp} {x y : Code} : aw P E (.cond (.tmp t) x y) Q s ↔ CK (aw P E x Q s) (aw P E y Q s) (s.tv t) := Iff.rfl
theorem aw_block {id : Nat} {c : Code} : aw P E (.block id c) Q s ↔ aw P E c (Q.inBlock id) s := Iff.rfl
theorem aw_exit {id : Nat} : aw P E (.exit id) Q s ↔ Q (.exit id) s := Iff.rfl
theorem aw_ret : aw P E .ret Q s ↔ Q .ret s := Iff.rfl
theorem aw_region {id : Nat} {all : Array Oper} : aw P E (.region id all false) Q s ↔ RK P E id all Q s (E.ex id) := Iff.rfl
theorem rk_f {id : Nat} {all : Array Oper} : RK P E id all Q s (false : Bool) ↔ opsW P E id all.toList (Q .normal) 0 all.toList (keep (E.kp id) (frz (E.fz id) s)) := Iff.rfl
theorem loop_ind {c : Code} {α : Type} (I : α → Prop) (st : α → St) (μ : α → Nat) (x0 : α) (hx : I x0) (h0 : norm (E.kp (headId c)) s = st x0)
    (step : ∀ x, I x → (∀ y s, μ y < μ x → I y → norm (E.kp (headId c)) s = st y → aw P E (.loop c) Q s) → aw P E c (Po.then (aw P E (.loop c) Q) Q) (st x)) : aw P E (.loop c) Q s := by
  have key : ∀ n x s, μ x = n → I x → norm (E.kp (headId c)) s = st x → aw P E (.loop c) Q s := by
    intro n
    induction n using Nat.strongRecOn with
    | _ n ih =>
      intro x s hn hI hs
      rw [aw_loop, hs]
      exact step x hI fun y s hlt hIy hsy => ih (μ y) (hn ▸ hlt) y s rfl hIy hsy
  exact key _ x0 s rfl hx h0
end
section
variable {P : Program} {E : Env} {id i : Nat} {d : Option Tmp} {ty : TypeId} {ps : String} {af : Array Edge} {g : Option (Nat × Bool)} {K : Ac → St → Prop} {s : St}
theorem dstep_move (x : Operand) : stepR P E id i ⟨d, .move x, ty, ps, af, g⟩ K s ↔ After (fun dl => K ⟨rdsO (.move x) s, dl.upd.map (·.1)⟩ (s.go d dl)) (aop E.T (.move x) ty s.ctr s.tv s.sv) := Iff.rfl
theorem dstep_assign (x : Operand) : stepR P E id i ⟨d, .assign x, ty, ps, af, g⟩ K s ↔ After (fun dl => K ⟨rdsO (.assign x) s, dl.upd.map (·.1)⟩ (s.go d dl)) (aop E.T (.assign x) ty s.ctr s.tv s.sv) := Iff.rfl
theorem dstep_pick (c x y : Operand) : stepR P E id i ⟨d, .pick c x y, ty, ps, af, g⟩ K s ↔ After (fun dl => K ⟨rdsO (.pick c x y) s, dl.upd.map (·.1)⟩ (s.go d dl)) (aop E.T (.pick c x y) ty s.ctr s.tv s.sv) := Iff.rfl
theorem dstep_alloc (e : TypeId) : stepR P E id i ⟨d, .alloc e, ty, ps, af, g⟩ K s ↔ After (fun dl => K ⟨rdsO (.alloc e) s, dl.upd.map (·.1)⟩ (s.go d dl)) (aop E.T (.alloc e) ty s.ctr s.tv s.sv) := Iff.rfl
theorem dstep_box (e : TypeId) (x : Operand) : stepR P E id i ⟨d, .box e x, ty, ps, af, g⟩ K s ↔ After (fun dl => K ⟨rdsO (.box e x) s, dl.upd.map (·.1)⟩ (s.go d dl)) (aop E.T (.box e x) ty s.ctr s.tv s.sv) := Iff.rfl
theorem dstep_build (t : TypeId) (qs : Array (Nat × Operand)) : stepR P E id i ⟨d, .build t qs, ty, ps, af, g⟩ K s ↔ After (fun dl => K ⟨rdsO (.build t qs) s, dl.upd.map (·.1)⟩ (s.go d dl)) (aop E.T (.build t qs) ty s.ctr s.tv s.sv) := Iff.rfl
theorem dstep_buildSlice (t : TypeId) (n : Nat) (qs : Array (Nat × Operand)) : stepR P E id i ⟨d, .buildSlice t n qs, ty, ps, af, g⟩ K s ↔ After (fun dl => K ⟨rdsO (.buildSlice t n qs) s, dl.upd.map (·.1)⟩ (s.go d dl)) (aop E.T (.buildSlice t n qs) ty s.ctr s.tv s.sv) := Iff.rfl
theorem dstep_load (t : TypeId) (x : Operand) : stepR P E id i ⟨d, .load t x, ty, ps, af, g⟩ K s ↔ After (fun dl => K ⟨rdsO (.load t x) s, dl.upd.map (·.1)⟩ (s.go d dl)) (aop E.T (.load t x) ty s.ctr s.tv s.sv) := Iff.rfl
theorem dstep_store (t : TypeId) (x y : Operand) : stepR P E id i ⟨d, .store t x y, ty, ps, af, g⟩ K s ↔ After (fun dl => K ⟨rdsO (.store t x y) s, dl.upd.map (·.1)⟩ (s.go d dl)) (aop E.T (.store t x y) ty s.ctr s.tv s.sv) := Iff.rfl
theorem dstep_nilCheck (x : Operand) : stepR P E id i ⟨d, .nilCheck x, ty, ps, af, g⟩ K s ↔ After (fun dl => K ⟨rdsO (.nilCheck x) s, dl.upd.map (·.1)⟩ (s.go d dl)) (aop E.T (.nilCheck x) ty s.ctr s.tv s.sv) := Iff.rfl
theorem dstep_binOp (o : BinOp) (t : TypeId) (x y : Operand) (u : TypeId) : stepR P E id i ⟨d, .binOp o t x y u, ty, ps, af, g⟩ K s ↔ After (fun dl => K ⟨rdsO (.binOp o t x y u) s, dl.upd.map (·.1)⟩ (s.go d dl)) (aop E.T (.binOp o t x y u) ty s.ctr s.tv s.sv) := Iff.rfl
theorem dstep_unOp (o : UnOp) (t : TypeId) (x : Operand) : stepR P E id i ⟨d, .unOp o t x, ty, ps, af, g⟩ K s ↔ After (fun dl => K ⟨rdsO (.unOp o t x) s, dl.upd.map (·.1)⟩ (s.go d dl)) (aop E.T (.unOp o t x) ty s.ctr s.tv s.sv) := Iff.rfl
theorem dstep_convert (t u : TypeId) (x : Operand) : stepR P E id i ⟨d, .convert t u x, ty, ps, af, g⟩ K s ↔ After (fun dl => K ⟨rdsO (.convert t u x) s, dl.upd.map (·.1)⟩ (s.go d dl)) (aop E.T (.convert t u x) ty s.ctr s.tv s.sv) := Iff.rfl
theorem dstep_makeSlice (t : TypeId) (x y : Operand) : stepR P E id i ⟨d, .makeSlice t x y, ty, ps, af, g⟩ K s ↔ After (fun dl => K ⟨rdsO (.makeSlice t x y) s, dl.upd.map (·.1)⟩ (s.go d dl)) (aop E.T (.makeSlice t x y) ty s.ctr s.tv s.sv) := Iff.rfl
theorem dstep_slice (t : TypeId) (x : Operand) (lo hi mx : Option Operand) : stepR P E id i ⟨d, .slice t x lo hi mx, ty, ps, af, g⟩ K s ↔ After (fun dl => K ⟨rdsO (.slice t x lo hi mx) s, dl.upd.map (·.1)⟩ (s.go d dl)) (aop E.T (.slice t x lo hi mx) ty s.ctr s.tv s.sv) := Iff.rfl
theorem dstep_fieldAddr (t : TypeId) (x : Operand) (f : Nat) : stepR P E id i ⟨d, .fieldAddr t x f, ty, ps, af, g⟩ K s ↔ After (fun dl => K ⟨rdsO (.fieldAddr t x f) s, dl.upd.map (·.1)⟩ (s.go d dl)) (aop E.T (.fieldAddr t x f) ty s.ctr s.tv s.sv) := Iff.rfl
theorem dstep_indexAddr (t : TypeId) (x y : Operand) : stepR P E id i ⟨d, .indexAddr t x y, ty, ps, af, g⟩ K s ↔ After (fun dl => K ⟨rdsO (.indexAddr t x y) s, dl.upd.map (·.1)⟩ (s.go d dl)) (aop E.T (.indexAddr t x y) ty s.ctr s.tv s.sv) := Iff.rfl
theorem dstep_index (t : TypeId) (x y : Operand) : stepR P E id i ⟨d, .index t x y, ty, ps, af, g⟩ K s ↔ After (fun dl => K ⟨rdsO (.index t x y) s, dl.upd.map (·.1)⟩ (s.go d dl)) (aop E.T (.index t x y) ty s.ctr s.tv s.sv) := Iff.rfl
theorem dstep_extract (x : Operand) (n : Nat) : stepR P E id i ⟨d, .extract x n, ty, ps, af, g⟩ K s ↔ After (fun dl => K ⟨rdsO (.extract x n) s, dl.upd.map (·.1)⟩ (s.go d dl)) (aop E.T (.extract x n) ty s.ctr s.tv s.sv) := Iff.rfl
theorem dstep_makeMap (t : TypeId) (x : Option Operand) : stepR P E id i ⟨d, .makeMap t x, ty, ps, af, g⟩ K s ↔ After (fun dl => K ⟨rdsO (.makeMap t x) s, dl.upd.map (·.1)⟩ (s.go d dl)) (aop E.T (.makeMap t x) ty s.ctr s.tv s.sv) := Iff.rfl
theorem dstep_lookup (t : TypeId) (x y : Operand) (q : Bool) : stepR P E id i ⟨d, .lookup t x y q, ty, ps, af, g⟩ K s ↔ After (fun dl => K ⟨rdsO (.lookup t x y q) s, dl.upd.map (·.1)⟩ (s.go d dl)) (aop E.T (.lookup t x y q) ty s.ctr s.tv s.sv) := Iff.rfl
theorem dstep_mapUpdate (t : TypeId) (x y z : Operand) : stepR P E id i ⟨d, .mapUpdate t x y z, ty, ps, af, g⟩ K s ↔ After (fun dl => K ⟨rdsO (.mapUpdate t x y z) s, dl.upd.map (·.1)⟩ (s.go d dl)) (aop E.T (.mapUpdate t x y z) ty s.ctr s.tv s.sv) := Iff.rfl
theorem dstep_insert (t : TypeId) (x y z : Operand) : stepR P E id i ⟨d, .insert t x y z, ty, ps, af, g⟩ K s ↔ After (fun dl => K ⟨rdsO (.insert t x y z) s, dl.upd.map (·.1)⟩ (s.go d dl)) (aop E.T (.insert t x y z) ty s.ctr s.tv s.sv) := Iff.rfl
theorem dstep_bi (b : Builtin) (xs : Array Operand) (ats : Array TypeId) : stepR P E id i ⟨d, .call { callee := .builtin b, args := xs, argTypes := ats }, ty, ps, af, g⟩ K s ↔ After (fun dl => K ⟨rdsO (.call { callee := .builtin b, args := xs, argTypes := ats }) s, dl.upd.map (·.1)⟩ (s.go d dl)) (aop E.T (.call { callee := .builtin b, args := xs, argTypes := ats }) ty s.ctr s.tv s.sv) := Iff.rfl
end
theorem dstep_call {P : Program} {E : Env} {id i : Nat} {d : Option Tmp} {h : FuncId} {xs : Array Operand} {ats : Array TypeId} {ty : TypeId} {ps : String} {af : Array Edge} {g : Option (Nat × Bool)} {K : Ac → St → Prop} {s : St} :
    stepR P E id i ⟨d, .call { callee := .value (.func h), args := xs, argTypes := ats }, ty, ps, af, g⟩ K s ↔ AfterC P h (fun r => After (fun x => K ⟨rdsO (.call { callee := .value (.func h), args := xs, argTypes := ats }) s, x.upd.map (·.1)⟩ (s.go d x)) (callOut (E.md id i) s.ctr s.sv (xs.toList.map (opv s.tv)) r)) (argsOk s.sv (E.md id i) (xs.toList.map (opv s.tv))) := Iff.rfl
theorem aw_draw {P : Program} {E : Env} {id : Nat} {all : Array Oper} {Q : Po} {s : St} (h : okD all.toList (E.dp id) = true) : aw P E (.region id all true) Q s ↔ drW P E id (E.dp id) all.toList (Q .normal) 0 all.toList [] (keep (E.kp id) (frz (E.fz id) s)) := ⟨fun h' => h'.2, fun h' => ⟨h, h'⟩⟩
theorem wr_id {n : Int} (h1 : -9223372036854775808 ≤ n) (h2 : n < 9223372036854775808) : wr .i64 n = n := by
  show wrap64 n = n
  unfold wrap64
  omega
theorem ofNat_nn (n : Nat) : (0 ≤ (n : Int)) = True := by simp
end Go.Proofs.YtkkmgjhfjhcdmaaGreatDoor.Mx

/- Types: structs. -/
namespace Go.Proofs.YtkkmgjhfjhcdmaaGreatDoor.Mx
set_option linter.all false
open Go Go.RowKit
def czB (c : List (Option Nat)) (vs : List Value) : Bool := (List.range c.length).all fun k => match c[k]?, vs[k]? with
  | some (some _), some (.slice none 0 0) => true
  | some (some _), _ => false
  | _, _ => true
theorem czB_ok (c : List (Option Nat)) (vs : List Value) (hb : czB c vs = true) (k z : Nat) (h : c[k]? = some (some z)) : vs[k]? = some (.slice none 0 0) := by
  have := List.all_eq_true.1 hb k (List.mem_range.2 (idx_lt h))
  rw [h] at this
  split at this
  · assumption
  · cases this
  · rename_i h1 _
    exact (h1 _ rfl).elim
def fldsB (P : Program) (fs : List (Nat × TypeId)) : Bool := fs.all fun q => (P.info? q.2).isSome
theorem flds_ok {P : Program} {fs : List (Nat × TypeId)} (h : fldsB P fs = true) : ∀ q ∈ fs, ∃ i, P.info? q.2 = some i := fun q hq =>
  Option.isSome_iff_exists.1 (List.all_eq_true.1 h q hq)
theorem tyOk_str {P : Program} {k : Nat} {t : TypeInfo} {z : Value} {ti : TI} {fs : List (Nat × TypeId)} (h : P.info? k = some t) (hz : t.zero = some z) (hc : z.cells.toList = ti.zero) (hs : t.size = ti.size) (hb : t.bytes = ti.bytes)
    (hn : (decide (ti.zero.length = ti.size) && decide (ti.size ≤ 60) && decide (1 ≤ ti.bytes) && decide (1 ≤ ti.size)) = true) (hf : ti.kind = .struct fs) (hk : ∃ a : Array Field, P.underlying k = some (.struct a) ∧ (a.toList.map fun f => (f.offset, f.type)) = fs)
    (ho : ti.zero.all (·.oneCell') = true) (hfl : ∀ q ∈ fs, ∃ i, P.info? q.2 = some i) (hcz : czB ti.cz ti.zero = true) (hst : isStr ti.kind = true) (hcm : ti.cmp = false) : TyOk P k ti := by
  simp only [Bool.and_eq_true, decide_eq_true_eq] at hn
  refine ⟨⟨t, z, h, hs, hb, hz, hc⟩, by rw [hf]; exact hk, hn.1.1.1, hn.1.1.2, hn.1.2, ?_, hn.2, fun v hv => List.all_eq_true.1 ho v hv, czB_ok _ _ hcz, fun hh => ?_, fun hh => ?_, by rw [hcm]; intro h; cases h⟩
  · intro fs' hfs'
    rw [hf] at hfs'
    cases hfs'
    exact hfl
  · rw [hst] at hh; cases hh
  · rw [hst] at hh; cases hh
theorem tyOk_sl {P : Program} {k : Nat} {t : TypeInfo} {z : Value} {ti : TI} (h : P.types[k]? = some t) (hz : t.zero = some z) (hc : z.cells.toList = [z]) (h1 : ti.size = 1) (hs : t.size = 1) (hb : t.bytes = ti.bytes) (hb1 : 1 ≤ ti.bytes) (hzz : ti.zero = [z])
    (hk : KindOk P k ti.kind) (hst : isStr ti.kind = false) (hcz : czB ti.cz ti.zero = true) (hcm : ti.cmp = false) (ho : z.oneCell' = true) : TyOk P k ti := by
  refine ⟨⟨t, z, info_of h, by rw [hs, h1], hb, hz, by rw [hc, hzz]⟩, hk, by rw [hzz, h1]; rfl, by rw [h1]; decide, hb1, ?_, by rw [h1]; decide, ?_, czB_ok _ _ hcz, fun _ => h1, fun _ => ⟨t, z, info_of h, hz, hzz⟩, by rw [hcm]; intro h; cases h⟩
  · intro fs hfs
    rw [hfs] at hst
    cases hst
  · intro v hv
    rw [hzz] at hv
    simp only [List.mem_singleton] at hv
    rw [hv]; exact ho
theorem nm_of {P : Program} {k : Nat} {a : Array Field} (h : P.underlying k = some (.struct a)) (hb : (a.toList.all fun f => f.name != "_") = true) : ∀ fs, P.underlying k = some (.struct fs) → ∀ f ∈ fs, f.name ≠ "_" := by
  intro fs h2 f hf
  rw [h] at h2
  cases h2
  have := List.all_eq_true.1 hb f (by simpa using hf)
  simpa using this
theorem tyOk_strC {P : Program} {k : Nat} {t : TypeInfo} {z : Value} {ti : TI} {fs : List (Nat × TypeId)} (h : P.info? k = some t) (hz : t.zero = some z) (hc : z.cells.toList = ti.zero) (hs : t.size = ti.size) (hb : t.bytes = ti.bytes)
    (hn : (decide (ti.zero.length = ti.size) && decide (ti.size ≤ 60) && decide (1 ≤ ti.bytes) && decide (1 ≤ ti.size)) = true) (hf : ti.kind = .struct fs) (hk : ∃ a : Array Field, P.underlying k = some (.struct a) ∧ (a.toList.map fun f => (f.offset, f.type)) = fs)
    (ho : ti.zero.all (·.oneCell') = true) (hfl : ∀ q ∈ fs, ∃ i, P.info? q.2 = some i) (hcz : czB ti.cz ti.zero = true) (hst : isStr ti.kind = true) (c1 : P.stoodInHeld k = false) (c2 : P.eqGuardType P.depth k = false)
    (c3 : ∀ fs, P.underlying k = some (.struct fs) → ∀ f ∈ fs, f.name ≠ "_") : TyOk P k ti := by
  simp only [Bool.and_eq_true, decide_eq_true_eq] at hn
  refine ⟨⟨t, z, h, hs, hb, hz, hc⟩, by rw [hf]; exact hk, hn.1.1.1, hn.1.1.2, hn.1.2, ?_, hn.2, fun v hv => List.all_eq_true.1 ho v hv, czB_ok _ _ hcz, fun hh => ?_, fun hh => ?_, fun _ => ⟨c1, c2, c3⟩⟩
  · intro fs' hfs'
    rw [hf] at hfs'
    cases hfs'
    exact hfl
  · rw [hst] at hh; cases hh
  · rw [hst] at hh; cases hh
end Go.Proofs.YtkkmgjhfjhcdmaaGreatDoor.Mx
