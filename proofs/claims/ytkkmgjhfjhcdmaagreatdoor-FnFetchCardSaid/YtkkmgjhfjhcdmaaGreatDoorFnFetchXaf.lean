/- A machine over values for Go functions, proved sound, and functions run on it: texts Q1, Q2, Q3, Q4, Q5. -/
import Derived.Test.YtkkmgjhfjhcdmaaGreatDoorFnFetchXae
set_option linter.all false
namespace Go.Proofs.YtkkmgjhfjhcdmaaGreatDoor.Mx
open Go Go.RowKit
section
variable {w w' : World} {ok ok' F : Nat → Prop} {γ : Gs}
def OwnA (w : World) (ok F : Nat → Prop) (v : Value) : AV → Prop
  | .ag cs => ∃ (vs : List Value) (Fs : Nat → Nat → Prop), v = .agg vs.toArray ∧ vs.length = cs.length ∧ (∀ j b, Fs j b → F b) ∧ (∀ i j b, Fs i b → Fs j b → i = j) ∧
      ∀ (j : Nat) (v : Value) (x : AV), vs[j]? = some v → cs[j]? = some x → Own w ok (Fs j) v x ∧ v.oneCell' = true
  | x => Own w ok F v x
def OwnV (w : World) (ok F : Nat → Prop) (v : Value) : AV → Prop
  | .tu cs => ∃ (vs : List Value) (Fs : Nat → Nat → Prop), v = .tuple vs.toArray ∧ vs.length = cs.length ∧ (∀ j b, Fs j b → F b) ∧ (∀ i j b, Fs i b → Fs j b → i = j) ∧
      ∀ (j : Nat) (v : Value) (x : AV), vs[j]? = some v → cs[j]? = some x → OwnA w ok (Fs j) v x
  | x => OwnA w ok F v x
theorem OwnA.mono (h : ∀ b, ok b → ok' b ∧ w'.heap[b]? = w.heap[b]?) {v : Value} {x : AV} (r : OwnA w ok F v x) (F' : Nat → Prop) (hF : ∀ b, F b → F' b ∧ w'.heap[b]? = w.heap[b]?) : OwnA w' ok' F' v x := by
  cases x with
  | ag cs =>
    obtain ⟨vs, Fs, h1, h2, h3, h4, h5⟩ := r
    exact ⟨vs, Fs, h1, h2, fun j b hb => (hF b (h3 j b hb)).1, h4, fun j v x hv hx => ⟨(h5 j v x hv hx).1.mono h _ fun b hb => ⟨hb, (hF b (h3 j b hb)).2⟩, (h5 j v x hv hx).2⟩⟩
  | _ => exact Own.mono h r _ hF
theorem OwnV.mono (h : ∀ b, ok b → ok' b ∧ w'.heap[b]? = w.heap[b]?) {v : Value} {x : AV} (r : OwnV w ok F v x) (F' : Nat → Prop) (hF : ∀ b, F b → F' b ∧ w'.heap[b]? = w.heap[b]?) : OwnV w' ok' F' v x := by
  cases x with
  | tu cs =>
    obtain ⟨vs, Fs, h1, h2, h3, h4, h5⟩ := r
    exact ⟨vs, Fs, h1, h2, fun j b hb => (hF b (h3 j b hb)).1, h4, fun j v x hv hx => (h5 j v x hv hx).mono h _ fun b hb => ⟨hb, (hF b (h3 j b hb)).2⟩⟩
  | _ => simp only [OwnV] at r ⊢; exact OwnA.mono h r _ hF
theorem own_any2 {v : Value} {x : AV} (hx : own2 x = true) (r : Own w ok F v x) : Own w ok' F v x := by
  cases r with
  | rd _ _ _ h1 h2 hr =>
    refine .rd _ _ _ h1 h2 (isSc_rep ?_ hr)
    cases x <;> simp_all [own2, isSc]
  | nil => exact .nil _ _
  | emp => exact .emp _ _ _ _
  | sl _ z b off cap rows cur e fr Fs h1 h2 h3 h4 h5 h6 h7 h8 h9 h10 h11 =>
    refine .sl _ z b off cap rows cur e fr Fs h1 h2 h3 h4 h5 h6 h7 h8 h9 h10 fun i row j x hi hj => isSc_own ?_ (h11 i row j x hi hj)
    exact List.all_eq_true.1 (List.all_eq_true.1 hx row (List.mem_of_getElem? hi)) x (List.mem_of_getElem? hj)
  | pb => simp [own2] at hx
theorem own_any1 {v : Value} {x : AV} (hx : own1 x = true) (r : Own w ok F v x) : Own w ok' F v x := by
  cases r with
  | rd _ _ _ h1 h2 hr =>
    refine .rd _ _ _ h1 h2 (isSc_rep ?_ hr)
    cases x <;> simp_all [own1, isSc]
  | nil => exact .nil _ _
  | emp => exact .emp _ _ _ _
  | sl _ z b off cap rows cur e fr Fs h1 h2 h3 h4 h5 h6 h7 h8 h9 h10 h11 =>
    refine .sl _ z b off cap rows cur e fr Fs h1 h2 h3 h4 h5 h6 h7 h8 h9 h10 fun i row j x hi hj => own_any2 ?_ (h11 i row j x hi hj)
    exact List.all_eq_true.1 (List.all_eq_true.1 hx row (List.mem_of_getElem? hi)) x (List.mem_of_getElem? hj)
  | pb => simp [own1] at hx
theorem own_anyA {v : Value} {x : AV} (hx : ownA x = true) (r : OwnA w ok F v x) : OwnA w ok' F v x := by
  cases x with
  | ag cs =>
    obtain ⟨vs, Fs, h1, h2, h3, h4, h5⟩ := r
    exact ⟨vs, Fs, h1, h2, h3, h4, fun j v x hv hj => ⟨own_any1 (List.all_eq_true.1 hx x (List.mem_of_getElem? hj)) (h5 j v x hv hj).1, (h5 j v x hv hj).2⟩⟩
  | pb o cs =>
    cases o with
    | false => simp [ownA, own1] at hx
    | true =>
      cases r with
      | rd _ _ _ h1 h2 => exact (h2 _ rfl).elim
      | pb _ b cs cur e fr Fs h1 h2 h3 h4 h5 h6 h7 h8 => exact Own.pb _ b cs cur e fr Fs h1 h2 h3 h4 h5 h6 h7 fun j x hj => own_any1 (List.all_eq_true.1 hx x (List.mem_of_getElem? hj)) (h8 j x hj)
  | _ => exact own_any1 hx r
theorem own_anyV {v : Value} {x : AV} (hx : ownV x = true) (r : OwnV w ok F v x) : OwnV w ok' F v x := by
  cases x with
  | tu cs =>
    obtain ⟨vs, Fs, h1, h2, h3, h4, h5⟩ := r
    exact ⟨vs, Fs, h1, h2, h3, h4, fun j v x hv hj => own_anyA (List.all_eq_true.1 hx x (List.mem_of_getElem? hj)) (h5 j v x hv hj)⟩
  | _ => simp only [OwnV] at r ⊢; exact own_anyA hx r

structure ArgsRep (w : World) (ok : Nat → Prop) (G : Fp) (args : List Value) (avs : List AV) : Prop where
  len : args.length = avs.length
  own : ∀ (i : Nat) (v : Value) (x : AV), args[i]? = some v → avs[i]? = some x → OwnA w ok (G i) v x
  dj : ∀ i j b, G i b → G j b → i = j
  sep : ∀ i b, G i b → i < avs.length ∧ b < w.heap.size ∧ ¬ ok b
  inn : ∀ b, ok b → b < w.heap.size
  gl : ∀ b, b < NG → ok b
  gw : GP w
def okP (w : World) (ok : Nat → Prop) (G H : Fp) (w' : World) (b : Nat) : Prop := b < w'.heap.size ∧ (ok b ∨ w.heap.size ≤ b ∨ ∃ i, G i b) ∧ ∀ i, ¬ H i b
structure Post (w : World) (ok : Nat → Prop) (G : Fp) (args : List Value) (r : Ans) (v : Value) (w' : World) (H : Fp) : Prop where
  fr : Fr w (fun b => ∃ i, G i b) w'
  kp : Kp w w'
  dj : ∀ i j b, H i b → H j b → i = j
  new : ∀ i b, H i b → b < w'.heap.size ∧ (w.heap.size ≤ b ∨ ∃ j, G j b)
  res : OwnV w' (okP w ok G H w') (H 0) v r.1
  out : ∀ (i : Nat) (t : AV), r.2[i]? = some (some t) → ∃ u, args[i]? = some u ∧ OwnA w' (okP w ok G H w') (H (i + 1)) u t
def Meets (P : Program) (f : FuncId) (avs : List AV) (r : Ans) : Prop := ∀ (w : World) (ok : Nat → Prop) (G : Fp) (args : List Value), ArgsRep w ok G args avs →
  ((callFunc f args.toArray).run P w = .ok (.enter f args.toArray) w ∧ Calls P f args.toArray w fun e w' => match e with
    | .returned v => ∃ H, Post w ok G args r v w' H
    | _ => False) ∨ ∃ v w' H, (callFunc f args.toArray).run P w = .ok (.value v) w' ∧ Post w ok G args r v w' H

structure Ad (w : World) (ok F : Nat → Prop) (k n : Nat) (u : Up) (γd : Gs) (φd : Fp) : Prop where
  rng : ∀ m B, (m, B) ∈ u → k ≤ m ∧ m < k + n ∧ ∃ C, B = some C
  fn : ∀ m B B', (m, B) ∈ u → (m, B') ∈ u → B = B'
  sub : ∀ m b, φd m b → F b
  dj : ∀ m m' b, φd m b → φd m' b → m = m'
  ok : ∀ m B, (m, some B) ∈ u → ∀ (γ' : Gs) (φ' : Fp) (sv' : Sv), (∀ j, k ≤ j → j < k + n → γ' j = γd j) → (∀ j, k ≤ j → j < k + n → φ' j = φd j) → BlkOk w ok γ' φ' sv' m B
def cat (k : Nat) {α : Type} (f g : Nat → α) : Nat → α := fun m => if m < k then f m else g m
theorem Ad.app {F1 F2 : Nat → Prop} {k n1 n2 : Nat} {u1 u2 u : Up} {γ1 γ2 : Gs} {φ1 φ2 : Fp} (h1 : Ad w ok F1 k n1 u1 γ1 φ1) (h2 : Ad w ok F2 (k + n1) n2 u2 γ2 φ2)
    (hd : ∀ b, F1 b → ¬ F2 b) (s1 : ∀ b, F1 b → F b) (s2 : ∀ b, F2 b → F b) (hu : ∀ p, p ∈ u ↔ p ∈ u1 ∨ p ∈ u2) : Ad w ok F k (n1 + n2) u (cat (k + n1) γ1 γ2) (cat (k + n1) φ1 φ2) := by
  constructor
  · intro m B h
    rcases (hu _).1 h with h | h
    · have := h1.rng m B h; exact ⟨this.1, by omega, this.2.2⟩
    · have := h2.rng m B h; exact ⟨by omega, by omega, this.2.2⟩
  · intro m B B' h h'
    rcases (hu _).1 h with h | h <;> rcases (hu _).1 h' with h' | h'
    · exact h1.fn m B B' h h'
    · have := h1.rng m B h; have := h2.rng m B' h'; omega
    · have := h2.rng m B h; have := h1.rng m B' h'; omega
    · exact h2.fn m B B' h h'
  · intro m b h
    unfold cat at h
    split at h
    · exact s1 b (h1.sub m b h)
    · exact s2 b (h2.sub m b h)
  · intro m m' b h h'
    unfold cat at h h'
    split at h <;> split at h'
    · exact h1.dj m m' b h h'
    · exact (hd b (h1.sub m b h) (h2.sub m' b h')).elim
    · exact (hd b (h1.sub m' b h') (h2.sub m b h)).elim
    · exact h2.dj m m' b h h'
  · intro m B h γ' φ' sv' hγ hφ
    rcases (hu _).1 h with h | h
    · exact h1.ok m B h γ' φ' sv' (fun j a b => by rw [hγ j a (by omega)]; simp [cat]; omega) (fun j a b => by rw [hφ j a (by omega)]; simp [cat]; omega)
    · exact h2.ok m B h γ' φ' sv' (fun j a b => by rw [hγ j (by omega) (by omega)]; simp [cat]; omega) (fun j a b => by rw [hφ j (by omega) (by omega)]; simp [cat]; omega)
theorem Ad.none {k n : Nat} : Ad w ok F k n [] (fun _ => none) (fun _ _ => False) := ⟨fun _ _ h => by simp at h, fun _ _ _ h => by simp at h, fun _ _ h => h.elim, fun _ _ _ h => h.elim, fun _ _ h => by simp at h⟩
theorem Ad.wide {k n n' : Nat} {F' : Nat → Prop} {u : Up} {γd : Gs} {φd : Fp} (h : Ad w ok F k n u γd φd) (hn : n ≤ n') (hF : ∀ b, F b → F' b) : Ad w ok F' k n' u γd φd :=
  ⟨fun m B hm => by have := h.rng m B hm; exact ⟨this.1, by omega, this.2.2⟩, h.fn, fun m b hb => hF b (h.sub m b hb), h.dj, fun m B hm γ' φ' sv' hγ hφ => h.ok m B hm γ' φ' sv' (fun j a b => hγ j a (by omega)) (fun j a b => hφ j a (by omega))⟩
def Agr (k n : Nat) (γd γ' : Gs) : Prop := ∀ j, k ≤ j → j < k + n → γ' j = γd j
theorem th1_ad {v : Value} {x : AV} (k : Nat) (h : Own w ok F v x) : ∃ γd φd, Ad w ok F k 1 (th1 k x).2 γd φd ∧ ∀ γ', Agr k 1 γd γ' → RepC w ok γ' v (th1 k x).1 := by
  rcases own_cases h with ⟨z, r, rfl⟩ | ⟨cs, rfl⟩ | ⟨hr, h1, h2⟩
  · refine ⟨fun _ => some (v, z), fun m b => m = k ∧ F b, ⟨?_, ?_, fun m b h => h.2, fun m m' b h h' => h.1.trans h'.1.symm, ?_⟩, fun γ' hg => ?_⟩
    · intro m B hm
      simp only [th1, List.mem_singleton, Prod.mk.injEq] at hm
      exact ⟨by omega, by omega, _, hm.2⟩
    · intro m B B' hm hm'
      simp only [th1, List.mem_singleton, Prod.mk.injEq] at hm hm'
      rw [hm.2, hm'.2]
    · intro m B hm γ' φ' sv' hg hp
      simp only [th1, List.mem_singleton, Prod.mk.injEq, Option.some.injEq] at hm
      obtain ⟨rfl, rfl⟩ := hm
      refine ⟨v, hg m (by omega) (by omega), h.mono (fun b hb => ⟨hb, rfl⟩) _ fun b hb => ⟨?_, rfl⟩⟩
      rw [hp m (by omega) (by omega)]
      exact ⟨rfl, hb⟩
    · obtain ⟨_, _, _, _, _, hs⟩ := slLen h
      exact ⟨v, z, hg k (by omega) (by omega), hs⟩
  · exact ⟨_, _, Ad.none, fun _ _ => Rep.no v⟩
  · have e : th1 k x = (x, []) := by
      cases x with
      | sl o z r => cases o; rfl; exact (h1 _ _ rfl).elim
      | pb o cs => cases o; rfl; exact (h2 _ rfl).elim
      | _ => rfl
    rw [e]
    exact ⟨_, _, Ad.none, fun _ _ => rep_repC hr⟩
theorem thL_len (cs : Row) : ∀ k, (thL k cs).1.length = cs.length := by
  induction cs with
  | nil => intro k; rfl
  | cons x r ih => intro k; simp [thL, ih]
theorem thL_ad : ∀ (cs : Row) (k : Nat) (vs : Nat → Value) (Fs : Nat → Nat → Prop), (∀ i j b, Fs i b → Fs j b → i = j) → (∀ (j : Nat) (x : AV), cs[j]? = some x → Own w ok (Fs j) (vs j) x) →
    ∃ γd φd, Ad w ok (fun b => ∃ j, Fs j b) k cs.length (thL k cs).2 γd φd ∧ ∀ γ', Agr k cs.length γd γ' → ∀ (j : Nat) (x : AV), (thL k cs).1[j]? = some x → RepC w ok γ' (vs j) x
  | [], k, vs, Fs, hd, ho => ⟨_, _, Ad.none, fun γ' _ j x hj => by simp [thL] at hj⟩
  | x :: r, k, vs, Fs, hd, ho => by
    obtain ⟨γ1, φ1, a1, r1⟩ := th1_ad k (ho 0 x rfl)
    obtain ⟨γ2, φ2, a2, r2⟩ := thL_ad r (k + 1) (fun j => vs (j + 1)) (fun j => Fs (j + 1)) (fun i j b h h' => by have := hd _ _ b h h'; omega) (fun j x hj => ho (j + 1) x (by simpa using hj))
    refine ⟨_, _, (Ad.app (F := fun b => ∃ j, Fs j b) a1 a2 ?_ (fun b h => ⟨0, h⟩) (fun b ⟨j, h⟩ => ⟨j + 1, h⟩) (u := (thL k (x :: r)).2) ?_).wide (by simp only [List.length_cons]; omega) (fun _ h => h), fun γ' hg j y hj => ?_⟩
    · rintro b h ⟨j, h'⟩
      have := hd _ _ b h h'
      omega
    · intro p
      simp [thL]
    · simp only [List.length_cons] at hg
      cases j with
      | zero =>
        simp only [thL, List.getElem?_cons_zero, Option.some.injEq] at hj
        subst hj
        exact r1 γ' fun j a b => by rw [hg j a (by omega)]; simp [cat]; omega
      | succ j =>
        simp only [thL, List.getElem?_cons_succ] at hj
        exact r2 γ' (fun j a b => by rw [hg j (by omega) (by omega)]; simp [cat]; omega) j y hj
theorem thA_ad {v : Value} {x : AV} (k : Nat) (h : OwnA w ok F v x) : ∃ γd φd, Ad w ok F k (wd x) (thA k x).2 γd φd ∧ ∀ γ', Agr k (wd x) γd γ' → RepA w ok γ' v (thA k x).1 := by
  have small : ∀ y, wd y = 1 → thA k y = th1 k y → (∀ cs, (th1 k y).1 ≠ .ag cs) → Own w ok F v y → ∃ γd φd, Ad w ok F k (wd y) (thA k y).2 γd φd ∧ ∀ γ', Agr k (wd y) γd γ' → RepA w ok γ' v (thA k y).1 := by
    intro y h1 h2 h3 ho
    rw [h1, h2]
    obtain ⟨γd, φd, a, r⟩ := th1_ad k ho
    refine ⟨γd, φd, a, fun γ' hg => ?_⟩
    have := r γ' hg
    revert this h3
    generalize (th1 k y).1 = q
    intro h3 this
    cases q <;> first | exact this | exact (h3 _ rfl).elim
  cases x with
  | ag cs =>
    obtain ⟨vs, Fs, rfl, h2, h3, h4, h5⟩ := h
    have hv : ∀ j x, cs[j]? = some x → vs[j]? = some (vs.getD j undef) := fun j x hj => by
      have := idx_lt hj
      rw [List.getD_eq_getElem?_getD, List.getElem?_eq_getElem (by omega)]; rfl
    obtain ⟨γd, φd, a, r⟩ := thL_ad cs k (fun j => vs.getD j undef) Fs h4 (fun j x hj => (h5 j _ x (hv j x hj) hj).1)
    refine ⟨γd, φd, a.wide (Nat.le_refl _) (fun b ⟨j, h⟩ => h3 j b h), fun γ' hg => ⟨vs, rfl, by simp only [thA, thL_len]; exact h2, fun j u y hu hy => ?_⟩⟩
    have hj : j < cs.length := by have := idx_lt hy; rw [thL_len] at this; exact this
    have e : u = vs.getD j undef := by rw [List.getD_eq_getElem?_getD, hu]; rfl
    subst e
    exact ⟨r γ' hg j y hy, (h5 j _ _ hu (List.getElem?_eq_getElem hj)).2⟩
  | pb o cs =>
    cases o with
    | false => exact small _ rfl rfl (fun cs h => by simp [th1] at h) h
    | true =>
      cases h with
      | rd _ _ _ h1 h2 => exact (h2 _ rfl).elim
      | pb _ b cs cur e fr Fs h1 h2 h3 h4 h5 h6 h7 h8 =>
        obtain ⟨γ2, φ2, a2, r2⟩ := thL_ad cs (k + 1) (fun j => cur.getD j undef) Fs h6 h8
        refine ⟨cat (k + 1) (fun _ => some (.pointer (some ⟨b, 0, none⟩), 0)) γ2, cat (k + 1) (fun m c => m = k ∧ c = b) φ2, ?_, fun γ' hg => ?_⟩
        · constructor
          · intro m B hm
            simp only [thA, List.mem_append, List.mem_singleton, Prod.mk.injEq] at hm
            rcases hm with hm | ⟨rfl, rfl⟩
            · have := a2.rng m B hm; simp only [wd]; exact ⟨by omega, by omega, this.2.2⟩
            · simp only [wd]; exact ⟨by omega, by omega, _, rfl⟩
          · intro m B B' hm hm'
            simp only [thA, List.mem_append, List.mem_singleton, Prod.mk.injEq] at hm hm'
            rcases hm with hm | ⟨rfl, rfl⟩ <;> rcases hm' with hm' | ⟨he, rfl⟩
            · exact a2.fn m B B' hm hm'
            · have := a2.rng m B hm; omega
            · have := a2.rng _ B' hm'; omega
            · rfl
          · intro m c hc
            unfold cat at hc
            split at hc
            · rw [hc.2]; exact h1
            · obtain ⟨j, hj⟩ := a2.sub m c hc; exact (h5 j c hj).1
          · intro m m' c hc hc'
            unfold cat at hc hc'
            split at hc <;> split at hc'
            · exact hc.1.trans hc'.1.symm
            · obtain ⟨j, hj⟩ := a2.sub m' c hc'; exact ((h5 j c hj).2 hc.2).elim
            · obtain ⟨j, hj⟩ := a2.sub m c hc; exact ((h5 j c hj).2 hc'.2).elim
            · exact a2.dj m m' c hc hc'
          · intro m B hm γ' φ' sv' hg hp
            simp only [wd] at hg hp
            have ag : Agr (k + 1) cs.length γ2 γ' := fun j a b => by rw [hg j (by omega) (by omega)]; simp [cat]; omega
            simp only [thA, List.mem_append, List.mem_singleton, Prod.mk.injEq, Option.some.injEq] at hm
            rcases hm with hm | ⟨rfl, rfl⟩
            · exact a2.ok m B hm γ' φ' sv' ag (fun j a b => by rw [hp j (by omega) (by omega)]; simp [cat]; omega)
            · refine ⟨b, cur, e, fr, by rw [hg m (by omega) (by omega)]; simp [cat], by rw [hp m (by omega) (by omega)]; simp [cat], h2, h3, by rw [thL_len]; exact h4, fun j x hj => ⟨r2 γ' ag j x hj, ?_⟩⟩
              have hj' : j < cs.length := by have := idx_lt hj; rw [thL_len] at this; exact this
              exact h7 j _ (List.getElem?_eq_getElem hj')
        · simp only [wd] at hg
          exact pt_rep (w := w) (ok := ok) (by rw [hg k (by omega) (by omega)]; simp [cat])
  | sl o z r => exact small _ rfl rfl (fun cs h => by cases o <;> simp [th1] at h) h
  | _ => exact small _ rfl rfl (fun cs h => by simp [th1] at h) h
theorem thAs_len (cs : Row) : ∀ k, (thAs k cs).1.length = cs.length := by
  induction cs with
  | nil => intro k; rfl
  | cons x r ih => intro k; simp [thAs, ih]
theorem thAs_ad : ∀ (cs : Row) (k : Nat) (vs : Nat → Value) (Fs : Nat → Nat → Prop), (∀ i j b, Fs i b → Fs j b → i = j) → (∀ (j : Nat) (x : AV), cs[j]? = some x → OwnA w ok (Fs j) (vs j) x) →
    ∃ γd φd, Ad w ok (fun b => ∃ j, Fs j b) k (wds cs) (thAs k cs).2 γd φd ∧ ∀ γ', Agr k (wds cs) γd γ' → ∀ (j : Nat) (x : AV), (thAs k cs).1[j]? = some x → RepA w ok γ' (vs j) x
  | [], k, vs, Fs, hd, ho => ⟨_, _, Ad.none, fun γ' _ j x hj => by simp [thAs] at hj⟩
  | x :: r, k, vs, Fs, hd, ho => by
    obtain ⟨γ1, φ1, a1, r1⟩ := thA_ad k (ho 0 x rfl)
    obtain ⟨γ2, φ2, a2, r2⟩ := thAs_ad r (k + wd x) (fun j => vs (j + 1)) (fun j => Fs (j + 1)) (fun i j b h h' => by have := hd _ _ b h h'; omega) (fun j x hj => ho (j + 1) x (by simpa using hj))
    refine ⟨_, _, Ad.app (F := fun b => ∃ j, Fs j b) a1 a2 ?_ (fun b h => ⟨0, h⟩) (fun b ⟨j, h⟩ => ⟨j + 1, h⟩) (u := (thAs k (x :: r)).2) ?_, fun γ' hg j y hj => ?_⟩
    · rintro b h ⟨j, h'⟩
      have := hd _ _ b h h'
      omega
    · intro p
      simp [thAs]
    · simp only [wds] at hg
      cases j with
      | zero =>
        simp only [thAs, List.getElem?_cons_zero, Option.some.injEq] at hj
        subst hj
        exact r1 γ' fun j a b => by rw [hg j a (by omega)]; simp [cat]; omega
      | succ j =>
        simp only [thAs, List.getElem?_cons_succ] at hj
        exact r2 γ' (fun j a b => by rw [hg j (by omega) (by omega)]; simp [cat]; omega) j y hj
theorem thV_ad {v : Value} {x : AV} (k : Nat) (h : OwnV w ok F v x) : ∃ γd φd, Ad w ok F k (wdV x) (thV k x).2 γd φd ∧ ∀ γ', Agr k (wdV x) γd γ' → RepV w ok γ' v (thV k x).1 := by
  have rest : ∀ y, wdV y = wd y → thV k y = thA k y → (∀ cs, (thA k y).1 ≠ .tu cs) → OwnA w ok F v y → ∃ γd φd, Ad w ok F k (wdV y) (thV k y).2 γd φd ∧ ∀ γ', Agr k (wdV y) γd γ' → RepV w ok γ' v (thV k y).1 := by
    intro y h1 h2 h3 ho
    rw [h1, h2]
    obtain ⟨γd, φd, a, r⟩ := thA_ad k ho
    refine ⟨γd, φd, a, fun γ' hg => ?_⟩
    have := r γ' hg
    revert this h3
    generalize (thA k y).1 = q
    intro h3 this
    cases q <;> first | exact this | exact (h3 _ rfl).elim
  cases x with
  | tu cs =>
    obtain ⟨vs, Fs, rfl, h2, h3, h4, h5⟩ := h
    have hv : ∀ j x, cs[j]? = some x → vs[j]? = some (vs.getD j undef) := fun j x hj => by
      have := idx_lt hj
      rw [List.getD_eq_getElem?_getD, List.getElem?_eq_getElem (by omega)]; rfl
    obtain ⟨γd, φd, a, r⟩ := thAs_ad cs k (fun j => vs.getD j undef) Fs h4 (fun j x hj => h5 j _ x (hv j x hj) hj)
    refine ⟨γd, φd, a.wide (Nat.le_refl _) (fun b ⟨j, h⟩ => h3 j b h), fun γ' hg => ⟨vs, rfl, by simp only [thV, thAs_len]; exact h2, fun j u y hu hy => ?_⟩⟩
    have e : u = vs.getD j undef := by rw [List.getD_eq_getElem?_getD, hu]; rfl
    subst e
    exact r γ' hg j y hy
  | sl o z r => exact rest _ rfl rfl (fun cs h => by cases o <;> simp [thA, th1] at h) h
  | pb o r => exact rest _ rfl rfl (fun cs h => by cases o <;> simp [thA, th1] at h) h
  | _ => exact rest _ rfl rfl (fun cs h => by simp [thA, th1] at h) h
end
end Go.Proofs.YtkkmgjhfjhcdmaaGreatDoor.Mx

namespace Go.Proofs.YtkkmgjhfjhcdmaaGreatDoor.Mx
open Go Go.RowKit
section
variable {w0 : World} {M R : Nat → Prop} {γ : Gs} {φ : Fp} {tv : Tv} {sv : Sv} {a : Act} {w w' : World} {P : Program} {T : Ty} {ok ok' : Nat → Prop}
theorem Rep.rdR {v : Value} {o o' : Bool} {z : Nat} {rows : List Row} (r : Rep w ok v (.sl o z rows)) : Rep w ok v (.sl o' z (rdR rows)) := by
  cases r with
  | nil => exact .nil _ _
  | emp => exact .emp _ _ _ _
  | sl _ _ b off cap _ vs h1 h2 h3 h4 h5 =>
    have get : ∀ (i : Nat) (row : Row), (Mx.rdR rows)[i]? = some row → ∃ row' : Row, rows[i]? = some row' ∧ row = row'.map Mx.rdC := fun i row hi => by
      simp only [Mx.rdR, List.getElem?_map, Option.map_eq_some_iff] at hi
      obtain ⟨row', h, rfl⟩ := hi
      exact ⟨row', h, rfl⟩
    have gc : ∀ (row' : Row) (j : Nat) (x : AV), (row'.map Mx.rdC)[j]? = some x → ∃ x', row'[j]? = some x' ∧ x = Mx.rdC x' := fun row' j x hj => by
      simp only [List.getElem?_map, Option.map_eq_some_iff] at hj
      obtain ⟨x', h, rfl⟩ := hj
      exact ⟨x', h, rfl⟩
    have hl : (Mx.rdR rows).length = rows.length := by simp [Mx.rdR]
    have := Rep.sl (w := w) (ok := ok) o' z b off cap (Mx.rdR rows) vs h1 (by rw [hl]; exact h2) (fun i row hi => by obtain ⟨row', h, rfl⟩ := get i row hi; rw [List.length_map]; exact h3 i row' h)
      (fun i row j x hi hj => by obtain ⟨row', h, rfl⟩ := get i row hi; obtain ⟨x', hx, rfl⟩ := gc row' j x hj; exact h4 i row' j x' h hx)
      (fun i row j x hi hj => by obtain ⟨row', h, rfl⟩ := get i row hi; obtain ⟨x', hx, rfl⟩ := gc row' j x hj; exact (h5 i row' j x' h hx).rdC)
    rw [hl] at this
    exact this
theorem Rep.rdP {v : Value} {o o' : Bool} {cs : Row} (r : Rep w ok v (.pb o cs)) : Rep w ok v (.pb o' (cs.map Mx.rdC)) := by
  cases r with
  | pb _ b off _ vs h1 h2 h3 =>
    have gc : ∀ (j : Nat) (x : AV), (cs.map Mx.rdC)[j]? = some x → ∃ x', cs[j]? = some x' ∧ x = Mx.rdC x' := fun j x hj => by
      simp only [List.getElem?_map, Option.map_eq_some_iff] at hj
      obtain ⟨x', h, rfl⟩ := hj
      exact ⟨x', h, rfl⟩
    exact .pb o' b off _ vs h1 (fun j x hj => by obtain ⟨x', hx, rfl⟩ := gc j x hj; exact h2 j x' hx) (fun j x hj => by obtain ⟨x', hx, rfl⟩ := gc j x hj; exact (h3 j x' hx).rdC)
theorem live_of {m : Nat} {B : Blk} (h : sv m = some B) : live sv m := by unfold live; rw [h]; rfl
theorem sb_cell (h : Sim w0 M R γ φ tv sv a w) {m p i j v zp v' z : Nat} {rp r : List Row} (hm : sv m = some (.sb p i j v)) (hp : sv p = some (.ar zp v' rp)) (hv : v = v') (hb : nest rp i j = some (z, r)) :
    ∃ vp b off cap G u, γ m = some (u, z) ∧ γ p = some (vp, zp) ∧ vp = .slice (some ⟨b, off, none⟩) rp.length cap ∧ w.cell? ⟨b, off + (i * zp + j), none⟩ = some u ∧ Own w (okOf w0 M R φ sv w) G u (.sl true z r) ∧ (∀ c, G c → φ p c ∧ c ≠ b) ∧ φ p b ∧
      ∀ (w' : World) (ok' G' : Nat → Prop) (y : AV), (∀ c, G' c → G c ∨ ¬ φ p c) → (∀ c, φ p c → ¬ G c → w'.heap[c]? = w.heap[c]?) → (∀ c, okOf w0 M R φ sv w c → ok' c ∧ w'.heap[c]? = w.heap[c]?) → Own w' ok' G' u y →
        Own w' ok' (fun c => (φ p c ∧ (G c → G' c)) ∨ G' c) vp (.sl true zp (rp.set i ((rp.getD i []).set j y))) := by
  obtain ⟨_, _, h2⟩ := h.bk m _ hm
  obtain ⟨v0, b, off, len, cap, k1, k2, k3⟩ := (h2 zp v' rp hp).2 hv z r hb
  obtain ⟨vp, q1, q2⟩ := h.bk p _ hp
  obtain ⟨b', off', cap', G, u, g1, g2, g3, g4, g5, g6⟩ := own_cellN q2 hb
  have q1' := q1
  rw [k2] at q1
  obtain ⟨e1, _⟩ := Prod.mk.inj (Option.some.inj q1)
  rw [g1] at e1
  cases e1
  rw [k3] at g2
  cases g2
  exact ⟨vp, b, off, cap, G, v0, k1, q1', g1, k3, g3, g4, g5, g6⟩
theorem blkRows_rep (h : Sim w0 M R γ φ tv sv a w) {m z : Nat} {r : List Row} (hb : blkRows sv m = some (z, r)) (h1 : ∀ b, okOf w0 M R φ sv w b → ok b) (h2 : ∀ n ∈ rt sv m, ∀ b, live sv n → φ n b → ok b) :
    ∃ v0, γ m = some (v0, z) ∧ Rep w ok v0 (.sl true z r) := by
  unfold blkRows at hb
  split at hb
  · rename_i z' v' r' hm
    cases hb
    obtain ⟨v0, k1, k2⟩ := h.bk m _ hm
    exact ⟨v0, k1, k2.rep h1 (h2 m (by simp [rt, hm]) · (live_of hm))⟩
  · rename_i z' r' hm
    cases hb
    obtain ⟨v0, k1, k2⟩ := h.bk m _ hm
    exact ⟨v0, k1, (k2.mono fun b hb => ⟨h1 b hb, rfl⟩).flag⟩
  · rename_i p i j v hm
    split at hb
    · rename_i zp v' rp hp
      rw [cond_eq_ite] at hb
      split at hb
      · rename_i hv
        obtain ⟨vp, b, off, cap, G, u, k1, _, _, _, k3, k4, _⟩ := sb_cell h hm hp (by simpa using hv) hb
        exact ⟨u, k1, k3.rep h1 fun c hc => h2 p (by simp [rt, hm]) c (live_of hp) (k4 c hc).1⟩
      · cases hb
    · cases hb
  · cases hb
theorem vw1_ok (h : Sim w0 M R γ φ tv sv a w) {v : Value} {x : AV} (hv : RepC w (okOf w0 M R φ sv w) γ v x) (h1 : ∀ b, okOf w0 M R φ sv w b → ok b) (h2 : ∀ n ∈ vn1 sv x, ∀ b, live sv n → φ n b → ok b) : Rep w ok v (vw1 sv x) := by
  have up : ∀ {v x}, Rep w (okOf w0 M R φ sv w) v x → Rep w ok v x := fun r => r.mono fun b hb => ⟨h1 b hb, rfl⟩
  cases x with
  | ow m lo n =>
    simp only [vw1, rowsOf]
    cases hb : blkRows sv m with
    | none => exact .no _
    | some q =>
      obtain ⟨z, r⟩ := q
      obtain ⟨v0, k1, k2⟩ := blkRows_rep h hb h1 h2
      obtain ⟨v0', z', g1, g2⟩ := hv
      rw [k1] at g1
      cases g1
      exact (k2.sub (o' := false) g2).rdR
  | sl o z r => exact Rep.rdR (o := o) (up hv)
  | sc u => exact up hv
  | er => exact up hv
  | pb o cs => exact Rep.rdP (o := o) (up hv)
  | mv m =>
    simp only [vw1]
    split
    · rename_i ver es hm
      obtain ⟨r, z, rfl, g⟩ := hv
      obtain ⟨r', ents, clock, k1, k2, k3, k4, k5⟩ := h.bk m _ hm
      rw [k1] at g
      cases g
      exact .mc _ ents clock _ (h2 m (by simp [vn1, rt, hm]) _ (live_of hm) k2) k3 k4 k5
    · exact .no _
  | mc es => exact up hv
  | no => exact .no _
  | pt m i j => exact .no _
  | ag cs => exact hv.elim
  | tu cs => exact hv.elim
theorem vwA_ok (h : Sim w0 M R γ φ tv sv a w) {v : Value} {x : AV} (hv : RepV w (okOf w0 M R φ sv w) γ v x) (h1 : ∀ b, okOf w0 M R φ sv w b → ok b) (h2 : ∀ n ∈ vnA sv x, ∀ b, live sv n → φ n b → ok b) : OwnA w ok (fun _ => False) v (vwA sv x) := by
  have nf : ∀ {v : Value} {y : AV} (F : Nat → Prop), Rep w ok v (vw1 sv y) → Own w ok F v (vw1 sv y) := fun {v y} F r => by
    have : (∀ z r, vw1 sv y ≠ .sl true z r) ∧ ∀ cs, vw1 sv y ≠ .pb true cs := by
      cases y <;> simp only [vw1] <;> (try split) <;> simp
    exact .rd _ _ _ this.1 this.2 r
  have one : ∀ y, vwA sv y = vw1 sv y → vnA sv y = vn1 sv y → (∀ cs, vw1 sv y ≠ .ag cs) → x = y → OwnA w ok (fun _ => False) v (vwA sv x) := by
    rintro y e1 e2 e3 rfl
    rw [e1]
    have hc : RepC w (okOf w0 M R φ sv w) γ v x ∨ vw1 sv x = .no := by
      cases x <;> first | exact .inl hv | exact .inr rfl
    have hr : Rep w ok v (vw1 sv x) := by
      rcases hc with hc | hc
      · exact vw1_ok h hc h1 (by rw [← e2]; exact h2)
      · rw [hc]; exact .no _
    have := nf (fun _ => False) hr
    revert this e3
    generalize vw1 sv x = q
    intro e3 this
    cases q <;> first | exact this | exact (e3 _ rfl).elim
  cases x with
  | ag cs =>
    obtain ⟨vs, rfl, hl, hr⟩ := hv
    refine ⟨vs, fun _ _ => False, rfl, by rw [List.length_map]; exact hl, fun _ _ h => h, fun _ _ _ h => h.elim, fun j u y hu hy => ?_⟩
    simp only [List.getElem?_map, Option.map_eq_some_iff] at hy
    obtain ⟨x, hx, rfl⟩ := hy
    exact ⟨nf _ (vw1_ok h (hr j u x hu hx).1 h1 fun n hn => h2 n (List.mem_flatMap.2 ⟨x, List.mem_of_getElem? hx, hn⟩)), (hr j u x hu hx).2⟩
  | pt m i j =>
    simp only [vwA]
    split
    · rename_i cs hm
      rw [cond_eq_ite]
      split
      · rename_i hi
        have hi : i = 0 := by simpa using hi
        subst hi
        obtain ⟨b, cur, e, fr, k1, k2, k3, k4, k5, k6⟩ := h.bk m _ hm
        obtain ⟨v0, z, g1, g2⟩ := hv
        rw [k1] at g1
        cases g1
        obtain ⟨_, rfl⟩ := g2
        have hvn : vnA sv (.pt m 0 j) = m :: cs.flatMap (vn1 sv) := by simp [vnA, hm]
        rw [hvn] at h2
        have get : ∀ (q : Nat) y, ((cs.drop j).map (vw1 sv))[q]? = some y → ∃ x, cs[j + q]? = some x ∧ y = vw1 sv x := fun q y hy => by
          simp only [List.getElem?_map, List.getElem?_drop, Option.map_eq_some_iff] at hy
          obtain ⟨x, hx, rfl⟩ := hy
          exact ⟨x, hx, rfl⟩
        refine Own.rd _ _ _ (by simp) (by simp) (.pb false b (0 + j) _ (fun q => cur.getD (j + q) undef) (h2 m (by simp) b (live_of hm) k2) (fun q y hy => ?_) fun q y hy => ?_)
        · obtain ⟨x, hx, rfl⟩ := get q y hy
          refine ⟨?_, (k6 _ _ hx).2⟩
          rw [show 0 + j + q = j + q by omega]
          exact cell_some k3 (Nat.lt_of_lt_of_le (idx_lt hx) k5)
        · obtain ⟨x, hx, rfl⟩ := get q y hy
          exact vw1_ok h (k6 _ _ hx).1 h1 fun n hn => h2 n (List.mem_cons_of_mem _ (List.mem_flatMap.2 ⟨x, List.mem_of_getElem? hx, hn⟩))
      · exact Own.rd _ _ _ (by simp) (by simp) (.no _)
    · exact Own.rd _ _ _ (by simp) (by simp) (.no _)
  | ow m lo n => exact one _ rfl rfl (fun cs hh => by simp only [vw1] at hh; split at hh <;> cases hh) rfl
  | mv m => exact one _ rfl rfl (fun cs hh => by simp only [vw1] at hh; split at hh <;> cases hh) rfl
  | _ => exact one _ rfl rfl (fun cs hh => by simp [vw1] at hh) rfl
end
end Go.Proofs.YtkkmgjhfjhcdmaaGreatDoor.Mx

namespace Go.Proofs.YtkkmgjhfjhcdmaaGreatDoor.Mx
open Go Go.RowKit
section
variable {w0 : World} {M R : Nat → Prop} {γ : Gs} {φ : Fp} {tv : Tv} {sv : Sv} {a : Act} {w w' : World} {P : Program} {T : Ty} {ok ok' : Nat → Prop}
structure Back (γ : Gs) (φ : Fp) (sv : Sv) (w' : World) (ok' : Nat → Prop) (N : List Nat) (F H : Nat → Prop) (k n : Nat) (u : Up) (γd : Gs) (φd : Fp) : Prop where
  rng : ∀ m B, (m, B) ∈ u → (m ∈ N ∨ (k ≤ m ∧ m < k + n)) ∧ ∃ C, B = some C
  fn : ∀ m B B', (m, B) ∈ u → (m, B') ∈ u → B = B'
  dom : ∀ m b, φd m b → m ∈ N ∨ (k ≤ m ∧ m < k + n)
  sub : ∀ m b, φd m b → H b ∨ (¬ F b ∧ ∃ n ∈ N, φ n b)
  dj : ∀ m m' b, φd m b → φd m' b → m = m'
  ok : ∀ m B, (m, some B) ∈ u → ∀ (γ' : Gs) (φ' : Fp) (sv' : Sv), (∀ j g, γ j = some g → γ' j = some g) → (∀ j, k ≤ j → j < k + n → γ' j = γd j) → φ' m = φd m → (∀ j, k ≤ j → j < k + n → φ' j = φd j) → BlkOk w' ok' γ' φ' sv' m B
  al : ∀ m B, m ∈ N → (m, some B) ∈ u → ∀ q i j v, sv q = some (.sb m i j v) → ∀ (γ' : Gs) (φ' : Fp) (sv' : Sv), (∀ j g, γ j = some g → γ' j = some g) → sv' m = some B → BlkOk w' ok' γ' φ' sv' q (.sb m i j v)
  nm : ∀ m B, m ∈ N → (m, some B) ∈ u → ∀ v es, B ≠ .mp v es
def Nφ (φ : Fp) (N : List Nat) (b : Nat) : Prop := ∃ n ∈ N, φ n b
structure Pass (w0 : World) (M R : Nat → Prop) (γ : Gs) (φ : Fp) (sv : Sv) (w : World) (bk : Nat → AV → Option Up) (O : World → (Nat → Prop) → (Nat → Prop) → Value → AV → Prop) (v : Value) (t : AV) (wdt : AV → Nat) (N : List Nat) (F : Nat → Prop) : Prop where
  lv : ∀ n ∈ N, live sv n
  sub : ∀ b, F b → Nφ φ N b
  own : O w (okOf w0 M R φ sv w) F v t
  back : ∀ (w' : World) (ok' H : Nat → Prop) (k : Nat) (t' : AV) (u : Up), (∀ j, k ≤ j → j < k + wdt t' → γ j = none) → Kp w w' → (∀ b, Nφ φ N b → ¬ F b → w'.heap[b]? = w.heap[b]?) → (∀ b, okOf w0 M R φ sv w b → ok' b ∧ w'.heap[b]? = w.heap[b]?) →
    (∀ b, H b → Nφ φ N b → F b) → O w' ok' H v t' → bk k t' = some u → ∃ γd φd, Back γ φ sv w' ok' N F H k (wdt t') u γd φd
theorem Back.nil {N : List Nat} {F H : Nat → Prop} {k n : Nat} : ∃ γd φd, Back γ φ sv w' ok' N F H k n [] γd φd :=
  ⟨fun _ => none, fun _ _ => False, fun _ _ h => by simp at h, fun _ _ _ h => by simp at h, fun _ _ h => h.elim, fun _ _ h => h.elim, fun _ _ _ h => h.elim, fun _ _ h => by simp at h, fun _ _ _ h => by simp at h, fun _ _ _ h => by simp at h⟩
theorem Back.app {N1 N2 N : List Nat} {F1 F2 F H1 H2 H : Nat → Prop} {k n1 n2 : Nat} {u1 u2 u : Up} {γ1 γ2 : Gs} {φ1 φ2 : Fp} (h1 : Back γ φ sv w' ok' N1 F1 H1 k n1 u1 γ1 φ1) (h2 : Back γ φ sv w' ok' N2 F2 H2 (k + n1) n2 u2 γ2 φ2)
    (hr : ∀ j, k ≤ j → j < k + (n1 + n2) → γ j = none) (g1 : ∀ n ∈ N1, ∃ g, γ n = some g) (g2 : ∀ n ∈ N2, ∃ g, γ n = some g) (hN : ∀ n ∈ N1, n ∉ N2) (hφ : ∀ b, Nφ φ N1 b → ¬ Nφ φ N2 b) (s1 : ∀ b, F1 b → Nφ φ N1 b) (s2 : ∀ b, F2 b → Nφ φ N2 b)
    (hH : ∀ b, H1 b → ¬ H2 b) (x1 : ∀ b, H1 b → Nφ φ N2 b → F2 b) (x2 : ∀ b, H2 b → Nφ φ N1 b → F1 b)
    (eN : ∀ n, n ∈ N ↔ n ∈ N1 ∨ n ∈ N2) (eF : ∀ b, F b ↔ F1 b ∨ F2 b) (eH : ∀ b, H1 b ∨ H2 b → H b) (eu : ∀ p, p ∈ u ↔ p ∈ u1 ∨ p ∈ u2) :
    Back γ φ sv w' ok' N F H k (n1 + n2) u (cat (k + n1) γ1 γ2) (fun m b => φ1 m b ∨ φ2 m b) := by
  have c1 : ∀ m, (m ∈ N1 ∨ (k ≤ m ∧ m < k + n1)) → ¬ (m ∈ N2 ∨ (k + n1 ≤ m ∧ m < k + n1 + n2)) := by
    rintro m (h | h) (h' | h')
    · exact hN m h h'
    · obtain ⟨g, hg⟩ := g1 m h; rw [hr m (by omega) (by omega)] at hg; cases hg
    · obtain ⟨g, hg⟩ := g2 m h'; rw [hr m (by omega) (by omega)] at hg; cases hg
    · omega
  have p1 : ∀ m, (m ∈ N1 ∨ (k ≤ m ∧ m < k + n1)) → (fun b => φ1 m b ∨ φ2 m b) = φ1 m := fun m hm => by
    funext b
    exact propext ⟨fun h => h.resolve_right fun h' => c1 m hm (h2.dom m b h'), .inl⟩
  have p2 : ∀ m, (m ∈ N2 ∨ (k + n1 ≤ m ∧ m < k + n1 + n2)) → (fun b => φ1 m b ∨ φ2 m b) = φ2 m := fun m hm => by
    funext b
    exact propext ⟨fun h => h.resolve_left fun h' => c1 m (h1.dom m b h') hm, .inr⟩
  have cross : ∀ b m m', φ1 m b → φ2 m' b → False := by
    intro b m m' h h'
    rcases h1.sub m b h with a1 | ⟨a1, a2⟩ <;> rcases h2.sub m' b h' with b1 | ⟨b1, b2⟩
    · exact hH b a1 b1
    · exact b1 (x1 b a1 b2)
    · exact a1 (x2 b b1 a2)
    · exact hφ b a2 b2
  have w1 : ∀ m, (m ∈ N1 ∨ (k ≤ m ∧ m < k + n1)) → (m ∈ N ∨ (k ≤ m ∧ m < k + (n1 + n2))) := fun m h => h.imp (fun h => (eN m).2 (.inl h)) fun h => by omega
  have w2 : ∀ m, (m ∈ N2 ∨ (k + n1 ≤ m ∧ m < k + n1 + n2)) → (m ∈ N ∨ (k ≤ m ∧ m < k + (n1 + n2))) := fun m h => h.imp (fun h => (eN m).2 (.inr h)) fun h => by omega
  constructor
  · intro m B h
    rcases (eu _).1 h with h | h
    · exact ⟨w1 m (h1.rng m B h).1, (h1.rng m B h).2⟩
    · exact ⟨w2 m (h2.rng m B h).1, (h2.rng m B h).2⟩
  · intro m B B' h h'
    rcases (eu _).1 h with h | h <;> rcases (eu _).1 h' with h' | h'
    · exact h1.fn m B B' h h'
    · exact (c1 m (h1.rng m B h).1 (h2.rng m B' h').1).elim
    · exact (c1 m (h1.rng m B' h').1 (h2.rng m B h).1).elim
    · exact h2.fn m B B' h h'
  · rintro m b (h | h)
    · exact w1 m (h1.dom m b h)
    · exact w2 m (h2.dom m b h)
  · rintro m b (h | h)
    · rcases h1.sub m b h with a1 | ⟨a1, n, hn, a2⟩
      · exact .inl (eH b (.inl a1))
      · exact .inr ⟨fun hf => by rcases (eF b).1 hf with hf | hf; exact a1 hf; exact hφ b ⟨n, hn, a2⟩ (s2 b hf), n, (eN n).2 (.inl hn), a2⟩
    · rcases h2.sub m b h with a1 | ⟨a1, n, hn, a2⟩
      · exact .inl (eH b (.inr a1))
      · exact .inr ⟨fun hf => by rcases (eF b).1 hf with hf | hf; exact hφ b (s1 b hf) ⟨n, hn, a2⟩; exact a1 hf, n, (eN n).2 (.inr hn), a2⟩
  · rintro m m' b (h | h) (h' | h')
    · exact h1.dj m m' b h h'
    · exact (cross b m m' h h').elim
    · exact (cross b m' m h' h).elim
    · exact h2.dj m m' b h h'
  · intro m B h γ' φ' sv' hg hg' hp hp'
    rcases (eu _).1 h with h | h
    · exact h1.ok m B h γ' φ' sv' hg (fun j a b => by rw [hg' j a (by omega)]; simp [cat]; omega) (hp.trans (p1 m (h1.rng m _ h).1)) fun j a b => (hp' j a (by omega)).trans (p1 j (.inr ⟨a, b⟩))
    · exact h2.ok m B h γ' φ' sv' hg (fun j a b => by rw [hg' j (by omega) (by omega)]; simp [cat]; omega) (hp.trans (p2 m (h2.rng m _ h).1)) fun j a b => (hp' j (by omega) (by omega)).trans (p2 j (.inr ⟨a, b⟩))
  · intro m B hm h q i j v hq γ' φ' sv' hg hs
    rcases (eu _).1 h with h | h
    · rcases (eN m).1 hm with hm | hm
      · exact h1.al m B hm h q i j v hq γ' φ' sv' hg hs
      · exact (c1 m (h1.rng m _ h).1 (.inl hm)).elim
    · rcases (eN m).1 hm with hm | hm
      · exact (c1 m (.inl hm) (h2.rng m _ h).1).elim
      · exact h2.al m B hm h q i j v hq γ' φ' sv' hg hs
  · intro m B hm h
    rcases (eu _).1 h with h | h
    · rcases (eN m).1 hm with hm | hm
      · exact h1.nm m B hm h
      · exact (c1 m (h1.rng m _ h).1 (.inl hm)).elim
    · rcases (eN m).1 hm with hm | hm
      · exact (c1 m (.inl hm) (h2.rng m _ h).1).elim
      · exact h2.nm m B hm h
theorem ex1_ok (h : Sim w0 M R γ φ tv sv a w) {v : Value} {x t : AV} {N : List Nat} (hv : RepC w (okOf w0 M R φ sv w) γ v x) (hx : ex1 sv x = some (t, N)) :
    (∀ n ∈ N, live sv n) ∧ Own w (okOf w0 M R φ sv w) (Nφ φ N) v t := by
  have rd : ∀ {y : AV}, (∀ z r, y ≠ .sl true z r) → (∀ cs, y ≠ .pb true cs) → Rep w (okOf w0 M R φ sv w) v y → Own w (okOf w0 M R φ sv w) (Nφ φ N) v y := fun h1 h2 hr => .rd _ _ _ h1 h2 hr
  cases x <;> simp only [ex1] at hx
  case ow m lo n =>
    split at hx
    · rename_i z ver r hm
      cases hx
      obtain ⟨v0, k1, k2⟩ := h.bk m _ hm
      obtain ⟨v0', z', g1, g2⟩ := hv
      rw [k1] at g1
      cases g1
      exact ⟨fun n hn => by simp at hn; subst hn; exact live_of hm, (k2.sub g2).mono (fun b hb => ⟨hb, rfl⟩) _ fun b hb => ⟨⟨m, by simp, hb⟩, rfl⟩⟩
    · rename_i z r hm
      cases hx
      obtain ⟨v0, k1, k2⟩ := h.bk m _ hm
      obtain ⟨v0', z', g1, g2⟩ := hv
      rw [k1] at g1
      cases g1
      exact ⟨fun n hn => by simp at hn, rd (by simp) (by simp) (Rep.rdR (o := false) (k2.sub g2))⟩
    · cases hx
  case sl o z r => cases hx; exact ⟨fun n hn => by simp at hn, rd (by simp) (by simp) (Rep.rdR (o := o) hv)⟩
  case pt => cases hx
  case pb => cases hx
  case mv => cases hx
  case ag => cases hx
  case tu => cases hx
  all_goals cases hx; exact ⟨fun n hn => by simp at hn, rd (by simp) (by simp) hv⟩
theorem nodupB_app {a b : List Nat} (h : nodupB (a ++ b) = true) : nodupB a = true ∧ nodupB b = true ∧ ∀ n ∈ a, n ∉ b := by
  induction a with
  | nil => exact ⟨rfl, h, fun _ h => by simp at h⟩
  | cons x r ih =>
    simp only [List.cons_append, nodupB, Bool.and_eq_true, Bool.not_eq_true', List.contains_eq_mem, List.mem_append, decide_eq_false_iff_not] at h
    obtain ⟨h1, h2, h3⟩ := ih h.2
    refine ⟨?_, h2, fun n hn => ?_⟩
    · simp only [nodupB, Bool.and_eq_true, Bool.not_eq_true', List.contains_eq_mem, decide_eq_false_iff_not]
      exact ⟨fun hx => h.1 (.inl hx), h1⟩
    · rcases List.mem_cons.1 hn with rfl | hn
      · exact fun hb => h.1 (.inr hb)
      · exact h3 n hn
theorem Nφ_dj (h : Sim w0 M R γ φ tv sv a w) {N1 N2 : List Nat} (l1 : ∀ n ∈ N1, live sv n) (l2 : ∀ n ∈ N2, live sv n) (hd : ∀ n ∈ N1, n ∉ N2) (b : Nat) (h1 : Nφ φ N1 b) : ¬ Nφ φ N2 b := by
  rintro ⟨n2, hn2, hb2⟩
  obtain ⟨n1, hn1, hb1⟩ := h1
  exact h.dj n1 n2 (l1 n1 hn1) (l2 n2 hn2) (fun e => hd n1 hn1 (e ▸ hn2)) b hb1 hb2
theorem exL_ok (h : Sim w0 M R γ φ tv sv a w) : ∀ (cs l : Row) (N : List Nat) (vs : Nat → Value), (∀ (j : Nat) (x : AV), cs[j]? = some x → RepC w (okOf w0 M R φ sv w) γ (vs j) x) → exL (ex1 sv) cs = some (l, N) → nodupB N = true →
    l.length = cs.length ∧ (∀ n ∈ N, live sv n) ∧ ∃ Fs : Nat → Nat → Prop, (∀ j b, Fs j b → Nφ φ N b) ∧ (∀ i j b, Fs i b → Fs j b → i = j) ∧ ∀ (j : Nat) (y : AV), l[j]? = some y → Own w (okOf w0 M R φ sv w) (Fs j) (vs j) y
  | [], l, N, vs, hv, hx, hn => by
    simp only [exL] at hx
    cases hx
    exact ⟨rfl, fun n hn => by simp at hn, fun _ _ => False, fun _ _ h => h.elim, fun _ _ _ h => h.elim, fun j y hy => by simp at hy⟩
  | x :: r, l, N, vs, hv, hx, hn => by
    simp only [exL] at hx
    split at hx
    · rename_i y ns l' ms h1 h2
      cases hx
      obtain ⟨n1, n2, n3⟩ := nodupB_app hn
      obtain ⟨a1, a2⟩ := ex1_ok h (hv 0 x rfl) h1
      obtain ⟨b1, b2, Fs, b3, b4, b5⟩ := exL_ok h r l' ms (fun j => vs (j + 1)) (fun j x hj => hv (j + 1) x (by simpa using hj)) h2 n2
      refine ⟨by simp [b1], fun n hn => ?_, fun j => match j with | 0 => Nφ φ ns | j + 1 => Fs j, ?_, ?_, ?_⟩
      · rcases List.mem_append.1 hn with hn | hn
        · exact a1 n hn
        · exact b2 n hn
      · rintro (_ | j) b hb
        · obtain ⟨n, hn, hb⟩ := hb; exact ⟨n, List.mem_append_left _ hn, hb⟩
        · obtain ⟨n, hn, hb⟩ := b3 j b hb; exact ⟨n, List.mem_append_right _ hn, hb⟩
      · rintro (_ | i) (_ | j) b hb hb'
        · rfl
        · exact (Nφ_dj h a1 b2 n3 b hb (b3 j b hb')).elim
        · exact (Nφ_dj h a1 b2 n3 b hb' (b3 i b hb)).elim
        · rw [b4 i j b hb hb']
      · rintro (_ | j) y hy
        · simp at hy; subst hy; exact a2
        · exact b5 j y (by simpa using hy)
    · cases hx
theorem exA_ok (h : Sim w0 M R γ φ tv sv a w) {v : Value} {x t : AV} {N : List Nat} (hv : RepV w (okOf w0 M R φ sv w) γ v x) (hx : exA sv x = some (t, N)) (hn : nodupB N = true) :
    (∀ n ∈ N, live sv n) ∧ OwnA w (okOf w0 M R φ sv w) (Nφ φ N) v t := by
  have small : exA sv x = ex1 sv x → RepC w (okOf w0 M R φ sv w) γ v x → (∀ N cs, ex1 sv x ≠ some (.ag cs, N)) → (∀ n ∈ N, live sv n) ∧ OwnA w (okOf w0 M R φ sv w) (Nφ φ N) v t := by
    intro e hc hne
    rw [e] at hx
    obtain ⟨a1, a2⟩ := ex1_ok h hc hx
    refine ⟨a1, ?_⟩
    cases t <;> first | exact a2 | exact (hne _ _ hx).elim
  cases x with
  | ag cs =>
    simp only [exA] at hx
    split at hx
    · rename_i l ns hl
      cases hx
      obtain ⟨vs, rfl, h1, h2⟩ := hv
      have hvs : ∀ j x, cs[j]? = some x → vs[j]? = some (vs.getD j undef) := fun j x hj => by
        have := idx_lt hj
        rw [List.getD_eq_getElem?_getD, List.getElem?_eq_getElem (by omega)]; rfl
      obtain ⟨b1, b2, Fs, b3, b4, b5⟩ := exL_ok h cs l N (fun j => vs.getD j undef) (fun j x hj => (h2 j _ x (hvs j x hj) hj).1) hl hn
      refine ⟨b2, vs, Fs, rfl, h1.trans b1.symm, b3, b4, fun j u y hu hy => ?_⟩
      have e : u = vs.getD j undef := by rw [List.getD_eq_getElem?_getD, hu]; rfl
      subst e
      have hj : j < cs.length := by rw [← b1]; exact idx_lt hy
      exact ⟨b5 j y hy, (h2 j _ _ hu (List.getElem?_eq_getElem hj)).2⟩
    · cases hx
  | pt m i j =>
    by_cases hij : i = 0 ∧ j = 0
    · obtain ⟨rfl, rfl⟩ := hij
      simp only [exA] at hx
      split at hx
      · rename_i cs hm
        split at hx
        · rename_i l ns hl
          cases hx
          simp only [nodupB, Bool.and_eq_true, Bool.not_eq_true', List.contains_eq_mem, decide_eq_false_iff_not] at hn
          obtain ⟨b, cur, e, fr, k1, k2, k3, k4, k5, k6⟩ := h.bk m _ hm
          obtain ⟨v0, z, g1, g2⟩ := hv
          rw [k1] at g1
          cases g1
          obtain ⟨_, rfl⟩ := g2
          obtain ⟨b1, b2, Fs, b3, b4, b5⟩ := exL_ok h cs l ns (fun j => cur.getD j undef) (fun j x hj => (k6 j x hj).1) hl hn.2
          have hlm := live_of hm
          refine ⟨fun n hn => ?_, Own.pb _ b l cur e fr Fs ⟨m, by simp, k2⟩ k3 k4 (by rw [b1]; exact k5) (fun j c hc => ?_) b4 (fun j y hy => (k6 j _ (List.getElem?_eq_getElem (by rw [← b1]; exact idx_lt hy))).2) fun j y hy => b5 j y hy⟩
          · rcases List.mem_cons.1 hn with rfl | hn
            · exact hlm
            · exact b2 n hn
          · obtain ⟨n, hn', hb⟩ := b3 j c hc
            refine ⟨⟨n, List.mem_cons_of_mem _ hn', hb⟩, ?_⟩
            rintro rfl
            exact h.dj m n hlm (b2 n hn') (fun e => hn.1 (e ▸ hn')) c k2 hb
        · cases hx
      · cases hx
    · have : exA sv (.pt m i j) = ex1 sv (.pt m i j) := by
        unfold exA
        split
        · rename_i hh; cases hh
        · rename_i hh; cases hh; exact (hij ⟨rfl, rfl⟩).elim
        · rfl
      rw [this] at hx
      simp [ex1] at hx
  | tu cs => simp [exA, ex1] at hx
  | ow m lo n => exact small rfl hv (fun N cs hh => by simp only [ex1] at hh; split at hh <;> cases hh)
  | _ => exact small rfl hv (fun N cs hh => by simp [ex1] at hh)
end
end Go.Proofs.YtkkmgjhfjhcdmaaGreatDoor.Mx

namespace Go.Proofs.YtkkmgjhfjhcdmaaGreatDoor.Mx
open Go Go.RowKit
section
variable {w0 : World} {M R : Nat → Prop} {γ : Gs} {φ : Fp} {tv : Tv} {sv : Sv} {a : Act} {w w' : World} {P : Program} {T : Ty} {ok ok' : Nat → Prop}
theorem lent_own {Φ : Nat → Prop} {v0 v : Value} {z : Nat} {r : List Row} (k2 : Own w ok Φ v0 (.sl true z r)) (g2 : Sub v0 z 0 r.length v) : ∃ F : Nat → Prop, (∀ b, F b → Φ b) ∧ Own w ok F v (.sl true z r) ∧
    ∀ (w' : World) (ok' H : Nat → Prop) (r' : List Row), Kp w w' → (∀ b, Φ b → ¬ F b → w'.heap[b]? = w.heap[b]?) → (∀ b, ok b → ok' b ∧ w'.heap[b]? = w.heap[b]?) → Own w' ok' H v (.sl true z r') → Own w' ok' (fun b => H b ∨ (Φ b ∧ ¬ F b)) v0 (.sl true z r') := by
  have hsub := k2.sub g2
  rw [show seg r 0 r.length = r by simp [seg]] at hsub
  rcases own_inv k2 with ⟨rfl, rfl⟩ | ⟨b, off, rfl, rfl⟩ | ⟨b, off, cap, cur, e, fr, Fs, rfl, p1, p2, p3, p4, p5, p6, p7, p8, p9, p10, p11⟩
  · obtain ⟨rfl, _, _⟩ := g2
    refine ⟨fun _ => False, fun _ h => h.elim, .nil _ _, fun w' ok' H r' _ _ _ ho => ?_⟩
    rcases own_inv ho with ⟨_, rfl⟩ | ⟨b, off, hh, _⟩ | ⟨b, off, cap, cur, e, fr, Fs, hh, _⟩
    · exact .nil _ _
    · cases hh
    · cases hh
  · obtain ⟨o', cap', rfl, h1, h2, h3⟩ := g2
    have : cap' = 0 := by simp at h1 h3; omega
    subst this
    refine ⟨fun _ => False, fun _ h => h.elim, .emp _ _ _ _, fun w' ok' H r' _ _ _ ho => ?_⟩
    have : r' = [] := by
      rcases own_inv ho with ⟨_, rfl⟩ | ⟨b, off, _, rfl⟩ | ⟨b, off, cap, cur, e, fr, Fs, hh, _⟩
      · rfl
      · rfl
      · simp only [Value.slice.injEq] at hh
        exact List.eq_nil_of_length_eq_zero (by have := hh.2.1; simp at this; omega)
    subst this
    exact .emp _ _ _ _
  · obtain ⟨o', cap', rfl, h1, h2, h3⟩ := g2
    by_cases hc : cap' = 0
    · subst hc
      have hr : r = [] := List.eq_nil_of_length_eq_zero (by omega)
      subst hr
      refine ⟨fun _ => False, fun _ h => h.elim, .emp _ _ _ _, fun w' ok' H r' _ hs hok ho => ?_⟩
      have : r' = [] := by
        rcases own_inv ho with ⟨_, rfl⟩ | ⟨b, off, _, rfl⟩ | ⟨b, off, cap, cur, e, fr, Fs, hh, _⟩
        · rfl
        · rfl
        · simp only [Value.slice.injEq] at hh
          exact List.eq_nil_of_length_eq_zero (by have := hh.2.1; simp at this; omega)
      subst this
      exact k2.mono hok _ fun b hb => ⟨.inr ⟨hb, id⟩, hs b hb id⟩
    · obtain ⟨ho', hcc⟩ : o' = off + 0 * z ∧ 0 + cap' ≤ cap := h3.resolve_right hc
      refine ⟨Φ, fun _ h => h, hsub, fun w' ok' H r' hk hs hok ho => ?_⟩
      rcases own_inv ho with ⟨hh, _⟩ | ⟨b1, off1, hh, _⟩ | ⟨b1, off1, cap1, cur1, e1, fr1, Fs1, hh, q1, q2, q3, q4, q5, q6, q7, q8, q9, q10, q11⟩
      · cases hh
      · simp only [Value.slice.injEq] at hh; omega
      · simp only [Value.slice.injEq, Option.some.injEq, Addr.mk.injEq] at hh
        obtain ⟨⟨rfl, rfl, _⟩, hl, rfl⟩ := hh
        obtain ⟨cur2, r1, r2⟩ := hk _ _ _ _ p2
        rw [q2] at r1
        cases r1
        have e0 : off + 0 * z = off := by omega
        rw [ho', e0] at q5 q10 q11
        have := Own.sl (w := w') (ok := ok') (fun b => H b ∨ (Φ b ∧ ¬ Φ b)) z b off cap r' cur1 e fr Fs1 (.inl q1) q2 q3 (by omega) (by omega) p6 (fun i j x hx => ⟨.inl (q7 i j x hx).1, (q7 i j x hx).2⟩) q8 q9 q10 q11
        rw [← hl] at this
        exact this
theorem nest_set {rp : List Row} {i j z i' j' z'' : Nat} {r r' r'' : List Row} (hn : nest rp i j = some (z, r)) (h : nest (rp.set i ((rp.getD i []).set j (.sl true z r'))) i' j' = some (z'', r'')) :
    (i' = i ∧ j' = j ∧ z'' = z) ∨ nest rp i' j' = some (z'', r'') := by
  obtain ⟨row, hrow, hj⟩ := nest_some hn
  obtain ⟨row', hrow', hj'⟩ := nest_some h
  rw [show rp.getD i [] = row by rw [List.getD_eq_getElem?_getD, hrow]; rfl] at hrow'
  rw [List.getElem?_set] at hrow'
  by_cases hi : i = i'
  · subst hi
    simp [idx_lt hrow] at hrow'
    subst hrow'
    rw [List.getElem?_set] at hj'
    by_cases hjj : j = j'
    · subst hjj
      simp [idx_lt hj] at hj'
      exact .inl ⟨rfl, rfl, hj'.1.symm⟩
    · rw [if_neg hjj] at hj'
      right
      simp [nest, hrow, hj']
  · rw [if_neg hi] at hrow'
    right
    simp [nest, hrow', hj']
abbrev CPass (w0 : World) (M R : Nat → Prop) (γ : Gs) (φ : Fp) (sv : Sv) (w : World) (v : Value) (x t : AV) (N : List Nat) (F : Nat → Prop) : Prop :=
  Pass w0 M R γ φ sv w (fun _ t' => bk1 sv x t') (fun w ok F v t => Own w ok F v t) v t (fun _ => 1) N F
theorem ln1_ok (h : Sim w0 M R γ φ tv sv a w) {v : Value} {x t : AV} {N : List Nat} (hv : RepC w (okOf w0 M R φ sv w) γ v x) (hx : ln1 sv x = some (t, N)) : ∃ F, CPass w0 M R γ φ sv w v x t N F := by
  have rest : ln1 sv x = ex1 sv x → N = [] → (∀ t', bk1 sv x t' = some []) → ∃ F, CPass w0 M R γ φ sv w v x t N F := by
    intro e hN hb
    subst hN
    rw [e] at hx
    obtain ⟨_, a2⟩ := ex1_ok h hv hx
    refine ⟨fun _ => False, fun n hn => by simp at hn, fun _ h => h.elim, a2.mono (fun b hb => ⟨hb, rfl⟩) _ fun b ⟨n, hn, _⟩ => by simp at hn, fun w' ok' H k t' u _ _ _ _ _ _ hu => ?_⟩
    simp only [hb, Option.some.injEq] at hu
    subst hu
    exact Back.nil
  cases x with
  | ow m lo n =>
    simp only [ln1] at hx
    split at hx
    · rename_i z ver r hm
      rw [cond_eq_ite] at hx
      split at hx
      · rename_i hln
        cases hx
        simp only [Bool.and_eq_true, beq_iff_eq] at hln
        obtain ⟨rfl, rfl⟩ := hln
        obtain ⟨v0, k1, k2⟩ := h.bk m _ hm
        obtain ⟨v0', z', g1, g2⟩ := hv
        rw [k1] at g1
        cases g1
        obtain ⟨F, f1, f2, f3⟩ := lent_own k2 g2
        refine ⟨F, fun n hn => by simp at hn; subst hn; exact live_of hm, fun b hb => ⟨m, by simp, f1 b hb⟩, f2, fun w' ok' H k t' u hr hk hs hok hH ho hu => ?_⟩
        have key : ∃ z2 r2, t' = .sl true z2 r2 := by
          cases t' with
          | sl o z2 r2 => cases o; simp [bk1, hm] at hu; exact ⟨_, _, rfl⟩
          | _ => simp [bk1] at hu
        obtain ⟨z2, r2, rfl⟩ := key
        simp only [bk1, hm, cond_eq_ite] at hu
        split at hu
        · rename_i hz
          have hz : z = z2 := by simpa using hz
          subst hz
          cases hu
          have hO := f3 w' ok' H r2 hk (fun b h1 h2 => hs b ⟨m, by simp, h1⟩ h2) hok ho
          refine ⟨fun _ => none, fun j b => j = m ∧ (H b ∨ (φ m b ∧ ¬ F b)), ?_⟩
          constructor
          · intro m' B hB
            simp only [List.mem_singleton, Prod.mk.injEq] at hB
            exact ⟨.inl (by simp [hB.1]), _, hB.2⟩
          · intro m' B B' hB hB'
            simp only [List.mem_singleton, Prod.mk.injEq] at hB hB'
            rw [hB.2, hB'.2]
          · intro m' b hb; exact .inl (by simp [hb.1])
          · intro m' b hb; exact hb.2.imp id fun hh => ⟨hh.2, m, by simp, hh.1⟩
          · intro m1 m2 b hb hb'; exact hb.1.trans hb'.1.symm
          · intro m' B hB γ' φ' sv' hg _ hp _
            simp only [List.mem_singleton, Prod.mk.injEq, Option.some.injEq] at hB
            obtain ⟨rfl, rfl⟩ := hB
            refine ⟨v0, hg _ _ k1, hO.mono (fun b hb => ⟨hb, rfl⟩) _ fun b hb => ⟨?_, rfl⟩⟩
            rw [hp]
            exact ⟨rfl, hb⟩
          · intro m' B _ hB q i j v1 hq γ' φ' sv' hg hs'
            simp only [List.mem_singleton, Prod.mk.injEq, Option.some.injEq] at hB
            obtain ⟨rfl, rfl⟩ := hB
            obtain ⟨⟨g1, b1⟩, ⟨g2, b2⟩, b3⟩ := h.bk q _ hq
            refine ⟨⟨g1, hg _ _ b1⟩, ⟨g2, hg _ _ b2⟩, fun zp v' rp hh => ?_⟩
            rw [hs'] at hh
            cases hh
            have := (b3 z ver r hm).1
            exact ⟨by omega, fun e => by omega⟩
          · intro m' B _ hB v es
            simp only [List.mem_singleton, Prod.mk.injEq, Option.some.injEq] at hB
            rw [hB.2]; simp
        · cases hu
      · cases hx
    · rename_i p i j ver hm
      split at hx
      · rename_i z r hb
        rw [cond_eq_ite] at hx
        split at hx
        · rename_i hln
          cases hx
          simp only [Bool.and_eq_true, beq_iff_eq] at hln
          obtain ⟨rfl, rfl⟩ := hln
          have hb' := hb
          simp only [blkRows, hm] at hb
          split at hb
          · rename_i zp vp rp hp
            rw [cond_eq_ite] at hb
            split at hb
            · rename_i hvv
              have hvv : ver = vp := by simpa using hvv
              obtain ⟨V, b, off, cap, G, u0, k1, k2, k3, k4, k5, k6, k7, k8⟩ := sb_cell h hm hp hvv hb
              obtain ⟨v0', z', g1, g2⟩ := hv
              rw [k1] at g1
              cases g1
              obtain ⟨F, f1, f2, f3⟩ := lent_own k5 g2
              refine ⟨F, fun n hn => by simp at hn; subst hn; exact live_of hp, fun b hb => ⟨p, by simp, (k6 b (f1 b hb)).1⟩, f2, fun w' ok' H k t' u hr hk hs hok hH ho hu => ?_⟩
              have key : ∃ z2 r2, t' = .sl true z2 r2 := by
                cases t' with
                | sl o z2 r2 => cases o; simp [bk1, hm] at hu; exact ⟨_, _, rfl⟩
                | _ => simp [bk1] at hu
              obtain ⟨z2, r2, rfl⟩ := key
              simp only [bk1, hm, hb', hp, cond_eq_ite] at hu
              split at hu
              · rename_i hz
                have hz : z = z2 := by simpa using hz
                subst hz
                cases hu
                have hs' : ∀ c, φ p c → ¬ F c → w'.heap[c]? = w.heap[c]? := fun c h1 h2 => hs c ⟨p, by simp, h1⟩ h2
                have hO := f3 w' ok' H r2 hk (fun c h1 h2 => hs' c (k6 c h1).1 h2) hok ho
                have hV := k8 w' ok' (fun c => H c ∨ (G c ∧ ¬ F c)) _ (fun c hc => by
                  rcases hc with hc | hc
                  · by_cases hp' : φ p c
                    · exact .inl (f1 c (hH c hc ⟨p, by simp, hp'⟩))
                    · exact .inr hp'
                  · exact .inl hc.1) (fun c h1 h2 => hs' c h1 fun h3 => h2 (f1 c h3)) hok hO
                have hbb : w'.heap[b]? = w.heap[b]? := hs' b k7 fun h3 => (k6 b (f1 b h3)).2 rfl
                refine ⟨fun _ => none, fun j b => j = p ∧ (H b ∨ (φ p b ∧ ¬ F b)), ?_⟩
                constructor
                · intro m' B hB
                  simp only [List.mem_singleton, Prod.mk.injEq] at hB
                  exact ⟨.inl (by simp [hB.1]), _, hB.2⟩
                · intro m' B B' hB hB'
                  simp only [List.mem_singleton, Prod.mk.injEq] at hB hB'
                  rw [hB.2, hB'.2]
                · intro m' b hb; exact .inl (by simp [hb.1])
                · intro m' b hb; exact hb.2.imp id fun hh => ⟨hh.2, p, by simp, hh.1⟩
                · intro m1 m2 b hb hb'; exact hb.1.trans hb'.1.symm
                · intro m' B hB γ' φ' sv' hg _ hp' _
                  simp only [List.mem_singleton, Prod.mk.injEq, Option.some.injEq] at hB
                  obtain ⟨rfl, rfl⟩ := hB
                  refine ⟨V, hg _ _ k2, hV.mono (fun b hb => ⟨hb, rfl⟩) _ fun c hc => ⟨?_, rfl⟩⟩
                  rw [hp']
                  refine ⟨rfl, ?_⟩
                  have gf : (H c ∨ (G c ∧ ¬ F c)) → (H c ∨ (φ m' c ∧ ¬ F c)) := fun hh => hh.imp id fun hh => ⟨(k6 c hh.1).1, hh.2⟩
                  rcases hc with ⟨c1, c2⟩ | hc
                  · by_cases hG : G c
                    · exact gf (c2 hG)
                    · exact .inr ⟨c1, fun hF => hG (f1 c hF)⟩
                  · exact gf hc
                · intro m' B _ hB q i' j' v1 hq γ' φ' sv' hg hsv'
                  simp only [List.mem_singleton, Prod.mk.injEq, Option.some.injEq] at hB
                  obtain ⟨rfl, rfl⟩ := hB
                  obtain ⟨⟨g1, b1⟩, ⟨g2, b2⟩, b3⟩ := h.bk q _ hq
                  refine ⟨⟨g1, hg _ _ b1⟩, ⟨g2, hg _ _ b2⟩, fun zp1 v' rp1 hh => ?_⟩
                  rw [hsv'] at hh
                  cases hh
                  obtain ⟨c1, c2⟩ := b3 zp vp rp hp
                  refine ⟨c1, fun e z3 r3 hn => ?_⟩
                  have old : ∃ r4, nest rp i' j' = some (z3, r4) := by
                    rcases nest_set hb hn with ⟨rfl, rfl, rfl⟩ | hn
                    · exact ⟨_, hb⟩
                    · exact ⟨_, hn⟩
                  obtain ⟨r4, hn⟩ := old
                  obtain ⟨v3, b3', off3, len3, cap3, d1, d2, d3⟩ := c2 e z3 r4 hn
                  refine ⟨v3, _, _, _, _, hg _ _ d1, hg _ _ d2, ?_⟩
                  rw [k2, k3] at d2
                  cases d2
                  exact (World.cell?_of_block (a := ⟨b, off + (i' * zp + j'), none⟩) hbb).trans d3
                · intro m' B _ hB v es
                  simp only [List.mem_singleton, Prod.mk.injEq, Option.some.injEq] at hB
                  rw [hB.2]; simp
              · cases hu
            · cases hb
          · cases hb
        · cases hx
      · cases hx
    · cases hx
  | sl o z r => exact rest rfl (by simp only [ln1, ex1] at hx; cases hx; rfl) fun t' => by simp [bk1]
  | sc u => exact rest rfl (by simp only [ln1, ex1] at hx; cases hx; rfl) fun t' => by simp [bk1]
  | er => exact rest rfl (by simp only [ln1, ex1] at hx; cases hx; rfl) fun t' => by simp [bk1]
  | no => exact rest rfl (by simp only [ln1, ex1] at hx; cases hx; rfl) fun t' => by simp [bk1]
  | mc es => exact rest rfl (by simp only [ln1, ex1] at hx; cases hx; rfl) fun t' => by simp [bk1]
  | _ => simp [ln1, ex1] at hx
end
end Go.Proofs.YtkkmgjhfjhcdmaaGreatDoor.Mx

namespace Go.Proofs.YtkkmgjhfjhcdmaaGreatDoor.Mx
open Go Go.RowKit
section
variable {w0 : World} {M R : Nat → Prop} {γ : Gs} {φ : Fp} {tv : Tv} {sv : Sv} {a : Act} {w w' : World} {P : Program} {T : Ty} {ok ok' : Nat → Prop}
theorem live_gh (h : Sim w0 M R γ φ tv sv a w) {N : List Nat} (l : ∀ n ∈ N, live sv n) : ∀ n ∈ N, ∃ g, γ n = some g := fun n hn => by
  obtain ⟨B, hB⟩ := Option.isSome_iff_exists.1 (l n hn)
  exact blk_gh h hB
theorem bkL_len (sv : Sv) : ∀ (cs q : Row) (u : Up), bkL sv cs q = some u → q.length = cs.length
  | [], [], _, _ => rfl
  | [], _ :: _, _, h => by simp [bkL] at h
  | _ :: _, [], _, h => by simp [bkL] at h
  | x :: r, t :: q, u, h => by
    simp only [bkL] at h
    split at h
    · rename_i u1 u2 h1 h2
      simp [bkL_len sv r q u2 h2]
    · cases h
theorem lnL_ok (h : Sim w0 M R γ φ tv sv a w) : ∀ (cs l : Row) (N : List Nat) (vs : Nat → Value), (∀ (j : Nat) (x : AV), cs[j]? = some x → RepC w (okOf w0 M R φ sv w) γ (vs j) x) → exL (ln1 sv) cs = some (l, N) → nodupB N = true →
    l.length = cs.length ∧ (∀ n ∈ N, live sv n) ∧ ∃ Fs : Nat → Nat → Prop, (∀ j b, Fs j b → Nφ φ N b) ∧ (∀ i j b, Fs i b → Fs j b → i = j) ∧ (∀ (j : Nat) (y : AV), l[j]? = some y → Own w (okOf w0 M R φ sv w) (Fs j) (vs j) y) ∧
      ∀ (w' : World) (ok' : Nat → Prop) (Hs : Nat → Nat → Prop) (k : Nat) (q : Row) (u : Up), (∀ j, k ≤ j → j < k + cs.length → γ j = none) → Kp w w' → (∀ b, Nφ φ N b → ¬ (∃ j, Fs j b) → w'.heap[b]? = w.heap[b]?) → (∀ b, okOf w0 M R φ sv w b → ok' b ∧ w'.heap[b]? = w.heap[b]?) →
        (∀ b, (∃ j, Hs j b) → Nφ φ N b → ∃ j, Fs j b) → (∀ i j b, Hs i b → Hs j b → i = j) → (∀ (j : Nat) (y : AV), q[j]? = some y → Own w' ok' (Hs j) (vs j) y) → bkL sv cs q = some u → ∃ γd φd, Back γ φ sv w' ok' N (fun b => ∃ j, Fs j b) (fun b => ∃ j, Hs j b) k cs.length u γd φd
  | [], l, N, vs, hv, hx, hn => by
    simp only [exL] at hx
    cases hx
    refine ⟨rfl, fun n hn => by simp at hn, fun _ _ => False, fun _ _ h => h.elim, fun _ _ _ h => h.elim, fun j y hy => by simp at hy, fun w' ok' Hs k q u _ _ _ _ _ _ _ hu => ?_⟩
    cases q with
    | nil => simp only [bkL] at hu; cases hu; exact Back.nil
    | cons => simp [bkL] at hu
  | x :: r, l, N, vs, hv, hx, hn => by
    simp only [exL] at hx
    split at hx
    · rename_i y ns l' ms h1 h2
      cases hx
      obtain ⟨n1, n2, n3⟩ := nodupB_app hn
      obtain ⟨F0, p1, p2, p3, p4⟩ := ln1_ok h (hv 0 x rfl) h1
      obtain ⟨b1, b2, Fs, b3, b4, b5, b6⟩ := lnL_ok h r l' ms (fun j => vs (j + 1)) (fun j x hj => hv (j + 1) x (by simpa using hj)) h2 n2
      have dj := Nφ_dj h p1 b2 n3
      refine ⟨by simp [b1], fun n hn => ?_, fun j => match j with | 0 => F0 | j + 1 => Fs j, ?_, ?_, ?_, ?_⟩
      · rcases List.mem_append.1 hn with hn | hn
        · exact p1 n hn
        · exact b2 n hn
      · rintro (_ | j) b hb
        · obtain ⟨n, hn, hb⟩ := p2 b hb; exact ⟨n, List.mem_append_left _ hn, hb⟩
        · obtain ⟨n, hn, hb⟩ := b3 j b hb; exact ⟨n, List.mem_append_right _ hn, hb⟩
      · rintro (_ | i) (_ | j) b hb hb'
        · rfl
        · exact (dj b (p2 b hb) (b3 j b hb')).elim
        · exact (dj b (p2 b hb') (b3 i b hb)).elim
        · rw [b4 i j b hb hb']
      · rintro (_ | j) y hy
        · simp at hy; subst hy; exact p3
        · exact b5 j y (by simpa using hy)
      · intro w' ok' Hs k q u hr hk hs hok hH hHd hO hu
        cases q with
        | nil => simp [bkL] at hu
        | cons t q =>
          simp only [bkL] at hu
          split at hu
          · rename_i u1 u2 e1 e2
            cases hu
            have inN : ∀ b, Nφ φ ns b → Nφ φ (ns ++ ms) b := fun b ⟨n, hn, hb⟩ => ⟨n, List.mem_append_left _ hn, hb⟩
            have inM : ∀ b, Nφ φ ms b → Nφ φ (ns ++ ms) b := fun b ⟨n, hn, hb⟩ => ⟨n, List.mem_append_right _ hn, hb⟩
            have exF : ∀ b, (∃ j, (fun j => match j with | 0 => F0 | j + 1 => Fs j : Nat → Nat → Prop) j b) ↔ F0 b ∨ ∃ j, Fs j b := fun b => by
              constructor
              · rintro ⟨_ | j, hb⟩
                · exact .inl hb
                · exact .inr ⟨j, hb⟩
              · rintro (hb | ⟨j, hb⟩)
                · exact ⟨0, hb⟩
                · exact ⟨j + 1, hb⟩
            simp only [List.length_cons] at hr
            have x1 : ∀ b, Hs 0 b → Nφ φ ns b → F0 b := fun b hb hN => by
              rcases (exF b).1 (hH b ⟨0, hb⟩ (inN b hN)) with hf | ⟨j, hf⟩
              · exact hf
              · exact (dj b hN (b3 j b hf)).elim
            have x2 : ∀ b, (∃ j, Hs (j + 1) b) → Nφ φ ms b → ∃ j, Fs j b := fun b ⟨j, hb⟩ hN => by
              rcases (exF b).1 (hH b ⟨j + 1, hb⟩ (inM b hN)) with hf | hf
              · exact (dj b (p2 b hf) hN).elim
              · exact hf
            have y1 : ∀ b, Hs 0 b → Nφ φ ms b → ∃ j, Fs j b := fun b hb hN => by
              rcases (exF b).1 (hH b ⟨0, hb⟩ (inM b hN)) with hf | hf
              · exact (dj b (p2 b hf) hN).elim
              · exact hf
            have y2 : ∀ b, (∃ j, Hs (j + 1) b) → Nφ φ ns b → F0 b := fun b ⟨j, hb⟩ hN => by
              rcases (exF b).1 (hH b ⟨j + 1, hb⟩ (inN b hN)) with hf | ⟨j, hf⟩
              · exact hf
              · exact (dj b hN (b3 j b hf)).elim
            obtain ⟨γ1, φ1, B1⟩ := p4 w' ok' (Hs 0) k t u1 (fun j a b => hr j a (by omega)) hk (fun b hb hf => hs b (inN b hb) fun hh => by
              rcases (exF b).1 hh with hf' | ⟨j, hf'⟩
              · exact hf hf'
              · exact dj b hb (b3 j b hf')) hok x1 (hO 0 t rfl) e1
            obtain ⟨γ2, φ2, B2⟩ := b6 w' ok' (fun j => Hs (j + 1)) (k + 1) q u2 (fun j a b => hr j (by omega) (by omega)) hk (fun b hb hf => hs b (inM b hb) fun hh => by
              rcases (exF b).1 hh with hf' | hf'
              · exact dj b (p2 b hf') hb
              · exact hf hf') hok x2 (fun i j b hb hb' => by have := hHd _ _ b hb hb'; omega) (fun j y hy => hO (j + 1) y (by simpa using hy)) e2
            have := Back.app (k := k) (n1 := 1) B1 B2 (fun j a b => hr j a (by omega)) (live_gh h p1) (live_gh h b2) n3 dj p2 (fun b ⟨j, hb⟩ => b3 j b hb) (fun b hb ⟨j, hb'⟩ => by have := hHd _ _ b hb hb'; omega) y1 y2
              (N := ns ++ ms) (F := fun b => ∃ j, (fun j => match j with | 0 => F0 | j + 1 => Fs j : Nat → Nat → Prop) j b) (H := fun b => ∃ j, Hs j b) (u := u1 ++ u2) (fun n => List.mem_append) exF (fun b hb => hb.elim (fun hb => ⟨0, hb⟩) fun ⟨j, hb⟩ => ⟨j + 1, hb⟩) (fun p => List.mem_append)
            rw [show (x :: r).length = 1 + r.length by simp; omega]
            exact ⟨_, _, this⟩
          · cases hu
    · cases hx
abbrev APass (w0 : World) (M R : Nat → Prop) (γ : Gs) (φ : Fp) (sv : Sv) (w : World) (v : Value) (x t : AV) (N : List Nat) (F : Nat → Prop) : Prop :=
  Pass w0 M R γ φ sv w (fun k t' => bkA sv k x t') OwnA v t wd N F
theorem lnA_ok (h : Sim w0 M R γ φ tv sv a w) {v : Value} {x t : AV} {N : List Nat} (hv : RepV w (okOf w0 M R φ sv w) γ v x) (hx : lnA sv x = some (t, N)) (hn : nodupB N = true) : ∃ F, APass w0 M R γ φ sv w v x t N F := by
  have small : lnA sv x = ln1 sv x → RepC w (okOf w0 M R φ sv w) γ v x → (∀ N cs, ln1 sv x ≠ some (.ag cs, N)) → (∀ k t', bkA sv k x t' = bk1 sv x t') → (∀ t' u, bk1 sv x t' = some u → u = [] ∨ ∃ z r, t' = .sl true z r) → ∃ F, APass w0 M R γ φ sv w v x t N F := by
    intro e hc hne hb hb2
    rw [e] at hx
    obtain ⟨F, p1, p2, p3, p4⟩ := ln1_ok h hc hx
    refine ⟨F, p1, p2, ?_, fun w' ok' H k t' u hr hk hs hok hH ho hu => ?_⟩
    · cases t <;> first | exact p3 | exact (hne _ _ hx).elim
    · rw [hb] at hu
      rcases hb2 t' u hu with rfl | ⟨z, r, rfl⟩
      · exact Back.nil
      · exact p4 w' ok' H k (.sl true z r) u hr hk hs hok hH ho hu
  cases x with
  | ag cs =>
    simp only [lnA] at hx
    split at hx
    · rename_i l ns hl
      cases hx
      obtain ⟨vs, rfl, h1, h2⟩ := hv
      have hvs : ∀ j x, cs[j]? = some x → vs[j]? = some (vs.getD j undef) := fun j x hj => by
        have := idx_lt hj
        rw [List.getD_eq_getElem?_getD, List.getElem?_eq_getElem (by omega)]; rfl
      obtain ⟨b1, b2, Fs, b3, b4, b5, b6⟩ := lnL_ok h cs l N (fun j => vs.getD j undef) (fun j x hj => (h2 j _ x (hvs j x hj) hj).1) hl hn
      refine ⟨fun b => ∃ j, Fs j b, b2, fun b ⟨j, hb⟩ => b3 j b hb, ⟨vs, Fs, rfl, h1.trans b1.symm, fun j b hb => ⟨j, hb⟩, b4, fun j u y hu hy => ?_⟩, fun w' ok' H k t' u hr hk hs hok hH ho hu => ?_⟩
      · have e : u = vs.getD j undef := by rw [List.getD_eq_getElem?_getD, hu]; rfl
        subst e
        have hj : j < cs.length := by rw [← b1]; exact idx_lt hy
        exact ⟨b5 j y hy, (h2 j _ _ hu (List.getElem?_eq_getElem hj)).2⟩
      · cases t' with
        | ag q =>
          simp only [bkA] at hu
          have hq := bkL_len sv _ _ _ hu
          obtain ⟨vs', Hs, e, e1, e2, e3, e4⟩ := ho
          have : vs' = vs := by simpa using e.symm
          subst this
          simp only [wd] at hr
          rw [hq] at hr
          obtain ⟨γd, φd, B⟩ := b6 w' ok' Hs k q u hr hk hs hok (fun b ⟨j, hb⟩ hN => hH b (e2 j b hb) hN) e3 (fun j y hy => by
            have hj : j < cs.length := by rw [← hq]; exact idx_lt hy
            exact (e4 j _ y (hvs j _ (List.getElem?_eq_getElem hj)) hy).1) hu
          refine ⟨γd, φd, ?_⟩
          simp only [wd, hq]
          exact ⟨B.rng, B.fn, B.dom, fun m b hb => (B.sub m b hb).imp (fun ⟨j, hb⟩ => e2 j b hb) id, B.dj, B.ok, B.al, B.nm⟩
        | _ => simp [bkA] at hu
    · cases hx
  | pt m i j =>
    by_cases hij : i = 0 ∧ j = 0
    · obtain ⟨rfl, rfl⟩ := hij
      simp only [lnA] at hx
      obtain ⟨a1, a2⟩ := exA_ok h hv hx hn
      refine ⟨Nφ φ N, a1, fun b hb => hb, a2, fun w' ok' H k t' u hr hk hs hok hH ho hu => ?_⟩
      have hm : ∃ cs, sv m = some (.bx cs) ∧ m ∈ N := by
        simp only [exA] at hx
        split at hx
        · rename_i cs hm
          split at hx
          · cases hx; exact ⟨cs, hm, by simp⟩
          · cases hx
        · cases hx
      obtain ⟨cs0, hm, hmN⟩ := hm
      obtain ⟨b, cur, e, fr, k1, k2, k3, k4, k5, k6⟩ := h.bk m _ hm
      obtain ⟨v0, z, g1, g2⟩ := hv
      rw [k1] at g1
      cases g1
      obtain ⟨_, rfl⟩ := g2
      cases t' with
      | pb o q =>
        cases o with
        | false => simp [bkA] at hu
        | true =>
          simp only [bkA] at hu
          cases hu
          have ho : Own w' ok' H _ (.pb true q) := ho
          generalize hpv : Value.pointer (some ⟨b, 0 + 0, none⟩) = pv at ho
          cases ho with
          | rd _ _ _ h1 h2 => exact (h2 _ rfl).elim
          | pb _ b' _ cur' e' fr' Fs q1 q2 q3 q4 q5 q6 q7 q8 =>
            simp only [Value.pointer.injEq, Option.some.injEq, Addr.mk.injEq] at hpv
            obtain ⟨rfl, _, _⟩ := hpv
            obtain ⟨γ2, φ2, A, r2⟩ := thL_ad q k (fun j => cur'.getD j undef) Fs q6 q8
            simp only [wd] at hr
            have hmk : ¬ (k ≤ m ∧ m < k + q.length) := fun hh => by rw [hr m hh.1 (by omega)] at k1; cases k1
            have nm : ∀ B, (m, B) ∉ (thL k q).2 := fun B hB => hmk ⟨(A.rng m B hB).1, (A.rng m B hB).2.1⟩
            refine ⟨γ2, fun j c => (j = m ∧ c = b) ∨ ((k ≤ j ∧ j < k + q.length) ∧ φ2 j c), ?_⟩
            have mem : ∀ m' B, (m', B) ∈ (thL k q).2 ++ [(m, some (.bx (thL k q).1))] ↔ (m', B) ∈ (thL k q).2 ∨ (m' = m ∧ B = some (.bx (thL k q).1)) := fun m' B => by simp
            have onr : ∀ j, k ≤ j → j < k + q.length → (fun c => (j = m ∧ c = b) ∨ ((k ≤ j ∧ j < k + q.length) ∧ φ2 j c)) = φ2 j := fun j a b' => by
              funext c
              refine propext ⟨?_, fun hh => .inr ⟨⟨a, b'⟩, hh⟩⟩
              rintro (⟨rfl, _⟩ | ⟨_, hh⟩)
              · exact (hmk ⟨a, b'⟩).elim
              · exact hh
            constructor
            · intro m' B hB
              rcases (mem m' B).1 hB with hB | ⟨rfl, rfl⟩
              · have := A.rng m' B hB; exact ⟨.inr ⟨this.1, by simp only [wd]; omega⟩, this.2.2⟩
              · exact ⟨.inl hmN, _, rfl⟩
            · intro m' B B' hB hB'
              rcases (mem m' B).1 hB with c1 | ⟨e1, d1⟩ <;> rcases (mem _ B').1 hB' with c2 | ⟨e2, d2⟩
              · exact A.fn m' B B' c1 c2
              · rw [e2] at c1; exact (nm _ c1).elim
              · rw [e1] at c2; exact (nm _ c2).elim
              · rw [d1, d2]
            · rintro m' c (⟨rfl, _⟩ | ⟨hh, _⟩)
              · exact .inl hmN
              · exact .inr ⟨hh.1, by simp only [wd]; omega⟩
            · rintro m' c (⟨_, rfl⟩ | ⟨_, hh⟩)
              · exact .inl q1
              · obtain ⟨j, hj⟩ := A.sub m' c hh; exact .inl (q5 j c hj).1
            · rintro m1 m2 c (⟨rfl, rfl⟩ | ⟨_, hh⟩) (⟨rfl, e1⟩ | ⟨_, hh'⟩)
              · rfl
              · obtain ⟨j, hj⟩ := A.sub m2 _ hh'; exact ((q5 j _ hj).2 rfl).elim
              · obtain ⟨j, hj⟩ := A.sub m1 c hh; exact ((q5 j c hj).2 e1).elim
              · exact A.dj m1 m2 c hh hh'
            · intro m' B hB γ' φ' sv' hg hg' hp hp'
              simp only [wd] at hg' hp'
              have ag : Agr k q.length γ2 γ' := fun j a b' => hg' j a (by omega)
              rcases (mem m' _).1 hB with c1 | ⟨rfl, c1⟩
              · exact A.ok m' B c1 γ' φ' sv' ag fun j a b' => (hp' j a (by omega)).trans (onr j a b')
              · cases c1
                exact ⟨b, cur', e', fr', hg _ _ k1, by rw [hp]; exact .inl ⟨rfl, rfl⟩, q2, q3, by rw [thL_len]; exact q4, fun j x hj => ⟨r2 γ' ag j x hj, q7 j _ (List.getElem?_eq_getElem (by have := idx_lt hj; rw [thL_len] at this; exact this))⟩⟩
            · intro m' B hm' hB q' i j v hq γ' φ' sv' hg hs'
              obtain ⟨⟨g1, b1⟩, ⟨g2, b2⟩, b3⟩ := h.bk q' _ hq
              refine ⟨⟨g1, hg _ _ b1⟩, ⟨g2, hg _ _ b2⟩, fun zp v' rp hh => ?_⟩
              rcases (mem m' _).1 hB with c1 | ⟨rfl, c1⟩
              · have := A.rng m' _ c1
                rw [hr m' this.1 (by omega)] at b2
                cases b2
              · cases c1
                rw [hs'] at hh
                cases hh
            · intro m' B hm' hB v es
              rcases (mem m' _).1 hB with c1 | ⟨_, c1⟩
              · have := A.rng m' _ c1
                obtain ⟨g, hg⟩ := live_gh h a1 m' hm'
                rw [hr m' this.1 (by omega)] at hg
                cases hg
              · cases c1; simp
      | _ => simp [bkA] at hu
    · have : lnA sv (.pt m i j) = ln1 sv (.pt m i j) := by
        unfold lnA
        split
        · rename_i hh; cases hh
        · rename_i hh; cases hh; exact (hij ⟨rfl, rfl⟩).elim
        · rfl
      rw [this] at hx
      simp [ln1, ex1] at hx
  | ow m lo n =>
    refine small rfl hv (fun N cs hh => ?_) (fun k t' => by cases t' <;> rfl) fun t' u hu => ?_
    · simp only [ln1] at hh
      split at hh
      · rw [cond_eq_ite] at hh; split at hh <;> cases hh
      · split at hh
        · rw [cond_eq_ite] at hh; split at hh <;> cases hh
        · cases hh
      · cases hh
    · cases t' with
      | sl o z r =>
        cases o with
        | true => exact .inr ⟨z, r, rfl⟩
        | false =>
          simp only [bk1] at hu
          split at hu
          · cases hu; exact .inl rfl
          · cases hu
      | _ => simp [bk1] at hu
  | sl o z r => exact small rfl hv (fun N cs hh => by simp [ln1, ex1] at hh) (fun k t' => by cases t' <;> rfl) fun t' u hu => by simp [bk1] at hu; exact .inl hu
  | sc u => exact small rfl hv (fun N cs hh => by simp [ln1, ex1] at hh) (fun k t' => by cases t' <;> rfl) fun t' u hu => by simp [bk1] at hu; exact .inl hu
  | er => exact small rfl hv (fun N cs hh => by simp [ln1, ex1] at hh) (fun k t' => by cases t' <;> rfl) fun t' u hu => by simp [bk1] at hu; exact .inl hu
  | no => exact small rfl hv (fun N cs hh => by simp [ln1, ex1] at hh) (fun k t' => by cases t' <;> rfl) fun t' u hu => by simp [bk1] at hu; exact .inl hu
  | mc es => exact small rfl hv (fun N cs hh => by simp [ln1, ex1] at hh) (fun k t' => by cases t' <;> rfl) fun t' u hu => by simp [bk1] at hu; exact .inl hu
  | _ => simp [lnA, ln1, ex1] at hx
end
end Go.Proofs.YtkkmgjhfjhcdmaaGreatDoor.Mx
