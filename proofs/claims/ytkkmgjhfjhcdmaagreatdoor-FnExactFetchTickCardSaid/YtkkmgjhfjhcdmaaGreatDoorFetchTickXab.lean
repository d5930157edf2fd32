/- A machine over values for Go functions, proved sound, and functions run on it: texts O3, O4, O5, O6. -/
import Derived.Test.YtkkmgjhfjhcdmaaGreatDoorFetchTickXaa
/- Operations that make or read: constants, boxes, loads. -/
namespace Go.Proofs.YtkkmgjhfjhcdmaaGreatDoor.Mx
set_option linter.all false
open Go Go.RowKit
section
variable {w0 : World} {M R : Nat → Prop} {γ : Gs} {φ : Fp} {tv : Tv} {sv : Sv} {a : Act} {w : World} {P : Program} {T : Ty}
theorem syncF_app (u v : List (Nat × Option Blk)) (s : Sv) : syncF (u ++ v) s = syncF v (syncF u s) := by
  induction u generalizing s with
  | nil => rfl
  | cons p u ih => obtain ⟨m, B⟩ := p; simp only [List.cons_append, syncF, ih]
/-- a new name for an empty slice -/
theorem Sim.nilN (h : Sim w0 M R γ φ tv sv a w) {n : Nat} (hn : γ n = none) (z : Nat) :
    Sim w0 M R (γN γ n (.slice none 0 0, z)) (φN φ n fun _ => False) tv (updS sv n (some (.ar z 0 []))) a w ∧ ∀ b, okOf w0 M R φ sv w b → okOf w0 M R (φN φ n fun _ => False) (updS sv n (some (.ar z 0 []))) w b := by
  have := h.new hn [] (fun k hk => by cases hk) (w' := w) (g := (.slice none 0 0, z)) (F := fun _ => False) (B := .ar z 0 []) rfl rfl rfl (Kp.refl _) (Nat.le_refl _) (fun _ _ _ => rfl) (fun b hb => hb.elim) (fun hok => ⟨_, γN_self, .nil _ _⟩)
  exact ⟨this.1, fun b hb => (this.2 b hb).1⟩
/-- zero cells, their empty slices named -/
theorem zbox_ok (b0 : Nat) : ∀ (vs : List Value) (cz : List (Option Nat)) (b : Nat) {γ : Gs} {φ : Fp} {sv : Sv}, Sim w0 M R γ φ tv sv a w → (∀ n, b ≤ n → n < b + vs.length → γ n = none) →
    (∀ (k z : Nat), cz[k]? = some (some z) → vs[k]? = some (.slice none 0 0)) →
    ∃ γ' φ', (∀ n, ¬ (b ≤ n ∧ n < b + vs.length) → γ' n = γ n ∧ φ' n = φ n) ∧ (∀ m g, γ m = some g → γ' m = some g) ∧ (∀ c, okOf w0 M R φ sv w c → okOf w0 M R φ' (syncF (zbox b vs cz).2 sv) w c) ∧
      Sim w0 M R γ' φ' tv (syncF (zbox b vs cz).2 sv) a w ∧ (zbox b vs cz).1.length = vs.length ∧
      ∀ (j : Nat) (v : Value) (x : AV), vs[j]? = some v → (zbox b vs cz).1[j]? = some x → RepC w (okOf w0 M R φ' (syncF (zbox b vs cz).2 sv) w) γ' v x
  | [], cz, b, γ, φ, sv, h, _, _ => ⟨γ, φ, fun _ _ => ⟨rfl, rfl⟩, fun _ _ h => h, fun _ h => by simpa [zbox, syncF] using h, by simpa [zbox, syncF] using h, by simp [zbox], fun j v x hv _ => by simp at hv⟩
  | u :: vs, cz, b, γ, φ, sv, h, hf, hc => by
    have plainCase : ∀ (cz' : List (Option Nat)), (∀ (k z : Nat), cz'[k]? = some (some z) → vs[k]? = some (.slice none 0 0)) → zbox b (u :: vs) cz = (scp u :: (zbox (b + 1) vs cz').1, (zbox (b + 1) vs cz').2) →
        ∃ γ' φ', (∀ n, ¬ (b ≤ n ∧ n < b + (u :: vs).length) → γ' n = γ n ∧ φ' n = φ n) ∧ (∀ m g, γ m = some g → γ' m = some g) ∧ (∀ c, okOf w0 M R φ sv w c → okOf w0 M R φ' (syncF (zbox b (u :: vs) cz).2 sv) w c) ∧
      Sim w0 M R γ' φ' tv (syncF (zbox b (u :: vs) cz).2 sv) a w ∧ (zbox b (u :: vs) cz).1.length = (u :: vs).length ∧
      ∀ (j : Nat) (v : Value) (x : AV), (u :: vs)[j]? = some v → (zbox b (u :: vs) cz).1[j]? = some x → RepC w (okOf w0 M R φ' (syncF (zbox b (u :: vs) cz).2 sv) w) γ' v x := by
      intro cz' hc' he
      obtain ⟨γ', φ', h1, h2, h3, h4, h5, h6⟩ := zbox_ok b0 vs cz' (b + 1) h (fun n h1 h2 => hf n (by omega) (by simp; omega)) hc'
      rw [he]
      refine ⟨γ', φ', fun n hn => h1 n (fun hh => hn (by simp at hh ⊢; omega)), h2, h3, h4, by simp [h5], ?_⟩
      intro j v x hv hx
      cases j with
      | zero =>
        simp at hv hx
        subst hv hx
        unfold scp
        cases hp : plain u
        · exact Rep.no _
        · exact Rep.sc _ hp
      | succ j => exact h6 j v x (by simpa using hv) (by simpa using hx)
    cases cz with
    | nil => exact plainCase [] (fun k z hk => by simp at hk) (by simp [zbox])
    | cons c cz =>
      cases c with
      | none => exact plainCase cz (fun k z hk => by have := hc (k + 1) z (by simpa using hk); simpa using this) (by simp [zbox])
      | some z =>
        have hu : u = .slice none 0 0 := by simpa using hc 0 z (by simp)
        subst hu
        have hfb := hf b (Nat.le_refl _) (by simp)
        obtain ⟨hs1, ho1⟩ := h.nilN hfb z
        obtain ⟨γ', φ', h1, h2, h3, h4, h5, h6⟩ := zbox_ok b0 vs cz (b + 1) hs1 (fun n h1 h2 => by rw [γN_ne (by omega)]; exact hf n (by omega) (by simp; omega)) (fun k z hk => by have := hc (k + 1) z (by simpa using hk); simpa using this)
        have he : zbox b (.slice none 0 0 :: vs) (some z :: cz) = (.ow b 0 0 :: (zbox (b + 1) vs cz).1, (b, some (.ar z 0 [])) :: (zbox (b + 1) vs cz).2) := by simp [zbox]
        rw [he]
        refine ⟨γ', φ', ?_, ?_, ?_, ?_, by simp [h5], ?_⟩
        · intro n hn
          have hne : n ≠ b := fun e => hn (by subst e; simp)
          obtain ⟨g1, g2⟩ := h1 n (fun hh => hn (by simp at hh ⊢; omega))
          rw [γN_ne hne] at g1
          rw [φN_ne hne] at g2
          exact ⟨g1, g2⟩
        · intro m g hg
          exact h2 m g (γN_ext hfb m g hg)
        · intro c hcok
          exact h3 c (ho1 c hcok)
        · exact h4
        · intro j v x hv hx
          cases j with
          | zero =>
            simp at hv hx
            subst hv hx
            exact ⟨_, z, h2 b _ γN_self, rfl, rfl, rfl⟩
          | succ j => exact h6 j v x (by simpa using hv) (by simpa using hx)
/-- a constant, a copy -/
theorem move_ok (hT : TOk P T) (h : Sim w0 M R γ φ tv sv a w) {b : Nat} (hf : Fresh γ b) {x : Operand} {ty : TypeId} {d : Dl} (hd : aop T (.move x) ty b tv sv = some d) :
    OpRes P w0 M R γ tv sv a w b (pure (.value (a.eval x))) d := by
  simp only [aop] at hd
  cases hx : isNil x with
  | false =>
    rw [hx] at hd
    simp only [cond_false] at hd
    cases hd
    exact opres_pure' h (opv_ok h x)
  | true =>
    rw [hx] at hd
    simp only [cond_true] at hd
    split at hd
    · rename_i te he
      cases hd
      have hv : a.eval x = .slice none 0 0 := by
        unfold isNil at hx
        split at hx
        · rfl
        · cases hx
      rw [hv]
      have hb := hf b (Nat.le_refl _) (by omega)
      obtain ⟨hs, _⟩ := h.nilN hb te.size
      exact ⟨_, w, _, _, .inl (by simp), fun n hn => by rw [γN_ne (by omega)], hs, _, te.size, γN_self, rfl, rfl, rfl⟩
    · cases hd
/-- a new block of cells under a new name -/
theorem Sim.boxN (h : Sim w0 M R γ φ tv sv a w) {n : Nat} (hn : γ n = none) {cs : Row} {cur : Array Value} {e : TypeId} (hl : cs.length ≤ cur.size) (h1 : ∀ (j : Nat) (v : Value), cur[j]? = some v → v.oneCell' = true)
    (hr : ∀ (j : Nat) (v : Value) (x : AV), cur[j]? = some v → cs[j]? = some x → RepC w (okOf w0 M R φ sv w) γ v x) :
    Sim w0 M R (γN γ n (.pointer (some ⟨w.heap.size, 0, none⟩), 0)) (φN φ n fun b => b = w.heap.size) tv (updS sv n (some (.bx cs))) a (w.alloc (.cells cur e)) := by
  refine (h.new hn [] (fun k hk => by cases hk) (w' := w.alloc (.cells cur e)) (g := (.pointer (some ⟨w.heap.size, 0, none⟩), 0)) (F := fun b => b = w.heap.size) (B := .bx cs) rfl rfl rfl (Kp.old fun k hk => by rw [alloc_heap, if_neg (by omega)]) (by rw [alloc_size]; omega)
    (fun b hb _ => by rw [alloc_heap, if_neg (by omega)]) (fun b hb => by subst hb; rw [alloc_size]; exact ⟨by omega, .inl (Nat.le_refl _)⟩) (fun hok => ?_)).1
  refine ⟨w.heap.size, cur, e, (0, 0), γN_self, by rw [φN_self], by rw [alloc_heap, if_pos rfl], fun o ho => by simp, hl, fun j x hj => ?_⟩
  have hj' : j < cur.size := Nat.lt_of_lt_of_le (idx_lt hj) hl
  have hv := getD_some (d := undef) hj'
  exact ⟨(hr j _ x hv hj).mono hok (γN_ext hn), h1 j _ hv⟩
theorem box_run {e : TypeId} {v : Value} : (Instr.box e v).run P w = .ok (.pointer (some ⟨w.heap.size, 0, none⟩)) (w.alloc (.cells v.cells e)) := by
  simp [Instr.box, newVar, newRow]
theorem cells_rep {ok : Nat → Prop} {v : Value} {x : AV} {cs : Row} (hv : RepV w ok γ v x) (hc : cellsOf x = some cs) :
    v.cells.size = cs.length ∧ (∀ (j : Nat) (u : Value), v.cells[j]? = some u → u.oneCell' = true) ∧ ∀ (j : Nat) (u : Value) (y : AV), v.cells[j]? = some u → cs[j]? = some y → RepC w ok γ u y := by
  have single : (∀ l, x ≠ .ag l) → x ≠ .no → (∀ l, x ≠ .tu l) → RepC w ok γ v x → cs = [x] → v.cells.size = cs.length ∧ (∀ (j : Nat) (u : Value), v.cells[j]? = some u → u.oneCell' = true) ∧ ∀ (j : Nat) (u : Value) (y : AV), v.cells[j]? = some u → cs[j]? = some y → RepC w ok γ u y := by
    intro hx hno htu hr he
    subst he
    have hna : v.oneCell' = true ∧ v.cells = #[v] := by
      cases x with
      | ag l => exact (hx l rfl).elim
      | no => exact (hno rfl).elim
      | tu l => exact (htu l rfl).elim
      | ow m lo n =>
        obtain ⟨v0, z, _, hs⟩ := hr
        unfold Sub at hs
        split at hs
        · obtain ⟨rfl, _⟩ := hs; exact ⟨rfl, rfl⟩
        · obtain ⟨o', c', rfl, _⟩ := hs; exact ⟨rfl, rfl⟩
        · exact hs.elim
      | pt m i j =>
        obtain ⟨v0, z, _, hs⟩ := hr
        unfold PtAt at hs
        split at hs
        · obtain ⟨_, rfl⟩ := hs; exact ⟨rfl, rfl⟩
        · obtain ⟨_, rfl⟩ := hs; exact ⟨rfl, rfl⟩
        · exact hs.elim
      | mv m => obtain ⟨r, z, rfl, _⟩ := hr; exact ⟨rfl, rfl⟩
      | sc u =>
        have hr : Rep w ok v (.sc u) := hr
        cases hr with
        | sc _ hp => cases v <;> first | exact ⟨rfl, rfl⟩ | (simp [plain] at hp; done)
      | er => have hr : Rep w ok v .er := hr; cases hr; exact ⟨rfl, rfl⟩
      | sl o z r => have hr : Rep w ok v (.sl o z r) := hr; cases hr <;> exact ⟨rfl, rfl⟩
      | pb o c => have hr : Rep w ok v (.pb o c) := hr; cases hr; exact ⟨rfl, rfl⟩
      | mc es => have hr : Rep w ok v (.mc es) := hr; cases hr; exact ⟨rfl, rfl⟩
    rw [hna.2]
    refine ⟨rfl, fun j u hu => ?_, fun j u y hu hy => ?_⟩
    · cases j with
      | zero => simp at hu; subst hu; exact hna.1
      | succ j => simp at hu
    · cases j with
      | zero => simp at hu hy; subst hu hy; exact hr
      | succ j => simp at hu
  cases x with
  | ag l =>
    simp only [cellsOf] at hc
    cases hc
    obtain ⟨vs, rfl, hl, hr⟩ := hv
    refine ⟨by simpa [Value.cells] using hl, fun j u hu => ?_, fun j u y hu hy => (hr j u y (by simpa [Value.cells] using hu) hy).1⟩
    have hu' : vs[j]? = some u := by simpa [Value.cells] using hu
    have hj := idx_lt hu'
    exact (hr j u cs[j] hu' (by rw [List.getElem?_eq_getElem])).2
  | no => simp [cellsOf] at hc
  | tu l => simp [cellsOf] at hc
  | _ =>
    simp only [cellsOf, Option.some.injEq] at hc
    exact single (fun _ => by simp) (by simp) (fun _ => by simp) (by simpa only [RepV, RepA] using hv) hc.symm
theorem box_ok (h : Sim w0 M R γ φ tv sv a w) {b : Nat} (hf : Fresh γ b) {e : TypeId} {x : Operand} {cs : Row} (hc : cellsOf (opv tv x) = some cs) :
    OpRes P w0 M R γ tv sv a w b (do pure (.value (← Instr.box e (a.eval x)))) ⟨.pt b 0 0, [(b, some (.bx cs))]⟩ := by
  obtain ⟨h1, h2, h3⟩ := cells_rep (opv_ok h x) hc
  have hs := h.boxN (hf b (Nat.le_refl _) (by omega)) (cs := cs) (cur := (a.eval x).cells) (e := e) (by omega) h2 h3
  exact ⟨_, _, _, _, .inl (by simp only [Sem.run_bind, box_run, Result.andThen_ok, Sem.run_pure]), fun n hn => by rw [γN_ne (by omega)], hs, _, 0, γN_self, rfl, rfl⟩
theorem pt_rep {ok : Nat → Prop} {m c : Nat} (h : γ m = some (.pointer (some ⟨c, 0, none⟩), 0)) : RepV w ok γ (.pointer (some ⟨c, 0, none⟩)) (.pt m 0 0) := ⟨_, 0, h, rfl, rfl⟩
theorem alloc_run {e : TypeId} {ti : TI} (ht : TyOk P e ti) : ∃ cur : Array Value, cur.toList = ti.zero ∧ (Instr.alloc e true (.tuple #[])).run P w = .ok (.pointer (some ⟨w.heap.size, 0, none⟩)) (w.alloc (.cells cur e)) := by
  obtain ⟨z, h1, h2⟩ := zero_run (w := w) ht
  exact ⟨z.cells, h2, by simp [Instr.alloc, h1, newVar, newRow]⟩
theorem alloc_ok (hT : TOk P T) (h : Sim w0 M R γ φ tv sv a w) {b : Nat} (hf : Fresh γ b) {e : TypeId} {ti : TI} (ht : T e = some ti) :
    OpRes P w0 M R γ tv sv a w b (do pure (.value (← Instr.alloc e true (.tuple #[])))) ⟨.pt b 0 0, (zbox (b + 1) ti.zero ti.cz).2 ++ [(b, some (.bx (zbox (b + 1) ti.zero ti.cz).1))]⟩ := by
  have hti := hT e ti ht
  obtain ⟨cur, hcur, hrun⟩ := alloc_run (w := w) hti
  have hsz : ti.zero.length ≤ 60 := by rw [hti.zl]; exact hti.sm
  obtain ⟨γ', φ', h1, h2, h3, h4, h5, h6⟩ := zbox_ok b ti.zero ti.cz (b + 1) h (fun n h1 h2 => hf n (by omega) (by omega)) hti.cz
  have hb : γ' b = none := by rw [(h1 b (by omega)).1]; exact hf b (Nat.le_refl _) (by omega)
  have hs := h4.boxN hb (cs := (zbox (b + 1) ti.zero ti.cz).1) (cur := cur) (e := e) (by rw [h5, ← hcur]; simp) (fun j v hv => hti.zc v (by rw [← hcur]; exact List.mem_of_getElem? (by simpa using hv)))
    (fun j v x hv hx => h6 j v x (by rw [← hcur]; simpa using hv) hx)
  rw [← show syncF ((zbox (b + 1) ti.zero ti.cz).2 ++ [(b, some (.bx (zbox (b + 1) ti.zero ti.cz).1))]) sv = updS (syncF (zbox (b + 1) ti.zero ti.cz).2 sv) b (some (.bx (zbox (b + 1) ti.zero ti.cz).1)) from by rw [syncF_app]; rfl] at hs
  exact ⟨_, _, _, _, .inl (by simp only [Sem.run_bind, hrun, Result.andThen_ok, Sem.run_pure]), fun n hn => by rw [γN_ne (by omega)]; exact (h1 n (by omega)).1, hs, pt_rep γN_self⟩
end
end Go.Proofs.YtkkmgjhfjhcdmaaGreatDoor.Mx

/- Operations on addresses, slices and texts that change no memory. -/
namespace Go.Proofs.YtkkmgjhfjhcdmaaGreatDoor.Mx
set_option linter.all false
open Go Go.RowKit
section
variable {w0 : World} {M R : Nat → Prop} {γ : Gs} {φ : Fp} {tv : Tv} {sv : Sv} {a : Act} {w : World} {P : Program} {T : Ty} {ok : Nat → Prop}
theorem seg_get {α : Type} {r : List α} {lo n i : Nat} (h : i < n) : (seg r lo n)[i]? = r[lo + i]? := by
  unfold seg
  rw [List.getElem?_take_of_lt h, List.getElem?_drop]
theorem seg_len {α : Type} {r : List α} {lo n : Nat} (h : lo + n ≤ r.length) : (seg r lo n).length = n := by
  unfold seg
  rw [List.length_take, List.length_drop]
  omega
theorem Rep.sub {v0 v : Value} {o o' : Bool} {z lo n : Nat} {rows : List Row} (r : Rep w ok v0 (.sl o z rows)) (hs : Sub v0 z lo n v) : Rep w ok v (.sl o' z (seg rows lo n)) := by
  cases r with
  | nil =>
    obtain ⟨rfl, rfl, rfl⟩ := hs
    exact .nil _ _
  | emp _ _ A cap =>
    obtain ⟨b, off, q⟩ := A
    cases q with
    | none =>
      obtain ⟨p, cap', rfl, hle, hc, ho⟩ := hs
      have : n = 0 := by omega
      subst this
      rw [show seg ([] : List Row) lo 0 = [] from rfl.trans (by simp [seg])]
      exact .emp _ _ _ _
    | some q =>
      exact hs.elim
  | sl _ _ b off cap _ vs h1 h2 h3 h4 h5 =>
    obtain ⟨p, cap', rfl, hle, hc, ho⟩ := hs
    have hl := seg_len (r := rows) hle
    by_cases hn : n = 0
    · subst hn
      have : seg rows lo 0 = [] := List.eq_nil_of_length_eq_zero hl
      rw [this]
      exact Rep.sl (rows := []) o' z b p cap' (fun _ _ => undef) h1 (Nat.zero_le _) (fun i row hi => by simp at hi) (fun i row j x hi => by simp at hi) (fun i row j x hi => by simp at hi)
    · have hp : p = off + lo * z := by
        rcases ho with h | h
        · exact h.1
        · omega
      have key : ∀ i row, (seg rows lo n)[i]? = some row → rows[lo + i]? = some row := fun i row hi => by
        have := idx_lt hi
        rw [seg_get (by omega)] at hi
        exact hi
      have hR := Rep.sl (w := w) (ok := ok) o' z b p cap' (seg rows lo n) (fun i j => vs (lo + i) j) h1 (by omega) (fun i row hi => h3 _ _ (key i row hi)) (fun i row j x hi hj => by
          have := h4 _ _ j x (key i row hi) hj
          rw [Nat.add_mul] at this
          rw [hp, show off + lo * z + (i * z + j) = off + (lo * z + i * z + j) by omega]
          exact this) (fun i row j x hi hj => h5 _ _ j x (key i row hi) hj)
      rw [hl] at hR
      exact hR
theorem Sub.trans {v0 v v' : Value} {z lo n l k : Nat} (h : Sub v0 z lo n v) (h' : Sub v z l k v') : Sub v0 z (lo + l) k v' := by
  unfold Sub at h
  split at h
  · obtain ⟨rfl, rfl, rfl⟩ := h
    obtain ⟨rfl, rfl, rfl⟩ := h'
    exact ⟨rfl, rfl, rfl⟩
  · obtain ⟨o', c', rfl, h1, h2, h3⟩ := h
    obtain ⟨o'', c'', rfl, k1, k2, k3⟩ := h'
    refine ⟨o'', c'', rfl, by omega, k2, ?_⟩
    rcases k3 with ⟨e, hc⟩ | hc
    · rcases h3 with ⟨e2, hc2⟩ | hc2
      · left
        refine ⟨?_, by omega⟩
        rw [e, e2, Nat.add_mul]; omega
      · right; omega
    · exact .inr hc
  · exact h.elim
theorem Sub.idx {v0 v : Value} {z lo n i : Nat} (h : Sub v0 z lo n v) (hi : i < n) : ∃ b o' cap', v = .slice (some ⟨b, o', none⟩) n cap' ∧ PtAt v0 z (lo + i) 0 (.pointer (some ⟨b, o' + i * z, none⟩)) := by
  unfold Sub at h
  split at h
  · omega
  · obtain ⟨o', c', rfl, h1, h2, h3⟩ := h
    refine ⟨_, o', c', rfl, by omega, ?_⟩
    rcases h3 with ⟨e, _⟩ | e
    · rw [e, Nat.add_mul]; congr 3; omega
    · omega
  · exact h.elim
theorem Sub.len {v0 v : Value} {z lo n : Nat} (h : Sub v0 z lo n v) : ∃ ad cap, v = .slice ad n cap ∧ n ≤ cap := by
  unfold Sub at h
  split at h
  · obtain ⟨rfl, rfl, rfl⟩ := h; exact ⟨_, _, rfl, Nat.le_refl _⟩
  · obtain ⟨o', c', rfl, h1, h2, h3⟩ := h; exact ⟨_, _, rfl, h2⟩
  · exact h.elim
theorem nest_some {rows : List Row} {i j z : Nat} {r : List Row} (h : nest rows i j = some (z, r)) : ∃ row, rows[i]? = some row ∧ row[j]? = some (.sl true z r) := by
  unfold nest at h
  split at h
  · rename_i row hr
    split at h
    · rename_i hj
      cases h
      exact ⟨row, hr, hj⟩
    · cases h
  · cases h
/-- what a name stands for can be read -/
theorem blkRows_ok (h : Sim w0 M R γ φ tv sv a w) {m z : Nat} {r : List Row} (hb : blkRows sv m = some (z, r)) : ∃ v0, γ m = some (v0, z) ∧ Rep w (fun b => b < w.heap.size) v0 (.sl true z r) := by
  have lo : ∀ b, okOf w0 M R φ sv w b → b < w.heap.size := fun b hb => hb.1
  unfold blkRows at hb
  split at hb
  · rename_i z' v' r' hm
    cases hb
    obtain ⟨v0, h1, h2⟩ := h.bk m _ hm
    exact ⟨v0, h1, h2.rep lo fun b hb => (h.nw m b (by unfold live; rw [hm]; rfl) hb).1⟩
  · rename_i z' r' hm
    cases hb
    obtain ⟨v0, h1, h2⟩ := h.bk m _ hm
    exact ⟨v0, h1, (h2.mono fun b hb => ⟨lo b hb, rfl⟩).flag⟩
  · rename_i p i j v hm
    split at hb
    · rename_i zp v' rp hp
      rw [cond_eq_ite] at hb
      split at hb
      · rename_i hv
        have hv : v = v' := by simpa using hv
        obtain ⟨_, _, h2⟩ := h.bk m _ hm
        obtain ⟨v0, b, off, len, cap, k1, k2, k3⟩ := (h2 zp v' rp hp).2 hv z r hb
        obtain ⟨vp, q1, q2⟩ := h.bk p _ hp
        rw [k2] at q1
        cases q1
        obtain ⟨row, hr, hj⟩ := nest_some hb
        have hlp : live sv p := by unfold live; rw [hp]; rfl
        cases q2 with
        | rd _ _ _ h1 => exact (h1 _ _ rfl).elim
        | emp => simp at hr
        | sl _ _ _ _ _ _ cur e fr Fs a1 a2 a3 a4 a5 a6 a7 a8 a9 a10 a11 =>
          have hj' := a11 i row j _ hr hj
          have hc := cell_some a2 (in_row (idx_lt hr) (by rw [← a9 i row hr]; exact idx_lt hj) a4 a5)
          rw [k3] at hc
          cases hc
          exact ⟨_, k1, hj'.rep lo fun b hb => (h.nw p b hlp (a7 i j b hb).1).1⟩
      · cases hb
    · cases hb
  · cases hb
theorem rowsOf_ok (h : Sim w0 M R γ φ tv sv a w) {v : Value} {x : AV} {z : Nat} {r : List Row} (hv : RepV w (okOf w0 M R φ sv w) γ v x) (hx : rowsOf sv x = some (z, r)) : Rep w (fun b => b < w.heap.size) v (.sl false z r) := by
  unfold rowsOf at hx
  split at hx
  · cases hx
    have hv : Rep w (okOf w0 M R φ sv w) v _ := hv
    exact (hv.mono fun b hb => ⟨hb.1, rfl⟩).flag
  · rename_i m lo n
    split at hx
    · rename_i z' r' hm
      cases hx
      obtain ⟨v0, k1, k2⟩ := blkRows_ok h hm
      obtain ⟨v0', z'', g1, g2⟩ := hv
      rw [k1] at g1
      cases g1
      exact k2.sub g2
    · cases hx
  · cases hx
theorem idx_run {t e : TypeId} {te : TI} (ht : P.underlying t = some (.slice e)) (he : TyOk P e te) (b o len cap : Nat) (k : IntKind) (i : Int) (h0 : 0 ≤ i) (h1 : i < (len : Int)) :
    (Instr.indexAt t (.slice (some ⟨b, o, none⟩) len cap) (.int k i)).run P w = .ok (.pointer (some ⟨b, o + i.toNat * te.size, none⟩)) w := by
  have hs := sizeOf_run (P := P) (w := w) he
  simp only [Instr.indexAt, asIntOf, Sem.run_bind, Sem.run_pure, Result.andThen_ok, run_underlying ht, h0, h1, and_self, if_true, hs, add_flat]
theorem idx_rep {t e : TypeId} {te : TI} (ht : P.underlying t = some (.slice e)) (he : TyOk P e te) {v : Value} {o : Bool} {r : List Row} {row : Row} {k : IntKind} {i : Int} (hi : 0 ≤ i) (hr : r[i.toNat]? = some row)
    (hv : Rep w ok v (.sl o te.size r)) : ∃ u, (Instr.indexAt t v (.int k i)).run P w = .ok u w ∧ Rep w ok u (.pb false row) := by
  have hl := idx_lt hr
  cases hv with
  | nil => simp at hl
  | emp => simp at hl
  | sl _ _ b off cap _ vs h1 h2 h3 h4 h5 =>
    refine ⟨_, idx_run ht he b off _ cap k i hi (by omega), ?_⟩
    refine .pb false b _ row (vs i.toNat) h1 (fun j x hj => ?_) (fun j x hj => h5 _ _ j x hr hj)
    rw [Nat.add_assoc]
    exact h4 _ _ j x hr hj
theorem indexAddr_ok (h : Sim w0 M R γ φ tv sv a w) {t e : TypeId} {te : TI} (ht : P.underlying t = some (.slice e)) (he : TyOk P e te) {v : Value} {x y : AV} {k : IntKind} {i : Int}
    (hv : RepV w (okOf w0 M R φ sv w) γ v x) (hy : pIndexAddr te.size x i sv = some y) : ∃ u, (Instr.indexAt t v (.int k i)).run P w = .ok u w ∧ RepV w (okOf w0 M R φ sv w) γ u y := by
  have owned : ∀ m lo n z v0, x = .ow m lo n → γ m = some (v0, z) → z = te.size → 0 ≤ i → i < (n : Int) → y = .pt m (lo + i.toNat) 0 → ∃ u, (Instr.indexAt t v (.int k i)).run P w = .ok u w ∧ RepV w (okOf w0 M R φ sv w) γ u y := by
    rintro m lo n z v0 rfl hg rfl h0 h1 rfl
    obtain ⟨v0', z', g1, g2⟩ := hv
    rw [hg] at g1
    cases g1
    obtain ⟨b, o', c', rfl, hp⟩ := g2.idx (i := i.toNat) (by omega)
    exact ⟨_, idx_run ht he b o' n c' k i h0 h1, _, _, hg, hp⟩
  unfold pIndexAddr at hy
  split at hy
  · rename_i o y0 r
    split at hy
    · rename_i row hr
      split at hy
      · rename_i hc
        obtain ⟨rfl, h0⟩ := hc
        cases hy
        exact idx_rep ht he h0 hr hv
      · cases hy
    · cases hy
  · rename_i m lo n
    split at hy
    · rename_i y0 ver rows hm
      split at hy
      · rename_i hc
        cases hy
        obtain ⟨v0, h1, _⟩ := h.bk m _ hm
        exact owned m lo n y0 v0 rfl h1 hc.1 hc.2.1 hc.2.2 rfl
      · cases hy
    · rename_i y0 r hm
      split at hy
      · rename_i row hr
        split at hy
        · rename_i hc
          obtain ⟨rfl, h0⟩ := hc
          cases hy
          obtain ⟨v0, h1, h2⟩ := h.bk m _ hm
          obtain ⟨v0', z', g1, g2⟩ := hv
          rw [h1] at g1
          cases g1
          exact idx_rep ht he h0 hr (h2.sub (o' := false) g2)
        · cases hy
      · cases hy
    · split at hy
      · rename_i y0 r0 hb
        split at hy
        · rename_i hc
          cases hy
          obtain ⟨v0, h1, _⟩ := blkRows_ok h hb
          exact owned m lo n y0 v0 rfl h1 hc.1 hc.2.1 hc.2.2 rfl
        · cases hy
      · cases hy
    · cases hy
  · cases hy
/-- cutting -/
theorem cutOf_some {lo hi mx : Option Int} {n l k : Nat} (h : cutOf lo hi mx n = some (l, k)) :
    0 ≤ lo.getD 0 ∧ lo.getD 0 ≤ hi.getD n ∧ hi.getD n ≤ mx.getD n ∧ mx.getD n ≤ (n : Int) ∧ l = (lo.getD 0).toNat ∧ l + k = (hi.getD n).toNat ∧ l + k ≤ n := by
  unfold cutOf at h
  split at h
  · rename_i hc
    simp at h
    obtain ⟨h1, h2⟩ := h
    refine ⟨hc.1, hc.2.1, hc.2.2.1, hc.2.2.2, h1.symm, ?_, ?_⟩ <;> omega
  · cases h
theorem bounds_run {isS : Bool} {len cap : Nat} (hlc : len ≤ cap) {lo hi mx : Option Int} {vl vh vm : Option Value} {l k : Nat}
    (hl : ∀ n, lo = some n → ∃ d, vl = some (.int d n)) (hl0 : lo = none → vl = none) (hh : ∀ n, hi = some n → ∃ d, vh = some (.int d n)) (hh0 : hi = none → vh = none)
    (hm : ∀ n, mx = some n → ∃ d, vm = some (.int d n)) (hm0 : mx = none → vm = none) (hmh : mx ≠ none → hi ≠ none) (hc : cutOf lo hi mx len = some (l, k)) :
    ∃ m, (Instr.sliceBounds isS len cap vl vh vm).run P w = .ok (l, l + k, m) w ∧ l + k ≤ m ∧ m ≤ cap := by
  obtain ⟨c1, c2, c3, c4, c5, c6, c7⟩ := cutOf_some hc
  cases mx with
  | none =>
    obtain rfl := hm0 rfl
    simp only [Option.getD_none] at c3 c4
    refine ⟨cap, ?_, by omega, Nat.le_refl _⟩
    cases hi with
    | none =>
      obtain rfl := hh0 rfl
      cases lo with
      | none =>
        obtain rfl := hl0 rfl
        simp only [Option.getD_none] at *
        simp [Instr.sliceBounds]
        omega
      | some n =>
        obtain ⟨d, rfl⟩ := hl n rfl
        simp only [Option.getD_none, Option.getD_some] at *
        simp only [Instr.sliceBounds, Instr.sliceBound, asIntOf, Sem.run_bind, Sem.run_pure, Result.andThen_ok, Option.isSome_none]
        rw [if_pos (by omega)]
        simp
        omega
    | some q =>
      obtain ⟨d2, rfl⟩ := hh q rfl
      simp only [Option.getD_some] at *
      cases lo with
      | none =>
        obtain rfl := hl0 rfl
        simp only [Option.getD_none] at *
        simp only [Instr.sliceBounds, Instr.sliceBound, asIntOf, Sem.run_bind, Sem.run_pure, Result.andThen_ok]
        rw [if_pos (by omega)]
        simp
        omega
      | some n =>
        obtain ⟨d, rfl⟩ := hl n rfl
        simp only [Option.getD_some] at *
        simp only [Instr.sliceBounds, Instr.sliceBound, asIntOf, Sem.run_bind, Sem.run_pure, Result.andThen_ok, Option.isSome_none]
        rw [if_pos (by omega)]
        simp only [Sem.run_bind, Sem.run_pure, Result.andThen_ok]
        rw [if_pos (by omega)]
        simp
        omega
  | some u =>
    obtain ⟨d3, rfl⟩ := hm u rfl
    cases hi with
    | none => exact ((hmh (by simp)) rfl).elim
    | some q =>
      obtain ⟨d2, rfl⟩ := hh q rfl
      simp only [Option.getD_some] at *
      refine ⟨u.toNat, ?_, by omega, by omega⟩
      cases lo with
      | none =>
        obtain rfl := hl0 rfl
        simp only [Option.getD_none] at *
        simp only [Instr.sliceBounds, Instr.sliceBound, asIntOf, Sem.run_bind, Sem.run_pure, Result.andThen_ok]
        rw [if_pos (by omega)]
        simp only [Sem.run_bind, Sem.run_pure, Result.andThen_ok]
        rw [if_pos (by omega)]
        simp
        omega
      | some n =>
        obtain ⟨d, rfl⟩ := hl n rfl
        simp only [Option.getD_some] at *
        simp only [Instr.sliceBounds, Instr.sliceBound, asIntOf, Sem.run_bind, Sem.run_pure, Result.andThen_ok, Option.isSome_some]
        rw [if_pos (by omega)]
        simp only [Sem.run_bind, Sem.run_pure, Result.andThen_ok]
        rw [if_pos (by omega)]
        simp only [Sem.run_bind, Sem.run_pure, Result.andThen_ok]
        rw [if_pos (by omega)]
        simp
        omega
theorem sl_run {t e : TypeId} {te : TI} (ht : P.underlying t = some (.slice e)) (he : TyOk P e te) {ad : Option Addr} {len cap : Nat} {vl vh vm : Option Value} {l h m : Nat}
    (hb : (Instr.sliceBounds true len cap vl vh vm).run P w = .ok (l, h, m) w) :
    (Instr.sliceAt t (.slice ad len cap) vl vh vm).run P w = .ok (.slice (if m = l then ad else ad.map (·.add (l * te.size))) (h - l) (m - l)) w := by
  have hs := sizeOf_run (P := P) (w := w) he
  simp only [Instr.sliceAt, Instr.slice, Sem.run_bind, run_underlying ht, Result.andThen_ok, hb, hs, Sem.run_pure]
def FlatSl (v : Value) : Prop := v = .slice none 0 0 ∨ ∃ b o n cap, v = .slice (some ⟨b, o, none⟩) n cap ∧ n ≤ cap
theorem cut_sub {t e : TypeId} {te : TI} (ht : P.underlying t = some (.slice e)) (he : TyOk P e te) {v : Value} {lo hi mx : Option Int} {vl vh vm : Option Value} {n l k : Nat}
    (hl : ∀ n, lo = some n → ∃ d, vl = some (.int d n)) (hl0 : lo = none → vl = none) (hh : ∀ n, hi = some n → ∃ d, vh = some (.int d n)) (hh0 : hi = none → vh = none)
    (hm : ∀ n, mx = some n → ∃ d, vm = some (.int d n)) (hm0 : mx = none → vm = none) (hmh : mx ≠ none → hi ≠ none)
    (hf : (v = .slice none 0 0 ∧ n = 0) ∨ ∃ b o cap, v = .slice (some ⟨b, o, none⟩) n cap ∧ n ≤ cap) (hc : cutOf lo hi mx n = some (l, k)) : ∃ u, (Instr.sliceAt t v vl vh vm).run P w = .ok u w ∧ Sub v te.size l k u := by
  have c7 := (cutOf_some hc).2.2.2.2.2.2
  rcases hf with ⟨rfl, rfl⟩ | ⟨b, o, cap, rfl, hcap⟩
  · obtain ⟨m, hbr, h1, h2⟩ := bounds_run (P := P) (w := w) (isS := true) (Nat.le_refl 0) hl hl0 hh hh0 hm hm0 hmh hc
    refine ⟨_, sl_run ht he hbr, ?_⟩
    have e1 : m = 0 := by omega
    have e2 : l = 0 := by omega
    have e3 : k = 0 := by omega
    subst e1 e2 e3
    exact ⟨rfl, rfl, rfl⟩
  · obtain ⟨m, hbr, h1, h2⟩ := bounds_run (P := P) (w := w) (isS := true) hcap hl hl0 hh hh0 hm hm0 hmh hc
    refine ⟨_, sl_run ht he hbr, ?_⟩
    have hk : l + k - l = k := by omega
    rw [hk]
    by_cases hml : m = l
    · rw [if_pos hml]
      exact ⟨o, m - l, rfl, c7, by omega, .inr (by omega)⟩
    · rw [if_neg hml]
      simp only [Option.map_some, add_flat]
      exact ⟨o + l * te.size, m - l, rfl, c7, by omega, .inl ⟨rfl, by omega⟩⟩
theorem slice_ok (h : Sim w0 M R γ φ tv sv a w) {t e : TypeId} {te : TI} (ht : P.underlying t = some (.slice e)) (he : TyOk P e te) {v : Value} {x y : AV} {lo hi mx : Option Int} {vl vh vm : Option Value}
    (hl : ∀ n, lo = some n → ∃ d, vl = some (.int d n)) (hl0 : lo = none → vl = none) (hh : ∀ n, hi = some n → ∃ d, vh = some (.int d n)) (hh0 : hi = none → vh = none)
    (hm : ∀ n, mx = some n → ∃ d, vm = some (.int d n)) (hm0 : mx = none → vm = none) (hmh : mx ≠ none → hi ≠ none)
    (hv : RepV w (okOf w0 M R φ sv w) γ v x) (hy : pSlice te.size x lo hi mx sv = some y) : ∃ u, (Instr.sliceAt t v vl vh vm).run P w = .ok u w ∧ RepV w (okOf w0 M R φ sv w) γ u y := by
  unfold pSlice at hy
  split at hy
  · rename_i o z r
    split at hy
    · rename_i l k hc
      rw [cond_eq_ite] at hy
      split at hy
      · rename_i hz
        have hz : z = te.size ∧ r ≠ [] := by simpa using hz
        obtain ⟨hz, hrn⟩ := hz
        subst hz
        cases hy
        have hv : Rep w (okOf w0 M R φ sv w) v _ := hv
        have hf : (v = .slice none 0 0 ∧ r.length = 0) ∨ ∃ b o cap, v = .slice (some ⟨b, o, none⟩) r.length cap ∧ r.length ≤ cap := by
          cases hv with
          | nil => exact .inl ⟨rfl, rfl⟩
          | emp => exact (hrn rfl).elim
          | sl _ _ b off cap _ vs h1 h2 => exact .inr ⟨b, off, cap, rfl, h2⟩
        obtain ⟨u, h1, h2⟩ := cut_sub (w := w) ht he hl hl0 hh hh0 hm hm0 hmh hf hc
        exact ⟨u, h1, hv.sub h2⟩
      · cases hy
    · cases hy
  · rename_i m l0 n0
    split at hy
    · rename_i y0 l k hb hc
      rw [cond_eq_ite] at hy
      split at hy
      · rename_i hz
        have hz : y0 = te.size := by simpa using hz
        subst hz
        cases hy
        obtain ⟨v0, z, g1, g2⟩ := hv
        have hzz : z = te.size := by
          unfold blkZ at hb
          split at hb
          · rename_i z' r' hbr
            cases hb
            obtain ⟨v0', k1, _⟩ := blkRows_ok h hbr
            rw [g1] at k1
            cases k1; rfl
          · cases hb
        subst hzz
        have hf : (v = .slice none 0 0 ∧ n0 = 0) ∨ ∃ b o cap, v = .slice (some ⟨b, o, none⟩) n0 cap ∧ n0 ≤ cap := by
          unfold Sub at g2
          split at g2
          · obtain ⟨rfl, rfl, rfl⟩ := g2; exact .inl ⟨rfl, rfl⟩
          · obtain ⟨o', c', rfl, _, h2, _⟩ := g2; exact .inr ⟨_, _, _, rfl, h2⟩
          · exact g2.elim
        obtain ⟨u, h1, h2⟩ := cut_sub (w := w) ht he hl hl0 hh hh0 hm hm0 hmh hf hc
        exact ⟨u, h1, v0, _, g1, g2.trans h2⟩
      · cases hy
    · cases hy
  · cases hy
theorem cut_ok {t : TypeId} (ht : P.underlying t = some .string) {s : ByteArray} {y : AV} {lo hi mx : Option Int} {vl vh vm : Option Value}
    (hl : ∀ n, lo = some n → ∃ d, vl = some (.int d n)) (hl0 : lo = none → vl = none) (hh : ∀ n, hi = some n → ∃ d, vh = some (.int d n)) (hh0 : hi = none → vh = none) (hm0 : mx = none → vm = none)
    (hy : pCut s lo hi mx = some y) : ∃ u, (Instr.sliceAt t (.string s) vl vh vm).run P w = .ok u w ∧ RepV w ok γ u y := by
  unfold pCut at hy
  split at hy
  · split at hy
    · rename_i l k hc
      obtain rfl := hm0 rfl
      cases hy
      obtain ⟨m, hbr, h1, h2⟩ := bounds_run (P := P) (w := w) (isS := false) (mx := none) (vm := none) (Nat.le_refl s.size) hl hl0 hh hh0 (fun _ h => by cases h) (fun _ => rfl) (fun h => (h rfl).elim) hc
      refine ⟨_, ?_, rep_sc' rfl⟩
      simp only [Instr.sliceAt, Instr.slice, Sem.run_bind, run_underlying ht, Result.andThen_ok, Option.isSome_none, Bool.false_eq_true, if_false, Sem.run_pure, hbr]
    · cases hy
  · cases hy
/-- lengths -/
theorem len_ok {ats : Array TypeId} {t : TypeId} {ti : TI} (ht : TyOk P t ti) (hat : ats[0]? = some t) {ty : TypeId} {v : Value} {x y : AV}
    (hv : RepV w ok γ v x) (hy : pLen ti.kind x = some y) : ∃ u, (Builtin.len_ ats ty #[v]).run P w = .ok u w ∧ RepV w ok γ u y := by
  have slen : ∀ (e : TypeId) (ad : Option Addr) (n cap : Nat), P.underlying t = some (.slice e) → (Builtin.len_ ats ty #[.slice ad n cap]).run P w = .ok (.int .i64 n) w := by
    intro e ad n cap hu
    simp [Builtin.len_, hat, run_underlying hu, goInt]
  have hkd := ht.kd
  generalize ti.kind = tk at hy hkd
  unfold pLen at hy
  split at hy
  · cases hy
    obtain ⟨rfl, _⟩ := rep_sc hv
    exact ⟨_, by simp [Builtin.len_, hat, run_underlying (show P.underlying t = some .string from hkd), goInt], rep_sc' rfl⟩
  · cases hy
    have hv : Rep w ok v _ := hv
    cases hv with
    | nil => exact ⟨_, slen _ _ _ _ hkd, rep_sc' rfl⟩
    | emp => exact ⟨_, slen _ _ _ _ hkd, rep_sc' rfl⟩
    | sl _ _ b off cap _ vs _ _ => exact ⟨_, slen _ _ _ _ hkd, rep_sc' rfl⟩
  · cases hy
    obtain ⟨v0, z, g1, g2⟩ := hv
    obtain ⟨ad, cap, rfl, _⟩ := g2.len
    exact ⟨_, slen _ _ _ _ hkd, rep_sc' rfl⟩
  · cases hy
end
end Go.Proofs.YtkkmgjhfjhcdmaaGreatDoor.Mx

/- Loads; fields. -/
namespace Go.Proofs.YtkkmgjhfjhcdmaaGreatDoor.Mx
set_option linter.all false
open Go Go.RowKit
section
variable {w0 : World} {M R : Nat → Prop} {γ : Gs} {φ : Fp} {tv : Tv} {sv : Sv} {a : Act} {w : World} {P : Program} {T : Ty} {ok : Nat → Prop}
theorem load_rep {t : TypeId} {ti : TI} (ht : TyOk P t ti) {b o : Nat} {l : Row} (hl : l.length = ti.size) (h : CellsAt w (RepC w ok γ) b o l) :
    ∃ v, (Instr.loadAt t (.pointer (some ⟨b, o, none⟩))).run P w = .ok v w ∧ RepV w ok γ v (wrapA ti l) := by
  obtain ⟨vs, h1, h2, h3⟩ := load_cells (P := P) ht hl h
  refine ⟨_, h3, ?_⟩
  unfold wrapA
  cases hk : isStr ti.kind with
  | true =>
    simp only [if_true, cond_true]
    exact ⟨vs, rfl, h1, fun j v x hv hx => h2 j v x hv hx⟩
  | false =>
    have h1' := ht.st hk
    simp only [Bool.false_eq_true, if_false, cond_false]
    match l, vs, hl, h1 with
    | [x], [v], _, _ =>
      have := (h2 0 v x rfl rfl).1
      simp only [List.getD_cons_zero, List.headD_cons]
      cases x <;> first | exact this | exact this.elim
    | [], _, hl, _ => simp at hl; omega
    | _ :: _ :: _, _, hl, _ => simp at hl; omega
theorem part_at {Q : Value → AV → Prop} {ti : TI} {b o j : Nat} {cs l : Row} (hs : isStr ti.kind = false → ti.size = 1) (h : CellsAt w Q b o cs) (hp : part ti (cs.drop j) = some l) : l.length = ti.size ∧ CellsAt w Q b (o + j) l := by
  obtain ⟨h1, rfl⟩ := part_some hs hp
  refine ⟨by rw [List.length_take]; omega, fun k x hk => ?_⟩
  have hlt := idx_lt hk
  rw [List.length_take] at hlt
  rw [List.getElem?_take_of_lt (by omega)] at hk
  exact h.drop k x hk
theorem own_cases {F : Nat → Prop} {v : Value} {x : AV} (h : Own w ok F v x) : (∃ z r, x = .sl true z r) ∨ (∃ cs, x = .pb true cs) ∨ (Rep w ok v x ∧ (∀ z r, x ≠ .sl true z r) ∧ ∀ cs, x ≠ .pb true cs) := by
  cases h with
  | rd _ _ _ n1 n2 hR => exact .inr (.inr ⟨hR, n1, n2⟩)
  | nil => exact .inl ⟨_, _, rfl⟩
  | emp => exact .inl ⟨_, _, rfl⟩
  | sl => exact .inl ⟨_, _, rfl⟩
  | pb => exact .inr (.inl ⟨_, rfl⟩)
theorem rep_kinds {v : Value} {x : AV} (h : Rep w ok v x) : (∀ r, x ≠ .ag r) ∧ (∀ r, x ≠ .tu r) ∧ (∀ p q r, x ≠ .ow p q r) ∧ (∀ p q r, x ≠ .pt p q r) ∧ ∀ p, x ≠ .mv p := by
  cases h <;> simp
/-- cells of an owned row, with names for its inner slices -/
theorem ldA_ok {m i ver j0 : Nat} {zp : Nat} {rp : List Row} {row : Row} {pb off len cap : Nat} {vs : Nat → Value} (hrow : rp[i]? = some row)
    (hcell : ∀ k x, row[k]? = some x → w.cell? ⟨pb, off + (i * zp + k), none⟩ = some (vs k) ∧ (vs k).oneCell' = true) (b : Nat) : ∀ (l : Row) (k : Nat) {γ : Gs} {φ : Fp} {sv : Sv}, Sim w0 M R γ φ tv sv a w →
    (∀ n, b + k ≤ n → n < b + k + l.length → γ n = none) → γ m = some (.slice (some ⟨pb, off, none⟩) len cap, zp) → sv m = some (.ar zp ver rp) → (∀ q x, l[q]? = some x → row[j0 + k + q]? = some x) →
    (∀ q x, l[q]? = some x → ∃ F, Own w (okOf w0 M R φ sv w) F (vs (j0 + k + q)) x) →
    ∃ γ' φ', (∀ n, ¬ (b + k ≤ n ∧ n < b + k + l.length) → γ' n = γ n) ∧ (∀ c, okOf w0 M R φ sv w c → okOf w0 M R φ' (syncF (ldA b m i ver j0 k l).2 sv) w c) ∧
      Sim w0 M R γ' φ' tv (syncF (ldA b m i ver j0 k l).2 sv) a w ∧ (ldA b m i ver j0 k l).1.length = l.length ∧
      ∀ q y, (ldA b m i ver j0 k l).1[q]? = some y → RepC w (okOf w0 M R φ' (syncF (ldA b m i ver j0 k l).2 sv) w) γ' (vs (j0 + k + q)) y
  | [], k, γ, φ, sv, h, _, _, _, _, _ => ⟨γ, φ, fun _ _ => rfl, fun _ h => by simpa [ldA, syncF] using h, by simpa [ldA, syncF] using h, by simp [ldA], fun q y hq => by simp [ldA] at hq⟩
  | x :: l, k, γ, φ, sv, h, hf, hg, hm, hr, hO => by
    have hr0 := hr 0 x rfl
    obtain ⟨F0, hO0⟩ := hO 0 x rfl
    rw [Nat.add_zero] at hr0 hO0
    have rest : ∀ (y : AV), ldA b m i ver j0 k (x :: l) = (y :: (ldA b m i ver j0 (k + 1) l).1, (ldA b m i ver j0 (k + 1) l).2) → Rep w (okOf w0 M R φ sv w) (vs (j0 + k)) y → (∀ r, y ≠ .ag r) → (∀ r, y ≠ .tu r) → (∀ p q r, y ≠ .ow p q r) → (∀ p q r, y ≠ .pt p q r) → (∀ p, y ≠ .mv p) →
        ∃ γ' φ', (∀ n, ¬ (b + k ≤ n ∧ n < b + k + (x :: l).length) → γ' n = γ n) ∧ (∀ c, okOf w0 M R φ sv w c → okOf w0 M R φ' (syncF (ldA b m i ver j0 k (x :: l)).2 sv) w c) ∧
      Sim w0 M R γ' φ' tv (syncF (ldA b m i ver j0 k (x :: l)).2 sv) a w ∧ (ldA b m i ver j0 k (x :: l)).1.length = (x :: l).length ∧
      ∀ q y, (ldA b m i ver j0 k (x :: l)).1[q]? = some y → RepC w (okOf w0 M R φ' (syncF (ldA b m i ver j0 k (x :: l)).2 sv) w) γ' (vs (j0 + k + q)) y := by
      intro y he hy n1 n2 n3 n4 n5
      obtain ⟨γ', φ', h1, h2, h3, h4, h5⟩ := ldA_ok (j0 := j0) (len := len) (cap := cap) hrow hcell b l (k + 1) h (fun n h1 h2 => hf n (by omega) (by simp; omega)) hg hm (fun q x' hq => by have := hr (q + 1) x' (by simpa using hq); rw [← this]; congr 1; omega)
        (fun q x' hq => by obtain ⟨F, hF⟩ := hO (q + 1) x' (by simpa using hq); exact ⟨F, by rw [show j0 + (k + 1) + q = j0 + k + (q + 1) by omega]; exact hF⟩)
      rw [he]
      refine ⟨γ', φ', fun n hn => h1 n (fun hh => hn (by simp at hh ⊢; omega)), h2, h3, by simp [h4], ?_⟩
      intro q y' hq
      cases q with
      | zero =>
        simp at hq
        subst hq
        have := hy.mono (w' := w) (ok' := okOf w0 M R φ' (syncF (ldA b m i ver j0 (k + 1) l).2 sv) w) (fun c hc => ⟨h2 c hc, rfl⟩)
        cases y <;> first | exact this | exact (n1 _ rfl).elim | exact (n2 _ rfl).elim | exact (n3 _ _ _ rfl).elim | exact (n4 _ _ _ rfl).elim | exact (n5 _ rfl).elim
      | succ q =>
        have := h5 q y' (by simpa using hq)
        rwa [show j0 + (k + 1) + q = j0 + k + (q + 1) by omega] at this
    by_cases hx : ∃ z r, x = .sl true z r
    · obtain ⟨z, r, rfl⟩ := hx
      have hhead : Sub (vs (j0 + k)) z 0 r.length (vs (j0 + k)) := by
        rcases hO0.head with ⟨rfl, e2 | ⟨b', off', e2⟩⟩ | ⟨b', off', cap', cur, e, fr, e1, e2, e3, e4, e5⟩
        · rw [e2]; exact ⟨rfl, rfl, rfl⟩
        · rw [e2]; exact ⟨off', 0, rfl, Nat.le_refl _, Nat.le_refl _, .inr rfl⟩
        · rw [e1]; exact ⟨off', cap', rfl, by omega, e5, .inl ⟨by omega, by omega⟩⟩
      have hfb : γ (b + k) = none := hf (b + k) (Nat.le_refl _) (by simp)
      have hne : m ≠ b + k := by rintro rfl; rw [hg] at hfb; cases hfb
      obtain ⟨hs, hok⟩ := h.new hfb [] (fun k hk => by cases hk) (w' := w) (g := (vs (j0 + k), z)) (F := fun _ => False) (B := .sb m i (j0 + k) ver) rfl rfl rfl (Kp.refl _) (Nat.le_refl _) (fun _ _ _ => rfl) (fun b hb => hb.elim) (fun hok => by
        refine ⟨⟨_, γN_self⟩, ⟨_, γN_ext hfb _ _ hg⟩, fun zp' v' rp' hs' => ?_⟩
        rw [upd_ne (Ne.symm hne)] at hs'
        rw [show syncF (Mx.kill []) sv = sv from rfl, hm] at hs'
        cases hs'
        refine ⟨Nat.le_refl _, fun _ z' r' hn => ?_⟩
        have : nest rp i (j0 + k) = some (z, r) := by simp [nest, hrow, hr0]
        rw [this] at hn
        cases hn
        exact ⟨_, pb, off, len, cap, γN_self, γN_ext hfb _ _ hg, (hcell _ _ hr0).1⟩)
      obtain ⟨γ', φ', h1, h2, h3, h4, h5⟩ := ldA_ok (j0 := j0) (len := len) (cap := cap) hrow hcell b l (k + 1) hs (fun n h1 h2 => by rw [γN_ne (by omega)]; exact hf n (by omega) (by simp; omega)) (γN_ext hfb _ _ hg) (by rw [upd_ne (Ne.symm hne)]; exact hm)
        (fun q x' hq => by have := hr (q + 1) x' (by simpa using hq); rw [← this]; congr 1; omega)
        (fun q x' hq => by
          obtain ⟨F, hF⟩ := hO (q + 1) x' (by simpa using hq)
          exact ⟨F, by rw [show j0 + (k + 1) + q = j0 + k + (q + 1) by omega]; exact hF.mono hok F fun c hc => ⟨hc, rfl⟩⟩)
      have he : ldA b m i ver j0 k (.sl true z r :: l) = (.ow (b + k) 0 r.length :: (ldA b m i ver j0 (k + 1) l).1, (b + k, some (.sb m i (j0 + k) ver)) :: (ldA b m i ver j0 (k + 1) l).2) := rfl
      rw [he]
      refine ⟨γ', φ', fun n hn => ?_, fun c hc => h2 c (hok c hc).1, h3, by simp [h4], ?_⟩
      · have hne' : n ≠ b + k := fun e => hn (by subst e; simp)
        rw [h1 n (fun hh => hn (by simp at hh ⊢; omega)), γN_ne hne']
      · intro q y' hq
        cases q with
        | zero =>
          simp at hq
          subst hq
          refine ⟨vs (j0 + k), z, ?_, hhead⟩
          rw [h1 _ (by omega)]; exact γN_self
        | succ q =>
          have := h5 q y' (by simpa using hq)
          rwa [show j0 + (k + 1) + q = j0 + k + (q + 1) by omega] at this
    · rcases own_cases hO0 with h1 | ⟨cs, rfl⟩ | ⟨hR, n1, n2⟩
      · exact (hx h1).elim
      · exact rest .no rfl (.no _) (by simp) (by simp) (by simp) (by simp) (by simp)
      · obtain ⟨m1, m2, m3, m4, m5⟩ := rep_kinds hR
        refine rest x ?_ hR m1 m2 m3 m4 m5
        cases x with
        | sl o z r => cases o <;> first | rfl | exact (n1 _ _ rfl).elim
        | pb o c => cases o <;> first | rfl | exact (n2 _ rfl).elim
        | _ => rfl
theorem rep_cells {b off : Nat} {o : Bool} {cs : Row} (h : Rep w ok (.pointer (some ⟨b, off, none⟩)) (.pb o cs)) : CellsAt w (Rep w ok) b off cs := by
  cases h with
  | pb _ _ _ _ vs h1 h2 h3 => exact fun j x hj => ⟨vs j, (h2 j x hj).1, h3 j x hj, (h2 j x hj).2⟩
theorem rep_repC {v : Value} {x : AV} (h : Rep w ok v x) : RepC w ok γ v x := by
  cases h <;> first | exact .no _ | exact .sc _ ‹_› | exact .er _ _ | exact .nil _ _ | exact .emp _ _ _ _ | skip
  · exact .sl _ _ _ _ _ _ _ ‹_› ‹_› ‹_› ‹_› ‹_›
  · exact .pb _ _ _ _ _ ‹_› ‹_› ‹_›
  · exact .mc _ _ _ _ ‹_› ‹_› ‹_› ‹_›
theorem load_ok (hT : TOk P T) (h : Sim w0 M R γ φ tv sv a w) {b : Nat} (hf : Fresh γ b) {t : TypeId} {p : Operand} {ty : TypeId} {d : Dl} (hd : aop T (.load t p) ty b tv sv = some d) :
    OpRes P w0 M R γ tv sv a w b (do pure (.value (← Instr.loadAt t (a.eval p)))) d := by
  have hp := opv_ok h p
  simp only [aop] at hd
  split at hd
  · cases hd
  · rename_i ti hti
    have ht := hT t ti hti
    generalize opv tv p = x at hd hp
    generalize a.eval p = v at hp
    split at hd
    · rename_i m i j
      obtain ⟨v0, z, g1, g2⟩ := hp
      split at hd
      · rename_i cs hm
        split at hd
        · rename_i hi
          subst hi
          unfold loaded at hd
          cases hpt : part ti (cs.drop j) with
          | none => rw [hpt] at hd; cases hd
          | some l =>
            rw [hpt] at hd
            cases hd
            obtain ⟨pb, cur, e, fr, k1, k2, k3, k4, k5, k6⟩ := h.bk m _ hm
            rw [g1] at k1
            cases k1
            obtain ⟨_, rfl⟩ := g2
            have hc : CellsAt w (RepC w (okOf w0 M R φ sv w) γ) pb 0 cs := fun k x hk => ⟨cur.getD k undef, by rw [Nat.zero_add]; exact cell_some k3 (Nat.lt_of_lt_of_le (idx_lt hk) k5), (k6 k x hk).1, (k6 k x hk).2⟩
            obtain ⟨q1, q2⟩ := part_at ht.st hc hpt
            obtain ⟨u, u1, u2⟩ := load_rep (P := P) ht q1 q2
            exact opres_pure h u1 u2
        · cases hd
      · rename_i zp ver rows hm
        split at hd
        · rename_i row hrow
          split at hd
          · rename_i l hpt
            cases hd
            obtain ⟨v0', k1, k2⟩ := h.bk m _ hm
            rw [g1] at k1
            cases k1
            cases k2 with
            | rd _ _ _ n1 => exact (n1 _ _ rfl).elim
            | nil => simp at hrow
            | emp => simp at hrow
            | sl _ _ pb off cap _ cur e fr Fs a1 a2 a3 a4 a5 a6 a7 a8 a9 a10 a11 =>
              obtain ⟨_, rfl⟩ := g2
              have hcell : ∀ k x, row[k]? = some x → w.cell? ⟨pb, off + (i * z + k), none⟩ = some (cur.getD (off + (i * z + k)) undef) ∧ (cur.getD (off + (i * z + k)) undef).oneCell' = true := fun k x hk =>
                ⟨cell_some a2 (in_row (idx_lt hrow) (by rw [← a9 i row hrow]; exact idx_lt hk) a4 a5), a10 i row k x hrow hk⟩
              obtain ⟨s1, s2⟩ := part_some ht.st hpt
              have hll : l.length = ti.size := by rw [s2, List.length_take]; omega
              have hget : ∀ q x, l[q]? = some x → row[j + q]? = some x := fun q x hq => by
                have hlt := idx_lt hq
                rw [s2, List.getElem?_take_of_lt (by omega), List.getElem?_drop] at hq
                exact hq
              obtain ⟨γ', φ', h1, h2, h3, h4, h5⟩ := ldA_ok (j0 := j) (vs := fun k => cur.getD (off + (i * z + k)) undef) hrow hcell b l 0 h (fun n h1 h2 => hf n (by omega) (by have := ht.sm; omega)) g1 hm (fun q x hq => by rw [Nat.add_zero]; exact hget q x hq)
                (fun q x hq => ⟨Fs i (j + 0 + q), a11 i row (j + 0 + q) x hrow (by rw [Nat.add_zero]; exact hget q x hq)⟩)
              have hc : CellsAt w (RepC w (okOf w0 M R φ' (syncF (ldA b m i ver j 0 l).2 sv) w) γ') pb (off + (i * z + j)) (ldA b m i ver j 0 l).1 := fun q y hq => by
                have hlt := idx_lt hq
                rw [h4] at hlt
                have hr := hget q l[q] (List.getElem?_eq_getElem hlt)
                obtain ⟨c1, c2⟩ := hcell (j + q) _ hr
                refine ⟨_, ?_, h5 q y hq, by rw [Nat.add_zero]; exact c2⟩
                rw [Nat.add_zero, show off + (i * z + j) + q = off + (i * z + (j + q)) by omega]
                exact c1
              obtain ⟨u, u1, u2⟩ := load_rep (P := P) ht (by rw [h4, hll]) hc
              exact ⟨u, w, γ', φ', .inl (by simp only [Sem.run_bind, u1, Result.andThen_ok, Sem.run_pure]), fun n hn => h1 n (by have := ht.sm; omega), h3, u2⟩
          · cases hd
        · cases hd
      · split at hd
        · rename_i z' r hb
          split at hd
          · rename_i row hrow
            split at hd
            · rename_i hsc
              unfold loaded at hd
              cases hpt : part ti (row.drop j) with
              | none => rw [hpt] at hd; cases hd
              | some l =>
                rw [hpt] at hd
                cases hd
                obtain ⟨v0', k1, k2⟩ := blkRows_ok h hb
                rw [g1] at k1
                cases k1
                cases k2 with
                | nil => simp at hrow
                | emp => simp at hrow
                | sl _ _ pb off cap _ vs a1 a2 a3 a4 a5 =>
                  obtain ⟨_, rfl⟩ := g2
                  have hc : CellsAt w (RepC w (okOf w0 M R φ sv w) γ) pb (off + i * z) row := fun k x hk => by
                    have hx : isSc x = true := List.all_eq_true.1 hsc x (List.mem_of_getElem? hk)
                    exact ⟨vs i k, by rw [Nat.add_assoc]; exact (a4 i row k x hrow hk).1, rep_repC (isSc_rep hx (a5 i row k x hrow hk)), (a4 i row k x hrow hk).2⟩
                  obtain ⟨q1, q2⟩ := part_at ht.st hc hpt
                  rw [Nat.add_assoc] at q2
                  obtain ⟨u, u1, u2⟩ := load_rep (P := P) ht q1 q2
                  exact opres_pure h u1 u2
            · cases hd
          · cases hd
        · cases hd
      · cases hd
    · rename_i o cs
      unfold loaded at hd
      cases hpt : part ti (cs.map rdC) with
      | none => rw [hpt] at hd; cases hd
      | some l =>
        rw [hpt] at hd
        cases hd
        have hp : Rep w (okOf w0 M R φ sv w) v (.pb o cs) := hp
        have ⟨pb, off, hv⟩ : ∃ pb off, v = .pointer (some ⟨pb, off, none⟩) := by cases hp; exact ⟨_, _, rfl⟩
        subst hv
        have hc := rep_cells hp
        have hc' : CellsAt w (RepC w (okOf w0 M R φ sv w) γ) pb off (cs.map rdC) := fun k x hk => by
          rw [List.getElem?_map] at hk
          cases hx : cs[k]? with
          | none => rw [hx] at hk; cases hk
          | some y =>
            rw [hx] at hk
            cases hk
            obtain ⟨u, u1, u2, u3⟩ := hc k y hx
            exact ⟨u, u1, rep_repC u2.rdC, u3⟩
        obtain ⟨q1, q2⟩ := part_at (j := 0) ht.st hc' (by simpa using hpt)
        rw [Nat.add_zero] at q2
        obtain ⟨u, u1, u2⟩ := load_rep (P := P) ht q1 q2
        exact opres_pure h u1 u2
    · cases hd
/-- fields -/
theorem fieldAddr_ok (hT : TOk P T) {t : TypeId} {ti : TI} (ht : T t = some ti) {fs : List (Nat × TypeId)} (hk : ti.kind = .struct fs) {v : Value} {x y : AV} {f : Nat} (hv : RepV w ok γ v x) (hy : pFieldAddr T fs x f = some y) :
    ∃ u, (Instr.fieldAt t v f).run P w = .ok u w ∧ RepV w ok γ u y := by
  have hkd := (hT t ti ht).kd
  rw [hk] at hkd
  obtain ⟨fa, hu, hfa⟩ := hkd
  unfold pFieldAddr at hy
  split at hy
  · cases hy
  · rename_i off ft hf
    split at hy
    · cases hy
    · rename_i tf htf
      split at hy
      · rename_i hsz
        obtain ⟨fd, hfd, ho, hty⟩ : ∃ fd : Field, fa[f]? = some fd ∧ fd.offset = off ∧ fd.type = ft := by
          rw [← hfa, List.getElem?_map] at hf
          simp only [Array.getElem?_toList] at hf
          cases h0 : fa[f]? with
          | none => rw [h0] at hf; cases hf
          | some fd => rw [h0] at hf; cases hf; exact ⟨fd, rfl, rfl, rfl⟩
        have hrun : ∀ ad : Addr, (Instr.fieldAt t (.pointer (some ad)) f).run P w = .ok (.pointer (some (ad.add off))) w := fun ad => by
          simp only [Instr.fieldAt, Sem.run_bind, run_underlying hu, Result.andThen_ok, hfd, Instr.sureAddr, Sem.run_pure, fieldPlace, hty, sizeOf_run (hT ft tf htf), hsz, if_false, ho]
        split at hy
        · rename_i m i j
          cases hy
          obtain ⟨v0, z, g1, g2⟩ := hv
          unfold PtAt at g2
          split at g2
          · obtain ⟨hi, rfl⟩ := g2
            refine ⟨_, hrun _, _, _, g1, ?_⟩
            rw [add_flat]
            exact ⟨hi, by rw [Nat.add_assoc, Nat.add_assoc]⟩
          · obtain ⟨hi, rfl⟩ := g2
            refine ⟨_, hrun _, _, _, g1, ?_⟩
            rw [add_flat]
            exact ⟨hi, by rw [Nat.add_assoc]⟩
          · exact g2.elim
        · rename_i o cs
          cases hy
          have hv : Rep w ok v (.pb o cs) := hv
          cases hv with
          | pb _ b o' _ vs h1 h2 h3 =>
            refine ⟨_, hrun _, ?_⟩
            rw [add_flat]
            refine .pb o b _ _ (fun j => vs (off + j)) h1 (fun j x hj => ?_) (fun j x hj => ?_)
            · rw [List.getElem?_drop] at hj; rw [Nat.add_assoc]; exact h2 _ x hj
            · rw [List.getElem?_drop] at hj; exact h3 _ x hj
        · cases hy
      · cases hy
theorem index_ok {t : TypeId} (ht : P.underlying t = some .string) {s : ByteArray} {k : IntKind} {n : Int} {u : UInt8} (hu : (bt s)[n.toNat]? = some u) (h0 : 0 ≤ n) :
    (Instr.index t (.string s) (.int k n)).run P w = .ok (.int .u8 u.toNat) w := by
  have hl : n.toNat < s.size := by have := idx_lt hu; simpa [bt] using this
  have hs : s[n.toNat]? = some u := by
    rw [ByteArray.getElem?_lt' s _ hl]
    unfold bt at hu
    have : s.data[n.toNat]? = some u := by simpa using hu
    rw [Array.getElem?_eq_getElem (by exact hl)] at this
    exact this
  simp [Instr.index, asIntOf, run_underlying ht, h0, hs]
theorem extract_ok {v : Value} {xs : List AV} {i : Nat} {x : AV} (hv : RepV w ok γ v (.tu xs)) (hx : xs[i]? = some x) : ∃ u, (Instr.extract v i).run P w = .ok u w ∧ RepV w ok γ u x := by
  obtain ⟨vs, rfl, hl, hr⟩ := hv
  have hi : i < vs.length := by rw [hl]; exact idx_lt hx
  refine ⟨vs[i], by simp [Instr.extract, hi], ?_⟩
  have := hr i vs[i] x (List.getElem?_eq_getElem hi) hx
  cases x <;> first | exact this | exact this.elim
end
end Go.Proofs.YtkkmgjhfjhcdmaaGreatDoor.Mx

/- Stores. -/
namespace Go.Proofs.YtkkmgjhfjhcdmaaGreatDoor.Mx
set_option linter.all false
open Go Go.RowKit
theorem setR_get {row cs : Row} {j k : Nat} (h : j + cs.length ≤ row.length) : (setR row j cs)[k]? = if j ≤ k ∧ k < j + cs.length then cs[k - j]? else row[k]? := by
  unfold setR
  have hj : (row.take j).length = j := by rw [List.length_take]; omega
  by_cases h1 : k < j
  · rw [if_neg (by omega), List.append_assoc, List.getElem?_append_left (by omega), List.getElem?_take_of_lt h1]
  · by_cases h2 : k < j + cs.length
    · rw [if_pos (by omega), List.append_assoc, List.getElem?_append_right (by omega), hj, List.getElem?_append_left (by omega)]
    · rw [if_neg (by omega), List.getElem?_append_right (by rw [List.length_append, hj]; omega), List.length_append, hj, List.getElem?_drop]
      congr 1; omega
theorem setR_len {row cs : Row} {j : Nat} (h : j + cs.length ≤ row.length) : (setR row j cs).length = row.length := by
  unfold setR
  simp only [List.length_append, List.length_take, List.length_drop]
  omega
section
variable {w0 : World} {M R : Nat → Prop} {γ : Gs} {φ : Fp} {tv : Tv} {sv : Sv} {a : Act} {w w' : World} {P : Program} {T : Ty} {ok ok' : Nat → Prop}
theorem Own.sub {F : Nat → Prop} {v0 v : Value} {z lo n : Nat} {rows : List Row} (r : Own w ok F v0 (.sl true z rows)) (hs : Sub v0 z lo n v) : Own w ok F v (.sl true z (seg rows lo n)) := by
  cases r with
  | rd _ _ _ h1 => exact (h1 _ _ rfl).elim
  | nil =>
    obtain ⟨rfl, rfl, rfl⟩ := hs
    exact .nil _ _
  | emp =>
    obtain ⟨p, cap', rfl, hle, hc, ho⟩ := hs
    have : n = 0 := by omega
    subst this
    have : cap' = 0 := by omega
    subst this
    rw [show seg ([] : List Row) lo 0 = [] by simp [seg]]
    exact .emp _ _ _ _
  | sl _ _ b off cap _ cur e fr Fs h1 h2 h3 h4 h5 h6 h7 h8 h9 h10 h11 =>
    obtain ⟨p, cap', rfl, hle, hc, ho⟩ := hs
    have hl := seg_len (r := rows) hle
    by_cases hn : cap' = 0
    · subst hn
      have : n = 0 := by omega
      subst this
      have : seg rows lo 0 = [] := List.eq_nil_of_length_eq_zero hl
      rw [this]
      exact .emp _ _ _ _
    · obtain ⟨hp, hcc⟩ : p = off + lo * z ∧ lo + cap' ≤ cap := by
        rcases ho with h | h
        · exact h
        · omega
      have key : ∀ i row, (seg rows lo n)[i]? = some row → rows[lo + i]? = some row := fun i row hi => by
        have := idx_lt hi
        rw [seg_get (by omega)] at hi
        exact hi
      have hcap : (lo + cap') * z ≤ cap * z := Nat.mul_le_mul_right _ hcc
      rw [Nat.add_mul] at hcap
      have e1 : ∀ i j, p + (i * z + j) = off + ((lo + i) * z + j) := fun i j => by rw [hp, Nat.add_mul]; omega
      have hR := Own.sl (w := w) (ok := ok) F z b p cap' (seg rows lo n) cur e fr (fun i j => Fs (lo + i) j) h1 h2 h3 (by omega) (by rw [hp]; omega) (by omega) (fun i j x hx => h7 _ _ _ hx)
        (fun i j i' j' x hx hx' => by have := h8 _ _ _ _ x hx hx'; exact ⟨by omega, this.2⟩) (fun i row hi => h9 _ _ (key i row hi)) (fun i row j x hi hj => by rw [e1]; exact h10 _ _ j x (key i row hi) hj)
        (fun i row j x hi hj => by rw [e1]; exact h11 _ _ j x (key i row hi) hj)
      rw [hl] at hR
      exact hR
/-- cells of a row of an owned array are turned -/
theorem own_set {Fn : Nat → Prop} {z b off cap : Nat} {rows : List Row} {cur cur' : Array Value} {e : TypeId} {fr : Nat × Nat} {Fs : Nat → Nat → Nat → Prop} (hFb : Fn b) (ht : Thawed cur fr) (hc : rows.length ≤ cap)
    (hsz : off + cap * z ≤ cur.size) (hm : cap ≤ maxLen) (hin : ∀ i j x, Fs i j x → Fn x ∧ x ≠ b) (hdj : ∀ i j i' j' x, Fs i j x → Fs i' j' x → i = i' ∧ j = j') (hl : ∀ (i : Nat) (row : Row), rows[i]? = some row → row.length = z)
    (h1 : ∀ (i : Nat) (row : Row) (j : Nat) (x : AV), rows[i]? = some row → row[j]? = some x → (cur.getD (off + (i * z + j)) undef).oneCell' = true)
    (hO : ∀ (i : Nat) (row : Row) (j : Nat) (x : AV), rows[i]? = some row → row[j]? = some x → Own w ok (Fs i j) (cur.getD (off + (i * z + j)) undef) x)
    {i j : Nat} {row : Row} (hrow : rows[i]? = some row) {vs : List Value} {l : Row} (hvl : vs.length = l.length) (hj : j + l.length ≤ z) (hv1 : ∀ v ∈ vs, v.oneCell' = true)
    (F' : Nat → Nat → Prop) (hF' : ∀ q x, F' q x → Fn x ∧ x ≠ b) (hFd : ∀ q q' x, F' q x → F' q' x → q = q') (hFs : ∀ q i' j' x, F' q x → Fs i' j' x → i' = i ∧ j ≤ j' ∧ j' < j + l.length)
    (hl' : ∀ (q : Nat) (y : AV), l[q]? = some y → Own w ok (F' q) (vs.getD q undef) y)
    (hw : ∀ k, k ≠ b → w'.heap[k]? = w.heap[k]?) (hb' : w'.heap[b]? = some (.cells cur' e fr)) (hcs : cur'.size = cur.size)
    (hcur : ∀ k, cur'.getD k undef = if off + (i * z + j) ≤ k ∧ k < off + (i * z + j) + vs.length then vs.getD (k - (off + (i * z + j))) undef else cur.getD k undef)
    (hok : ∀ c, ok c → ok' c ∧ w'.heap[c]? = w.heap[c]?) : Own w' ok' Fn (.slice (some ⟨b, off, none⟩) rows.length cap) (.sl true z (rows.set i (setR row j l))) := by
  have hrl := hl i row hrow
  have hi := idx_lt hrow
  have getR : ∀ i' row', (rows.set i (setR row j l))[i']? = some row' → (i' = i ∧ row' = setR row j l) ∨ (i' ≠ i ∧ rows[i']? = some row') := fun i' row' h => by
    rw [List.getElem?_set] at h
    by_cases hii : i = i'
    · subst hii
      simp [hi] at h
      exact .inl ⟨rfl, h.symm⟩
    · rw [if_neg hii] at h
      exact .inr ⟨Ne.symm hii, h⟩
  -- where the cells of another place lie
  have away : ∀ i' j', i' < rows.length → j' < z → ¬ (i' = i ∧ j ≤ j' ∧ j' < j + l.length) → cur'.getD (off + (i' * z + j')) undef = cur.getD (off + (i' * z + j')) undef := fun i' j' hi' hj' hne => by
    rw [hcur, if_neg]
    intro hh
    rcases Nat.lt_trichotomy i' i with hlt | rfl | hlt
    · have : (i' + 1) * z ≤ i * z := Nat.mul_le_mul_right _ (by omega)
      rw [Nat.add_mul] at this
      omega
    · omega
    · have : (i + 1) * z ≤ i' * z := Nat.mul_le_mul_right _ (by omega)
      rw [Nat.add_mul] at this
      omega
  have here : ∀ q, q < l.length → cur'.getD (off + (i * z + (j + q))) undef = vs.getD q undef := fun q hq => by
    rw [hcur, if_pos (by omega)]
    congr 1; omega
  have hlen : (rows.set i (setR row j l)).length = rows.length := List.length_set
  have keep : ∀ (i' j' : Nat), i' < rows.length → j' < z → ∀ F v x, (∀ c, F c → c ≠ b) → Own w ok F v x → Own w' ok' F v x := fun i' j' _ _ F v x hF ho => ho.mono hok F fun c hc => ⟨hc, hw c (hF c hc)⟩
  have hR := Own.sl (w := w') (ok := ok') Fn z b off cap (rows.set i (setR row j l)) cur' e fr (fun i' j' x => if i' = i ∧ j ≤ j' ∧ j' < j + l.length then F' (j' - j) x else Fs i' j' x) hFb hb' (fun o ho => ht o (by rw [← hcs]; exact ho)) (by rw [hlen]; exact hc) (by rw [hcs]; exact hsz) hm
    (fun i' j' x hx => by split at hx; exact hF' _ _ hx; exact hin _ _ _ hx)
    (fun i1 j1 i2 j2 x hx hy => by
      split at hx <;> split at hy
      · rename_i c1 c2
        have := hFd _ _ _ hx hy
        omega
      · rename_i c1 c2
        exact (c2 (hFs _ _ _ _ hx hy)).elim
      · rename_i c1 c2
        exact (c1 (hFs _ _ _ _ hy hx)).elim
      · exact hdj _ _ _ _ _ hx hy)
    (fun i' row' h => by
      rcases getR i' row' h with ⟨_, rfl⟩ | ⟨_, h⟩
      · rw [setR_len (by omega)]; exact hrl
      · exact hl _ _ h)
    (fun i' row' j' x h hx => by
      rcases getR i' row' h with ⟨rfl, rfl⟩ | ⟨hne, h⟩
      · rw [setR_get (by omega)] at hx
        split at hx
        · rename_i hc
          have hq := idx_lt hx
          have := here (j' - j) hq
          rw [show j + (j' - j) = j' by omega] at this
          rw [this]
          exact hv1 _ (by rw [List.getD_eq_getElem?_getD, List.getElem?_eq_getElem (by omega)]; exact List.getElem_mem _)
        · rename_i hc
          rw [away i' j' hi (by rw [← hrl]; exact idx_lt hx) (by omega)]
          exact h1 _ _ _ _ hrow hx
      · rw [away i' j' (idx_lt h) (by rw [← hl _ _ h]; exact idx_lt hx) (by omega)]
        exact h1 _ _ _ _ h hx)
    (fun i' row' j' x h hx => by
      rcases getR i' row' h with ⟨rfl, rfl⟩ | ⟨hne, h⟩
      · rw [setR_get (by omega)] at hx
        split at hx
        · rename_i hc
          have hq := idx_lt hx
          have := here (j' - j) hq
          rw [show j + (j' - j) = j' by omega] at this
          rw [this]
          exact (hl' _ _ hx).mono hok _ fun c hcc => ⟨by show (if _ then _ else _); rw [if_pos ⟨rfl, hc⟩]; exact hcc, hw c (hF' _ _ hcc).2⟩
        · rename_i hc
          rw [away i' j' hi (by rw [← hrl]; exact idx_lt hx) (by omega)]
          exact (hO _ _ _ _ hrow hx).mono hok _ fun c hcc => ⟨by show (if _ then _ else _); rw [if_neg (by omega)]; exact hcc, hw c (hin _ _ _ hcc).2⟩
      · rw [away i' j' (idx_lt h) (by rw [← hl _ _ h]; exact idx_lt hx) (by omega)]
        exact (hO _ _ _ _ h hx).mono hok _ fun c hcc => ⟨by show (if _ then _ else _); rw [if_neg (by omega)]; exact hcc, hw c (hin _ _ _ hcc).2⟩)
  rw [hlen] at hR
  exact hR
/-- a cell that holds an inner slice is turned -/
theorem own_cellN {F : Nat → Prop} {v0 : Value} {zp : Nat} {rp : List Row} {i j z : Nat} {r : List Row} (ho : Own w ok F v0 (.sl true zp rp)) (hn : nest rp i j = some (z, r)) :
    ∃ b off cap G u, v0 = .slice (some ⟨b, off, none⟩) rp.length cap ∧ w.cell? ⟨b, off + (i * zp + j), none⟩ = some u ∧ Own w ok G u (.sl true z r) ∧ (∀ c, G c → F c ∧ c ≠ b) ∧ F b ∧
      ∀ (w' : World) (ok' G' : Nat → Prop) (y : AV), (∀ c, G' c → G c ∨ ¬ F c) → (∀ c, F c → ¬ G c → w'.heap[c]? = w.heap[c]?) → (∀ c, ok c → ok' c ∧ w'.heap[c]? = w.heap[c]?) → Own w' ok' G' u y → Own w' ok' (fun c => (F c ∧ (G c → G' c)) ∨ G' c) v0 (.sl true zp (rp.set i ((rp.getD i []).set j y))) := by
  obtain ⟨row, hrow, hj⟩ := nest_some hn
  cases ho with
  | rd _ _ _ h1 => exact (h1 _ _ rfl).elim
  | nil => simp at hrow
  | emp => simp at hrow
  | sl _ _ b off cap _ cur e fr Fs h1 h2 h3 h4 h5 h6 h7 h8 h9 h10 h11 =>
    have hrl := h9 i row hrow
    have hjz : j < zp := by rw [← hrl]; exact idx_lt hj
    refine ⟨b, off, cap, Fs i j, cur.getD (off + (i * zp + j)) undef, rfl, cell_some h2 (in_row (idx_lt hrow) hjz h4 h5), h11 i row j _ hrow hj, fun c hc => h7 i j c hc, h1, fun w' ok' G' y hG hw hok hO => ?_⟩
    have hD : rp.getD i [] = row := by rw [List.getD_eq_getElem?_getD, hrow]; rfl
    rw [hD]
    have hb : w'.heap[b]? = w.heap[b]? := hw b h1 fun hb => (h7 i j b hb).2 rfl
    have hi := idx_lt hrow
    have hlen : (rp.set i (row.set j y)).length = rp.length := List.length_set
    have getR : ∀ i' row', (rp.set i (row.set j y))[i']? = some row' → (i' = i ∧ row' = row.set j y) ∨ (i' ≠ i ∧ rp[i']? = some row') := fun i' row' h => by
      rw [List.getElem?_set] at h
      by_cases hii : i = i'
      · subst hii
        simp [hi] at h
        exact .inl ⟨rfl, h.symm⟩
      · rw [if_neg hii] at h
        exact .inr ⟨Ne.symm hii, h⟩
    have getC : ∀ j' x, (row.set j y)[j']? = some x → (j' = j ∧ x = y) ∨ (j' ≠ j ∧ row[j']? = some x) := fun j' x h => by
      rw [List.getElem?_set] at h
      by_cases hjj : j = j'
      · subst hjj
        simp [idx_lt hj] at h
        exact .inl ⟨rfl, h.symm⟩
      · rw [if_neg hjj] at h
        exact .inr ⟨Ne.symm hjj, h⟩
    have oth : ∀ i' j' x u, ¬ (i' = i ∧ j' = j) → Own w ok (Fs i' j') u x → Own w' ok' (fun c => if i' = i ∧ j' = j then G' c else Fs i' j' c) u x := fun i' j' x u hne ho => ho.mono hok _ fun c hc => ⟨by rw [if_neg hne]; exact hc, hw c (h7 _ _ _ hc).1 fun hG => hne (h8 _ _ _ _ c hc hG)⟩
    have hR := Own.sl (w := w') (ok := ok') (fun c => (F c ∧ (Fs i j c → G' c)) ∨ G' c) zp b off cap (rp.set i (row.set j y)) cur e fr (fun i' j' c => if i' = i ∧ j' = j then G' c else Fs i' j' c) (.inl ⟨h1, fun h => ((h7 _ _ _ h).2 rfl).elim⟩) (hb.trans h2) h3 (by rw [hlen]; exact h4) h5 h6
      (fun i' j' c hc => by
        split at hc
        · refine ⟨.inr hc, ?_⟩
          rcases hG c hc with hg | hg
          · exact (h7 _ _ _ hg).2
          · rintro rfl; exact hg h1
        · rename_i hne; have := h7 _ _ _ hc; exact ⟨.inl ⟨this.1, fun h => (hne (h8 _ _ _ _ _ hc h)).elim⟩, this.2⟩)
      (fun i1 j1 i2 j2 c hc hc' => by
        split at hc <;> split at hc'
        · omega
        · rename_i c1 c2; rcases hG c hc with hg | hg
          · exact (c2 (h8 _ _ _ _ _ hc' hg)).elim
          · exact (hg (h7 _ _ _ hc').1).elim
        · rename_i c1 c2; rcases hG c hc' with hg | hg
          · exact (c1 (h8 _ _ _ _ _ hc hg)).elim
          · exact (hg (h7 _ _ _ hc).1).elim
        · exact h8 _ _ _ _ _ hc hc')
      (fun i' row' h => by
        rcases getR i' row' h with ⟨rfl, rfl⟩ | ⟨_, h⟩
        · rw [List.length_set]; exact hrl
        · exact h9 _ _ h)
      (fun i' row' j' x h hx => by
        rcases getR i' row' h with ⟨rfl, rfl⟩ | ⟨_, h⟩
        · rcases getC j' x hx with ⟨rfl, rfl⟩ | ⟨_, hx⟩
          · exact h10 _ _ _ _ hrow hj
          · exact h10 _ _ _ _ hrow hx
        · exact h10 _ _ _ _ h hx)
      (fun i' row' j' x h hx => by
        rcases getR i' row' h with ⟨rfl, rfl⟩ | ⟨hne, h⟩
        · rcases getC j' x hx with ⟨rfl, rfl⟩ | ⟨hne, hx⟩
          · exact hO.mono (fun c hc => ⟨hc, rfl⟩) (fun c => if i' = i' ∧ j' = j' then G' c else Fs i' j' c) fun c hc => ⟨by rw [if_pos ⟨rfl, rfl⟩]; exact hc, rfl⟩
          · exact oth _ _ _ _ (fun e => hne e.2) (h11 _ _ _ _ hrow hx)
        · exact oth _ _ _ _ (fun e => hne e.1) (h11 _ _ _ _ h hx))
    rw [hlen] at hR
    exact hR
theorem own_cell {F : Nat → Prop} {v0 : Value} {zp : Nat} {rp : List Row} {i j z : Nat} {r : List Row} (ho : Own w ok F v0 (.sl true zp rp)) (hn : nest rp i j = some (z, r)) :
    ∃ b off cap G u, v0 = .slice (some ⟨b, off, none⟩) rp.length cap ∧ w.cell? ⟨b, off + (i * zp + j), none⟩ = some u ∧ Own w ok G u (.sl true z r) ∧ (∀ c, G c → F c ∧ c ≠ b) ∧ F b ∧
      ∀ (w' : World) (ok' G' : Nat → Prop) (y : AV), (∀ c, G' c → G c) → (∀ c, F c → ¬ G c → w'.heap[c]? = w.heap[c]?) → (∀ c, ok c → ok' c ∧ w'.heap[c]? = w.heap[c]?) → Own w' ok' G' u y → Own w' ok' (fun c => F c ∧ (G c → G' c)) v0 (.sl true zp (rp.set i ((rp.getD i []).set j y))) := by
  obtain ⟨b, off, cap, G, u, h1, h2, h3, h4, h5, h6⟩ := own_cellN ho hn
  exact ⟨b, off, cap, G, u, h1, h2, h3, h4, h5, fun w' ok' G' y hG hw hok hO => (h6 w' ok' G' y (fun c hc => .inl (hG c hc)) hw hok hO).mono (fun c hc => ⟨hc, rfl⟩) _ fun c hc => ⟨hc.elim id fun hg => ⟨(h4 c (hG c hg)).1, fun _ => hg⟩, rfl⟩⟩
/-- an inner slice's rows are turned -/
theorem own_nest {F : Nat → Prop} {v0 : Value} {zp : Nat} {rp : List Row} {i j z : Nat} {r : List Row} (ho : Own w ok F v0 (.sl true zp rp)) (hn : nest rp i j = some (z, r)) :
    ∃ b off cap G u, v0 = .slice (some ⟨b, off, none⟩) rp.length cap ∧ w.cell? ⟨b, off + (i * zp + j), none⟩ = some u ∧ Own w ok G u (.sl true z r) ∧ (∀ c, G c → F c ∧ c ≠ b) ∧ F b ∧
      ∀ (w' : World) (ok' : Nat → Prop) (r' : List Row), (∀ c, ¬ G c → w'.heap[c]? = w.heap[c]?) → (∀ c, ok c → ok' c ∧ w'.heap[c]? = w.heap[c]?) → Own w' ok' G u (.sl true z r') → Own w' ok' F v0 (.sl true zp (rp.set i ((rp.getD i []).set j (.sl true z r')))) := by
  obtain ⟨b, off, cap, G, u, h1, h2, h3, h4, h5, h6⟩ := own_cell ho hn
  exact ⟨b, off, cap, G, u, h1, h2, h3, h4, h5, fun w' ok' r' hw hok hO => (h6 w' ok' G _ (fun _ h => h) (fun c _ => hw c) hok hO).mono (fun c hc => ⟨hc, rfl⟩) _ fun c hc => ⟨hc.1, rfl⟩⟩
/-- an array of cells without addresses -/
theorem own_flat {F : Nat → Prop} {z b off cap : Nat} {rows : List Row} {cur : Array Value} {e : TypeId} {fr : Nat × Nat} (hF : F b) (hb : w.heap[b]? = some (.cells cur e fr)) (ht : Thawed cur fr) (hc : rows.length ≤ cap) (hsz : off + cap * z ≤ cur.size) (hm : cap ≤ maxLen)
    (hfl : flatR rows = true) (hl : ∀ (i : Nat) (row : Row), rows[i]? = some row → row.length = z)
    (hr : ∀ (i : Nat) (row : Row) (j : Nat) (x : AV), rows[i]? = some row → row[j]? = some x → (cur.getD (off + (i * z + j)) undef).oneCell' = true ∧ ∃ w1 ok1, Rep w1 ok1 (cur.getD (off + (i * z + j)) undef) x) : Own w ok F (.slice (some ⟨b, off, none⟩) rows.length cap) (.sl true z rows) := by
  have sc : ∀ (i : Nat) (row : Row) (j : Nat) (x : AV), rows[i]? = some row → row[j]? = some x → isSc x = true := fun i row j x hi hj => List.all_eq_true.1 (List.all_eq_true.1 hfl row (List.mem_of_getElem? hi)) x (List.mem_of_getElem? hj)
  exact .sl F z b off cap rows cur e fr (fun _ _ _ => False) hF hb ht hc hsz hm (fun _ _ _ h => h.elim) (fun _ _ _ _ _ h => h.elim) hl (fun i row j x hi hj => (hr i row j x hi hj).1)
    (fun i row j x hi hj => by obtain ⟨_, w1, ok1, h⟩ := hr i row j x hi hj; exact own_of_rep (sc i row j x hi hj) (isSc_rep (sc i row j x hi hj) h))
/-- cells that go into an array -/
theorem cnv_ok (h : Sim w0 M R γ φ tv sv a w) {m i ver : Nat} {old : Row} (G : Nat → Nat → Prop) (hG : ∀ j c, G j c → live sv m ∧ φ m c) (hGd : ∀ j j' c, G j c → G j' c → j = j')
    (hold : ∀ k j z r, sv k = some (.sb m i j ver) → old[j]? = some (.sl true z r) → ∃ u0, γ k = some (u0, z) ∧ Own w (okOf w0 M R φ sv w) (G j) u0 (.sl true z r)) :
    ∀ (cs : Row) (j0 : Nat) (l : Row) (ns : List Nat) (vs : Nat → Value), cnv sv m i ver old j0 cs = some (l, ns) → (∀ q x, cs[q]? = some x → RepC w (okOf w0 M R φ sv w) γ (vs q) x) →
    l.length = cs.length ∧ m ∉ ns ∧ (∀ k ∈ ns, live sv k) ∧ ∃ F : Nat → Nat → Prop, (∀ q y, l[q]? = some y → Own w (okOf w0 M R φ sv w) (F q) (vs q) y) ∧ (∀ q c, F q c → q < l.length ∧ ((∃ k ∈ ns, φ k c) ∨ G (j0 + q) c)) ∧ ∀ q q' c, F q c → F q' c → q = q'
  | [], j0, l, ns, vs, hc, hv => by
    simp only [cnv] at hc
    cases hc
    exact ⟨rfl, by simp, (fun k hk => by cases hk), (fun _ _ => False), (fun q y hq => by simp at hq), (fun _ _ h => h.elim), (fun _ _ _ h => h.elim)⟩
  | x :: cs, j0, l, ns, vs, hc, hv => by
    simp only [cnv] at hc
    split at hc
    · cases hc
    · rename_i l' ns' hc'
      obtain ⟨i1, i2, i3, F, i4, i5, i6⟩ := cnv_ok h G hG hGd hold cs (j0 + 1) l' ns' (fun q => vs (q + 1)) hc' (fun q x hq => hv (q + 1) x (by simpa using hq))
      have hv0 := hv 0 x rfl
      -- a cell that is only read
      have plainC : ∀ y, l = y :: l' → ns = ns' → Rep w (okOf w0 M R φ sv w) (vs 0) y → (∀ z r, y ≠ .sl true z r) → (∀ cs, y ≠ .pb true cs) →
          l.length = (x :: cs).length ∧ m ∉ ns ∧ (∀ k ∈ ns, live sv k) ∧ ∃ F : Nat → Nat → Prop, (∀ q y, l[q]? = some y → Own w (okOf w0 M R φ sv w) (F q) (vs q) y) ∧ (∀ q c, F q c → q < l.length ∧ ((∃ k ∈ ns, φ k c) ∨ G (j0 + q) c)) ∧ ∀ q q' c, F q c → F q' c → q = q' := by
        rintro y rfl rfl hy n1 n2
        refine ⟨by simp [i1], i2, i3, fun q c => match q with | 0 => False | q + 1 => F q c, fun q y' hq => ?_, fun q c hq => ?_, fun q q' c hq hq' => ?_⟩
        · cases q with
          | zero => simp at hq; subst hq; exact .rd _ _ _ n1 n2 hy
          | succ q => exact i4 q y' (by simpa using hq)
        · cases q with
          | zero => exact hq.elim
          | succ q => have := i5 q c hq; rw [show j0 + 1 + q = j0 + (q + 1) by omega] at this; exact ⟨by simp; exact this.1, this.2⟩
        · cases q with
          | zero => exact hq.elim
          | succ q => cases q' with
            | zero => exact hq'.elim
            | succ q' => rw [i6 q q' c hq hq']
      -- a cell with blocks of its own
      have ownC : ∀ y k0 H, l = y :: l' → (ns = ns' ∨ (ns = k0 :: ns' ∧ k0 ∉ ns' ∧ k0 ≠ m ∧ live sv k0)) → Own w (okOf w0 M R φ sv w) H (vs 0) y → (∀ c, H c → (ns = k0 :: ns' ∧ k0 ∉ ns' ∧ k0 ≠ m ∧ live sv k0 ∧ φ k0 c) ∨ G j0 c) →
          l.length = (x :: cs).length ∧ m ∉ ns ∧ (∀ k ∈ ns, live sv k) ∧ ∃ F : Nat → Nat → Prop, (∀ q y, l[q]? = some y → Own w (okOf w0 M R φ sv w) (F q) (vs q) y) ∧ (∀ q c, F q c → q < l.length ∧ ((∃ k ∈ ns, φ k c) ∨ G (j0 + q) c)) ∧ ∀ q q' c, F q c → F q' c → q = q' := by
        rintro y k0 H rfl hns hy hH
        have sub : ∀ k ∈ ns', k ∈ ns := fun k hk => by rcases hns with rfl | ⟨rfl, _⟩; exact hk; exact List.mem_cons_of_mem _ hk
        have apart : ∀ q c, H c → F q c → False := fun q c hc hf => by
          rcases (i5 q c hf).2 with ⟨k, hk, hkc⟩ | hg
          · have hlk := i3 k hk
            have hkm : k ≠ m := fun e => i2 (e ▸ hk)
            rcases hH c hc with ⟨_, hn, _, hl0, h0⟩ | hg0
            · exact h.dj k0 k hl0 hlk (fun e => hn (e ▸ hk)) c h0 hkc
            · obtain ⟨hl1, h1⟩ := hG _ _ hg0
              exact h.dj k m hlk hl1 hkm c hkc h1
          · obtain ⟨hl1, h1⟩ := hG _ _ hg
            rcases hH c hc with ⟨_, hn, hne, hl0, h0⟩ | hg0
            · exact h.dj k0 m hl0 hl1 hne c h0 h1
            · have := hGd _ _ _ hg0 hg; omega
        refine ⟨by simp [i1], ?_, ?_, fun q c => match q with | 0 => H c | q + 1 => F q c, fun q y' hq => ?_, fun q c hq => ?_, fun q q' c hq hq' => ?_⟩
        · rcases hns with rfl | ⟨rfl, _, hne, _⟩
          · exact i2
          · intro hmem; rcases List.mem_cons.1 hmem with e | e; exact hne e.symm; exact i2 e
        · intro k hk
          rcases hns with rfl | ⟨rfl, _, _, hl0⟩
          · exact i3 k hk
          · rcases List.mem_cons.1 hk with rfl | e; exact hl0; exact i3 k e
        · cases q with
          | zero => simp at hq; subst hq; exact hy
          | succ q => exact i4 q y' (by simpa using hq)
        · cases q with
          | zero =>
            refine ⟨by simp, ?_⟩
            rcases hH c hq with ⟨e, _, _, _, h0⟩ | hg
            · exact .inl ⟨k0, by rw [e]; simp, h0⟩
            · exact .inr hg
          | succ q =>
            have := i5 q c hq
            rw [show j0 + 1 + q = j0 + (q + 1) by omega] at this
            exact ⟨by simp; exact this.1, this.2.imp (fun ⟨k, hk, hkc⟩ => ⟨k, sub k hk, hkc⟩) id⟩
        · cases q with
          | zero => cases q' with
            | zero => rfl
            | succ q' => exact (apart q' c hq hq').elim
          | succ q => cases q' with
            | zero => exact (apart q c hq' hq).elim
            | succ q' => rw [i6 q q' c hq hq']
      split at hc
      · cases hc; exact plainC _ rfl rfl hv0 (by simp) (by simp)
      · cases hc; exact plainC _ rfl rfl hv0 (by simp) (by simp)
      · cases hc; exact plainC _ rfl rfl (Rep.flag hv0) (by simp) (by simp)
      · rename_i k lo n
        obtain ⟨v0, z0, g1, g2⟩ := hv0
        split at hc
        · rename_i z vr r hk
          rw [cond_eq_ite] at hc
          split at hc
          · rename_i hcc
            simp at hcc
            cases hc
            obtain ⟨v0', k1, k2⟩ := h.bk k _ hk
            rw [g1] at k1
            cases k1
            have hlk : live sv k := by unfold live; rw [hk]; rfl
            exact ownC _ k (φ k) rfl (.inr ⟨rfl, hcc.2, hcc.1, hlk⟩) (k2.sub g2) (fun c hc => .inl ⟨rfl, hcc.2, hcc.1, hlk, hc⟩)
          · cases hc
        · rename_i z r hk
          cases hc
          obtain ⟨v0', k1, k2⟩ := h.bk k _ hk
          rw [g1] at k1
          cases k1
          exact plainC _ rfl rfl (k2.sub (o' := false) g2) (by simp) (by simp)
        · rename_i p i' j' v' hk
          split at hc
          · rename_i hcc
            obtain ⟨rfl, rfl, rfl, rfl, rfl⟩ := hcc
            split at hc
            · rename_i z r hold'
              split at hc
              · rename_i hlen
                cases hc
                obtain ⟨u0, k1, k2⟩ := hold k j' z r hk hold'
                rw [g1] at k1
                cases k1
                have := k2.sub g2
                rw [← hlen, show seg r 0 r.length = r by simp [seg]] at this
                exact ownC _ 0 (G j') rfl (.inl rfl) this (fun c hc => .inr hc)
              · cases hc
            · cases hc
          · cases hc
        · cases hc
      · cases hc
end
end Go.Proofs.YtkkmgjhfjhcdmaaGreatDoor.Mx
