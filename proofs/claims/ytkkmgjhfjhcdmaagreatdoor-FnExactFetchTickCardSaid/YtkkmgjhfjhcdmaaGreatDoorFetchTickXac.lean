/- A machine over values for Go functions, proved sound, and functions run on it: texts O7, O8, O9, OA, OB, OC. -/
import Derived.Laws.MakeOwn
import Derived.Laws.BytesString
import Derived.Laws.Tables
import Derived.Laws.IdiomStrings
import Derived.Test.YtkkmgjhfjhcdmaaGreatDoorFetchTickXab
/- Stores, done. -/
namespace Go.Proofs.YtkkmgjhfjhcdmaaGreatDoor.Mx
set_option linter.all false
open Go Go.RowKit
section
variable {w0 : World} {M R : Nat → Prop} {γ : Gs} {φ : Fp} {tv : Tv} {sv : Sv} {a : Act} {w w' : World} {P : Program} {T : Ty} {ok ok' : Nat → Prop}
theorem kill_sv : ∀ (l : List Nat) (s : Sv) (m : Nat), syncF (Mx.kill l) s m = if m ∈ l then none else s m := by
  intro l
  induction l with
  | nil => intro s m; simp [Mx.kill, syncF]
  | cons k l ih =>
    intro s m
    simp only [Mx.kill, List.map_cons, syncF]
    have := ih (updS s k none) m
    simp only [Mx.kill] at this
    rw [this]
    by_cases h1 : m ∈ l
    · simp [h1]
    · by_cases h2 : k = m
      · subst h2; simp [updS]
      · simp [h1, updS, h2, Ne.symm h2]
theorem storeAt_run {t : TypeId} {ti : TI} (ht : TyOk P t ti) {b o : Nat} {cur : Array Value} {e : TypeId} {fr : Nat × Nat} {u : Value} (hb : w.heap[b]? = some (.cells cur e fr)) (hth : Thawed cur fr) (hu : u.cells.size = ti.size)
    (hle : o + ti.size ≤ cur.size) (h1 : ∀ (j : Nat) (v : Value), u.cells[j]? = some v → v.oneCell' = true) :
    ∃ w' cur', (Instr.storeAt t (.pointer (some ⟨b, o, none⟩)) u).run P w = .ok () w' ∧ w'.os = w.os ∧ w'.tape = w.tape ∧ w'.output = w.output ∧ w'.heap.size = w.heap.size ∧ (∀ k, k ≠ b → w'.heap[k]? = w.heap[k]?) ∧
      w'.heap[b]? = some (.cells cur' e fr) ∧ cur'.size = cur.size ∧ ∀ k, cur'.getD k undef = if o ≤ k ∧ k < o + u.cells.toList.length then u.cells.toList.getD (k - o) undef else cur.getD k undef := by
  obtain ⟨w', cur', r1, r2, r3, r4, r5, r6, r7, r8, r9⟩ := store_cells (P := P) b o e fr u.cells.toList 0 cur w hb hth (by simp; omega) (fun v hv => by
    obtain ⟨j, hj⟩ := List.getElem?_of_mem hv
    exact h1 j v (by simpa using hj))
  refine ⟨w', cur', ?_, r2, r3, r4, r5, r6, r7, r8, by simpa using r9⟩
  simp only [Instr.storeAt, Instr.sureAddr, Sem.run_bind, Sem.run_pure, Result.andThen_ok, storeVar, sizeOf_run ht, hu, ne_eq, not_true, if_false, r1]
theorem opres_skip {b : Nat} {act : Sem Unit} {d : Dl} {γ' : Gs} {φ' : Fp} (hr : act.run P w = .ok () w') (hγ : ∀ n, ¬ (b ≤ n ∧ n < b + 256) → γ' n = γ n) (hs : Sim w0 M R γ' φ' tv (syncF d.upd sv) a w') (hd : d.val = .tu []) :
    OpRes P w0 M R γ tv sv a w b (do act; pure .skip) d :=
  ⟨undef, w', γ', φ', .inr ⟨by simp [hr], rfl⟩, hγ, hs, by rw [hd]; exact ⟨[], rfl, rfl, fun j v x hv => by simp at hv⟩⟩
theorem blk_live {sv : Sv} {m : Nat} {B : Blk} (h : sv m = some B) : live sv m := by unfold live; rw [h]; rfl
/-- a store into a box -/
theorem store_box (h : Sim w0 M R γ φ tv sv a w) {b : Nat} {t : TypeId} {ti : TI} (ht : TyOk P t ti) {m j : Nat} {c cs : Row} {p u : Value} {x : AV} (hp : RepV w (okOf w0 M R φ sv w) γ p (.pt m 0 j)) (hu : RepV w (okOf w0 M R φ sv w) γ u x) (hc : cellsOf x = some cs)
    (hm : sv m = some (.bx c)) (hsz : cs.length = ti.size) (hle : j + cs.length ≤ c.length) : OpRes P w0 M R γ tv sv a w b (do Instr.storeAt t p u; pure .skip) ⟨.tu [], [(m, some (.bx (setR c j cs)))]⟩ := by
  obtain ⟨c1, c2, c3⟩ := cells_rep hu hc
  obtain ⟨pb, cur, e, fr, k1, k2, k3, k4, k5, k6⟩ := h.bk m _ hm
  obtain ⟨v0, z, g1, g2⟩ := hp
  rw [g1] at k1
  cases k1
  obtain ⟨_, rfl⟩ := g2
  rw [Nat.zero_add]
  obtain ⟨w', cur', r1, r2, r3, r4, r5, r6, r7, r8, r9⟩ := storeAt_run (P := P) ht (o := j) k3 k4 (by omega) (by omega) c2
  have hs := h.set (blk_live hm) (B := .bx (setR c j cs)) r2 r3 r4 (Kp.cell r6 k3 r7 r8) r5 (fun k hk => r6 k fun e => hk (e ▸ k2))
    (fun k p i j v hk hs hp => ⟨(h.bk k _ hs).1, (h.bk k _ hs).2.1, fun zp v' rp hh => by subst hp; rw [upd_self] at hh; cases hh⟩)
    (fun k p v seen hk hs hp => by
      obtain ⟨h0, b, born, last, h1, h2, _⟩ := h.bk k _ hs
      exact ⟨h0, b, born, last, h1, h2, fun v' es hh => by subst hp; rw [upd_self] at hh; cases hh⟩)
    (fun hok => by
      refine ⟨pb, cur', e, fr, g1, k2, r7, fun o ho => k4 o (by rw [← r8]; exact ho), by rw [setR_len hle, r8]; exact k5, fun q y hq => ?_⟩
      rw [setR_get hle] at hq
      rw [r9]
      have hlen : u.cells.toList.length = cs.length := by simpa using c1
      rw [hlen]
      split at hq
      · rename_i hc
        rw [if_pos hc]
        have hq' := idx_lt hq
        have hcell : u.cells[q - j]? = some (u.cells.toList.getD (q - j) undef) := by
          rw [List.getD_eq_getElem?_getD, List.getElem?_eq_getElem (by omega)]
          simp [c1, hq']
        exact ⟨(c3 _ _ y hcell hq).mono hok (fun _ _ h => h), c2 _ _ hcell⟩
      · rename_i hc
        rw [if_neg hc]
        obtain ⟨a1, a2⟩ := k6 q y hq
        exact ⟨a1.mono hok (fun _ _ h => h), a2⟩)
  exact opres_skip r1 (fun _ _ => rfl) hs.1 rfl
/-- a store into a named array -/
theorem store_ar (h : Sim w0 M R γ φ tv sv a w) {b : Nat} {t : TypeId} {ti : TI} (ht : TyOk P t ti) {m i j z ver : Nat} {r : List Row} {row cs l : Row} {ns : List Nat} {p u : Value} {x : AV} (hp : RepV w (okOf w0 M R φ sv w) γ p (.pt m i j))
    (hu : RepV w (okOf w0 M R φ sv w) γ u x) (hc : cellsOf x = some cs) (hm : sv m = some (.ar z ver r)) (hrow : r[i]? = some row) (hcnv : cnv sv m i ver row j cs = some (l, ns)) (hsz : cs.length = ti.size) (hle : j + cs.length ≤ z)
    (hfl : (bif flatT ti then l.all isSc else true) = true) : OpRes P w0 M R γ tv sv a w b (do Instr.storeAt t p u; pure .skip) ⟨.tu [], Mx.kill ns ++ [(m, some (.ar z (bif flatT ti then ver else ver + 1) (r.set i (setR row j l))))]⟩ := by
  obtain ⟨c1, c2, c3⟩ := cells_rep hu hc
  obtain ⟨v0', k1, k2⟩ := h.bk m _ hm
  obtain ⟨v0, z', g1, g2⟩ := hp
  rw [g1] at k1
  cases k1
  have hlm := blk_live hm
  cases k2 with
  | rd _ _ _ n1 => exact (n1 _ _ rfl).elim
  | nil => simp at hrow
  | emp => simp at hrow
  | sl _ _ pb off cap _ cur e fr Fs a1 a2 a3 a4 a5 a6 a7 a8 a9 a10 a11 =>
    obtain ⟨_, rfl⟩ := g2
    have hrl := a9 i row hrow
    have hvs : ∀ q y, cs[q]? = some y → RepC w (okOf w0 M R φ sv w) γ (u.cells.toList.getD q undef) y := fun q y hq => by
      have hq' := idx_lt hq
      exact c3 q _ y (by rw [List.getD_eq_getElem?_getD, List.getElem?_eq_getElem (by simp; omega)]; simp [c1, hq']) hq
    obtain ⟨l1, l2, l3, F, f1, f2, f3⟩ := cnv_ok h (m := m) (i := i) (ver := ver) (old := row) (fun j' c => Fs i j' c) (fun j' c hc => ⟨hlm, (a7 _ _ _ hc).1⟩) (fun j1 j2 c hc hc' => (a8 _ _ _ _ _ hc hc').2)
      (fun k j' z' r' hk ho => by
        obtain ⟨_, _, hh⟩ := h.bk k _ hk
        have hn : nest r i j' = some (z', r') := by simp [nest, hrow, ho]
        obtain ⟨u0, b', off', len', cap', q1, q2, q3⟩ := (hh z ver r hm).2 rfl z' r' hn
        rw [g1] at q2
        cases q2
        refine ⟨u0, q1, ?_⟩
        have := a11 i row j' _ hrow ho
        have hcl := cell_some a2 (in_row (idx_lt hrow) (by rw [← hrl]; exact idx_lt ho) a4 a5)
        rw [q3] at hcl
        cases hcl
        exact this) cs j l ns (fun q => u.cells.toList.getD q undef) hcnv hvs
    have hcl : u.cells.toList.length = l.length := by rw [l1]; simpa using c1
    have hfit : off + (i * z + j) + ti.size ≤ cur.size := by
      have h1 : (i + 1) * z ≤ cap * z := Nat.mul_le_mul_right _ (by have := idx_lt hrow; omega)
      rw [Nat.add_mul] at h1
      omega
    obtain ⟨w', cur', r1, r2, r3, r4, r5, r6, r7, r8, r9⟩ := storeAt_run (P := P) ht (o := off + (i * z + j)) a2 a3 (by omega) hfit c2
    have hsv : syncF (Mx.kill ns ++ [(m, some (.ar z (bif flatT ti then ver else ver + 1) (r.set i (setR row j l))))]) sv = updS (syncF (Mx.kill ns) sv) m (some (.ar z (bif flatT ti then ver else ver + 1) (r.set i (setR row j l)))) := by
      rw [syncF_app]; rfl
    have sv_ne : ∀ n, n ≠ m → n ∉ ns → updS (syncF (Mx.kill ns) sv) m (some (.ar z (bif flatT ti then ver else ver + 1) (r.set i (setR row j l)))) n = sv n := fun n h1 h2 => by rw [upd_ne (Ne.symm h1), kill_sv, if_neg h2]
    have sv_k : ∀ n, n ≠ m → n ∈ ns → updS (syncF (Mx.kill ns) sv) m (some (.ar z (bif flatT ti then ver else ver + 1) (r.set i (setR row j l)))) n = none := fun n h1 h2 => by rw [upd_ne (Ne.symm h1), kill_sv, if_pos h2]
    have only : ∀ n, (n = m ∨ n ∈ ns) → live (updS (syncF (Mx.kill ns) sv) m (some (.ar z (bif flatT ti then ver else ver + 1) (r.set i (setR row j l))))) n → n = m := fun n hn hl => by
      rcases hn with rfl | hn
      · rfl
      · by_cases e : n = m
        · exact e
        · unfold live at hl; rw [sv_k n e hn] at hl; cases hl
    have hst := h.step (γ' := γ) (φ' := fun n => if n = m then (fun c => φ m c ∨ ∃ k ∈ ns, φ k c) else φ n) (sv' := updS (syncF (Mx.kill ns) sv) m (some (.ar z (bif flatT ti then ver else ver + 1) (r.set i (setR row j l))))) (w' := w')
      (fun n => n = m ∨ n ∈ ns) (fun _ _ h => h) (fun n hn => ⟨sv_ne n (fun e => hn (.inl e)) (fun e => hn (.inr e)), if_neg (fun e => hn (.inl e))⟩)
      ⟨r2.trans h.fr.os, r3.trans h.fr.tape, r4.trans h.fr.output, by rw [r5]; exact h.fr.size, fun k hk hM => by
        rw [r6 k fun e => ?_]
        · exact h.fr.block k hk hM
        · subst e
          rcases (h.nw m k hlm a1).2 with h1 | h1
          · omega
          · exact hM h1⟩
      (Kp.cell r6 a2 r7 r8) (by omega) (fun k _ hk => r6 k fun e => hk m (.inl rfl) hlm (e ▸ a1))
      (fun n c hn hl hc => by
        obtain rfl := only n hn hl
        simp only [if_true] at hc
        rw [r5]
        rcases hc with hc | ⟨k, hk, hc⟩
        · exact ⟨(h.nw n c hlm hc).1, .inr ⟨n, .inl rfl, hlm, hc⟩⟩
        · exact ⟨(h.nw k c (l3 k hk) hc).1, .inr ⟨k, .inr hk, l3 k hk, hc⟩⟩)
      (fun n n' hn hn' hl hl' hne => (hne ((only n hn hl).trans (only n' hn' hl').symm)).elim)
      (fun k p i' j' v hk hs hp => by
        obtain ⟨h0, h1, h2⟩ := h.bk k _ hs
        refine ⟨h0, h1, fun zp v' rp hh => ?_⟩
        by_cases hpm : p = m
        · subst hpm
          rw [upd_self] at hh
          cases hh
          obtain ⟨hle', heq⟩ := h2 z ver r hm
          cases hft : flatT ti with
          | false => exact ⟨by simp; omega, fun e => by simp at e; omega⟩
          | true =>
            rw [hft] at hfl
            simp only [cond_true] at hfl ⊢
            refine ⟨hle', fun e z1 r1 hn => ?_⟩
            obtain ⟨row', hr', hj'⟩ := nest_some hn
            rw [List.getElem?_set] at hr'
            have hold : nest r i' j' = some (z1, r1) ∧ ¬ (i' = i ∧ j ≤ j' ∧ j' < j + l.length) := by
              by_cases hii : i = i'
              · subst hii
                simp [idx_lt hrow] at hr'
                subst hr'
                rw [setR_get (by omega)] at hj'
                split at hj'
                · have := List.all_eq_true.1 hfl _ (List.mem_of_getElem? hj')
                  simp [isSc] at this
                · rename_i hcc
                  exact ⟨by simp [nest, hrow, hj'], fun hh => hcc hh.2⟩
              · rw [if_neg hii] at hr'
                exact ⟨by simp [nest, hr', hj'], fun hh => hii hh.1.symm⟩
            obtain ⟨u0, b', off', len', cap', q1, q2, q3⟩ := heq e z1 r1 hold.1
            refine ⟨u0, b', off', len', cap', q1, q2, ?_⟩
            rw [g1] at q2
            cases q2
            obtain ⟨row0, hr0, hj0⟩ := nest_some hold.1
            have hjz : j' < z := by rw [← a9 _ _ hr0]; exact idx_lt hj0
            have hlt := in_row (idx_lt hr0) hjz a4 a5
            have hnew := cell_some r7 (o := off + (i' * z + j')) (by omega)
            rw [hnew, r9, if_neg, ← cell_some a2 hlt, q3]
            intro hh
            rcases Nat.lt_trichotomy i' i with hlt | rfl | hlt
            · have : (i' + 1) * z ≤ i * z := Nat.mul_le_mul_right _ (by omega)
              rw [Nat.add_mul] at this
              omega
            · have := hold.2; omega
            · have : (i + 1) * z ≤ i' * z := Nat.mul_le_mul_right _ (by omega)
              rw [Nat.add_mul] at this
              omega
        · rcases hp with rfl | hp
          · exact (hpm rfl).elim
          · rw [sv_k p hpm hp] at hh; cases hh)
      (fun k p v seen hk hs hp => by
        obtain ⟨h0, b, born, last, h1, h2, _⟩ := h.bk k _ hs
        refine ⟨h0, b, born, last, h1, by show (if k = m then (fun c => φ m c ∨ ∃ k ∈ ns, φ k c) else φ k) b; rw [if_neg (fun e => hk (.inl e))]; exact h2, fun v' es hh => ?_⟩
        by_cases hpm : p = m
        · subst hpm; rw [upd_self] at hh; cases hh
        · rcases hp with rfl | hp
          · exact (hpm rfl).elim
          · rw [sv_k p hpm hp] at hh; cases hh)
      (fun hok n B hn hB => by
        have hnm : n = m := only n hn (blk_live hB)
        subst hnm
        rw [upd_self] at hB
        cases hB
        refine ⟨_, g1, ?_⟩
        simp only [if_true]
        have hap : ∀ q x, F q x → x ≠ pb := fun q x hx e => by
          subst e
          rcases (f2 q x hx).2 with ⟨k, hk, hkc⟩ | hg
          · exact h.dj k n (l3 k hk) hlm (fun e => l2 (e ▸ hk)) x hkc a1
          · exact (a7 _ _ _ hg).2 rfl
        exact own_set (w := w) (w' := w') (.inl a1) a3 a4 a5 a6 (fun i j x hx => ⟨.inl (a7 i j x hx).1, (a7 i j x hx).2⟩) a8 a9 a10 a11 hrow hcl (by omega)
          (fun v hv => by obtain ⟨q, hq⟩ := List.getElem?_of_mem hv; exact c2 q v (by simpa using hq)) F
          (fun q x hx => ⟨(f2 q x hx).2.symm.imp (fun hg => (a7 _ _ _ hg).1) id, hap q x hx⟩) f3
          (fun q i' j' x hx hf => by
            rcases (f2 q x hx).2 with ⟨k, hk, hkc⟩ | hg
            · exact (h.dj k n (l3 k hk) hlm (fun e => l2 (e ▸ hk)) x hkc (a7 _ _ _ hf).1).elim
            · have := a8 _ _ _ _ _ hg hf
              have := (f2 q x hx).1
              omega) f1 r6 r7 r8 r9 hok)
    have hst1 := hst.1
    rw [← hsv] at hst1
    exact opres_skip r1 (fun _ _ => rfl) hst1 rfl
/-- the rows of an inner slice are turned -/
theorem Sim.nest (h : Sim w0 M R γ φ tv sv a w) {m p i j v zp z : Nat} {rp r : List Row} (hm : sv m = some (.sb p i j v)) (hp : sv p = some (.ar zp v rp)) (hn : nest rp i j = some (z, r)) :
    ∃ G u, γ m = some (u, z) ∧ Own w (okOf w0 M R φ sv w) G u (.sl true z r) ∧ (∀ c, G c → φ p c) ∧ ∀ (w' : World) (r' : List Row), w'.os = w.os → w'.tape = w.tape → w'.output = w.output → w'.heap.size = w.heap.size → Kp w w' → (∀ c, ¬ G c → w'.heap[c]? = w.heap[c]?) →
      (∀ ok' : Nat → Prop, (∀ c, okOf w0 M R φ sv w c → ok' c ∧ w'.heap[c]? = w.heap[c]?) → Own w' ok' G u (.sl true z r')) → Sim w0 M R γ φ tv (updS sv p (some (.ar zp v (rp.set i ((rp.getD i []).set j (.sl true z r')))))) a w' := by
  obtain ⟨_, _, hh⟩ := h.bk m _ hm
  obtain ⟨u0, b', off', len', cap', q1, q2, q3⟩ := (hh zp v rp hp).2 rfl z r hn
  obtain ⟨v0, k1, k2⟩ := h.bk p _ hp
  rw [k1] at q2
  cases q2
  obtain ⟨b, off, cap, G, u, e1, e2, e3, e4, e5, e6⟩ := own_nest k2 hn
  cases e1
  rw [q3] at e2
  cases e2
  refine ⟨G, u0, q1, e3, fun c hc => (e4 c hc).1, fun w' r' r1 r2 r3 r4 rk r5 r6 => ?_⟩
  have hsame : ∀ o, w'.cell? ⟨b', o, none⟩ = w.cell? ⟨b', o, none⟩ := fun o => World.cell?_of_block (a := ⟨b', o, none⟩) (r5 b' fun hG => (e4 _ hG).2 rfl)
  refine (h.set (blk_live hp) r1 r2 r3 rk r4 (fun c hc => r5 c fun hG => hc (e4 c hG).1) ?_ ?_ ?_).1
  · intro k p' i' j' v' hk hs hpp
    subst hpp
    obtain ⟨a0, a1, a2⟩ := h.bk k _ hs
    refine ⟨a0, a1, fun zp' v'' rp' hh' => ?_⟩
    rw [upd_self] at hh'
    cases hh'
    obtain ⟨a3, a4⟩ := a2 zp v rp hp
    refine ⟨a3, fun he z1 r1' hn' => ?_⟩
    obtain ⟨row, hrow, hj⟩ := nest_some hn
    have hD : rp.getD i [] = row := by rw [List.getD_eq_getElem?_getD, hrow]; rfl
    rw [hD] at hn'
    obtain ⟨row', hr', hj'⟩ := nest_some hn'
    have hex : ∃ r2, Mx.nest rp i' j' = some (z1, r2) := by
      rw [List.getElem?_set] at hr'
      by_cases hii : i = i'
      · subst hii
        simp [idx_lt hrow] at hr'
        subst hr'
        rw [List.getElem?_set] at hj'
        by_cases hjj : j = j'
        · subst hjj
          simp [idx_lt hj] at hj'
          obtain ⟨rfl, rfl⟩ := hj'
          exact ⟨r, hn⟩
        · rw [if_neg hjj] at hj'
          exact ⟨r1', by simp [Mx.nest, hrow, hj']⟩
      · rw [if_neg hii] at hr'
        exact ⟨r1', by simp [Mx.nest, hr', hj']⟩
    obtain ⟨r2, hr2⟩ := hex
    obtain ⟨u1, b1, off1, len1, cap1, p1, p2, p3⟩ := a4 he z1 r2 hr2
    rw [k1] at p2
    cases p2
    exact ⟨u1, b', off', _, _, p1, k1, (hsame _).trans p3⟩
  · intro k p' v' seen hk hs hpp
    obtain ⟨h0, b, born, last, h1, h2, _⟩ := h.bk k _ hs
    exact ⟨h0, b, born, last, h1, h2, fun v' es hh => by subst hpp; rw [upd_self] at hh; cases hh⟩
  · intro hok
    exact ⟨_, k1, e6 w' _ r' r5 hok (r6 _ hok)⟩
theorem putRows_sb {m : Nat} {f : List Row → Option (List Row)} {upd : List (Nat × Option Blk)} {p i j v : Nat} (hm : sv m = some (.sb p i j v)) (hu : putRows sv m false f = some upd) :
    ∃ zp rp z r r', sv p = some (.ar zp v rp) ∧ nest rp i j = some (z, r) ∧ f r = some r' ∧ upd = [(p, some (.ar zp v (rp.set i ((rp.getD i []).set j (.sl true z r')))))] := by
  unfold putRows at hu
  rw [hm] at hu
  simp only [] at hu
  split at hu
  · rename_i zp vp rp hp
    rw [cond_eq_ite] at hu
    split at hu
    · rename_i hv
      have hv : v = vp := by simpa using hv
      subst hv
      split at hu
      · rename_i z r hn
        split at hu
        · rename_i r' hf
          cases hu
          exact ⟨zp, rp, z, r, r', hp, hn, hf, rfl⟩
        · cases hu
      · cases hu
    · cases hu
  · cases hu
/-- a store of scalars into an owned slice: its rows -/
theorem own_store {F : Nat → Prop} {v0 : Value} {z : Nat} {rows : List Row} (ho : Own w ok F v0 (.sl true z rows)) {t : TypeId} {ti : TI} (ht : TyOk P t ti) {i j : Nat} {row cs : Row} (hrow : rows[i]? = some row) (hle : j + cs.length ≤ z) (hsz : cs.length = ti.size)
    (hcs : cs.all isSc = true) {p u : Value} (hp : PtAt v0 z i j p) (c1 : u.cells.size = cs.length) (c2 : ∀ (j : Nat) (u' : Value), u.cells[j]? = some u' → u'.oneCell' = true) (c3 : ∀ (j : Nat) (u' : Value) (y : AV), u.cells[j]? = some u' → cs[j]? = some y → ∃ ok1, Rep w ok1 u' y) :
    ∃ w', (Instr.storeAt t p u).run P w = .ok () w' ∧ w'.os = w.os ∧ w'.tape = w.tape ∧ w'.output = w.output ∧ w'.heap.size = w.heap.size ∧ Kp w w' ∧ (∀ c, ¬ F c → w'.heap[c]? = w.heap[c]?) ∧
      ∀ ok' : Nat → Prop, (∀ c, ok c → ok' c ∧ w'.heap[c]? = w.heap[c]?) → Own w' ok' F v0 (.sl true z (rows.set i (setR row j cs))) := by
  cases ho with
  | rd _ _ _ n1 => exact (n1 _ _ rfl).elim
  | nil => simp at hrow
  | emp => simp at hrow
  | sl _ _ pb off cap _ cur e fr Fs a1 a2 a3 a4 a5 a6 a7 a8 a9 a10 a11 =>
    obtain ⟨_, rfl⟩ := hp
    have hrl := a9 i row hrow
    have hfit : off + (i * z + j) + ti.size ≤ cur.size := by
      have h1 : (i + 1) * z ≤ cap * z := Nat.mul_le_mul_right _ (by have := idx_lt hrow; omega)
      rw [Nat.add_mul] at h1
      omega
    obtain ⟨w', cur', r1, r2, r3, r4, r5, r6, r7, r8, r9⟩ := storeAt_run (P := P) ht (o := off + (i * z + j)) a2 a3 (by omega) hfit c2
    refine ⟨w', r1, r2, r3, r4, r5, Kp.cell r6 a2 r7 r8, fun c hc => r6 c fun e => hc (e ▸ a1), fun ok' hok => ?_⟩
    have hcl : u.cells.toList.length = cs.length := by simpa using c1
    exact own_set (w := w) (w' := w') a1 a3 a4 a5 a6 a7 a8 a9 a10 a11 hrow hcl hle (fun v hv => by obtain ⟨q, hq⟩ := List.getElem?_of_mem hv; exact c2 q v (by simpa using hq)) (fun _ _ => False) (fun _ _ h => h.elim) (fun _ _ _ h => h.elim)
      (fun _ _ _ _ h => h.elim) (fun q y hq => by
        have hq' := idx_lt hq
        have hsc := List.all_eq_true.1 hcs y (List.mem_of_getElem? hq)
        have hcell : u.cells[q]? = some (u.cells.toList.getD q undef) := by
          rw [List.getD_eq_getElem?_getD, List.getElem?_eq_getElem (by omega)]
          simp [c1, hq']
        obtain ⟨ok1, hr⟩ := c3 q _ y hcell hq
        exact own_of_rep hsc (isSc_rep hsc hr)) r6 r7 r8 r9 hok
theorem store_ok (hT : TOk P T) (h : Sim w0 M R γ φ tv sv a w) {b : Nat} {t : TypeId} {ti : TI} (hti : T t = some ti) {p x : Operand} {d : Dl} (hd : pStore ti (opv tv p) (opv tv x) sv = some d) :
    OpRes P w0 M R γ tv sv a w b (do Instr.storeAt t (a.eval p) (a.eval x); pure .skip) d := by
  have ht := hT t ti hti
  have hp := opv_ok h p
  have hx := opv_ok h x
  generalize opv tv p = y at hd hp
  generalize opv tv x = z at hd hx
  generalize a.eval p = pv at hp
  generalize a.eval x = u at hx
  unfold pStore at hd
  split at hd
  · rename_i m i j cs hcs
    split at hd
    · rename_i c hm
      split at hd
      · rename_i hc
        obtain ⟨rfl, h1, h2⟩ := hc
        cases hd
        exact store_box h ht hp hx hcs hm h1 h2
      · cases hd
    · rename_i z' v r hm
      split at hd
      · rename_i row hrow
        split at hd
        · rename_i l ns hcnv
          split at hd
          · rename_i hc
            cases hd
            exact store_ar h ht hp hx hcs hm hrow hcnv hc.1 hc.2.1 hc.2.2
          · cases hd
        · cases hd
      · cases hd
    · rename_i p' i' j' v' hm
      split at hd
      · rename_i z' r hb
        split at hd
        · rename_i row hrow
          split at hd
          · rename_i hc
            split at hd
            · rename_i upd hu
              cases hd
              obtain ⟨zp, rp, z1, r1, r2, k1, k2, k3, rfl⟩ := putRows_sb hm hu
              cases k3
              obtain ⟨G, u0, g1, g2, g3, g4⟩ := h.nest hm k1 k2
              have hbr : blkRows sv m = some (z1, r1) := by simp [blkRows, hm, k1, k2]
              rw [hbr] at hb
              cases hb
              obtain ⟨v0, z2, q1, q2⟩ := hp
              rw [g1] at q1
              cases q1
              obtain ⟨c1, c2, c3⟩ := cells_rep hx hcs
              obtain ⟨w', r1, r2, r3, r4, r5, rk, r6, r7⟩ := own_store (P := P) g2 ht hrow hc.2.2.2 hc.2.2.1 hc.2.1 q2 c1 c2 (fun j u' y h1 h2 => by
                have hsc := List.all_eq_true.1 hc.2.1 y (List.mem_of_getElem? h2)
                have := c3 j u' y h1 h2
                exact ⟨okOf w0 M R φ sv w, by cases y <;> first | exact this | (simp [isSc] at hsc; done)⟩)
              exact opres_skip r1 (fun _ _ => rfl) (g4 w' _ r2 r3 r4 r5 rk r6 r7) rfl
            · cases hd
          · cases hd
        · cases hd
      · cases hd
    · cases hd
  · cases hd
end
end Go.Proofs.YtkkmgjhfjhcdmaaGreatDoor.Mx

/- New arrays. -/
namespace Go.Proofs.YtkkmgjhfjhcdmaaGreatDoor.Mx
set_option linter.all false
open Go Go.RowKit
section
variable {w0 : World} {M R : Nat → Prop} {γ : Gs} {φ : Fp} {tv : Tv} {sv : Sv} {a : Act} {w w' : World} {P : Program} {T : Ty} {ok ok' : Nat → Prop}
/-- w' is w and one block more -/
structure More (w w' : World) (o : Obj) : Prop where
  os : w'.os = w.os
  tape : w'.tape = w.tape
  output : w'.output = w.output
  size : w'.heap.size = w.heap.size + 1
  heap : ∀ k, w'.heap[k]? = if k = w.heap.size then some o else w.heap[k]?
theorem More.alloc {w1 : World} (hs : SameW w w1) (o : Obj) : More w (w1.alloc o) o :=
  ⟨hs.os, hs.tape, hs.output, by rw [alloc_size, hs.heap], fun k => by rw [alloc_heap, hs.heap]⟩
theorem Sim.newAr (h : Sim w0 M R γ φ tv sv a w) {n : Nat} (hn : γ n = none) (ks : List Nat) (hks : ∀ k ∈ ks, live sv k ∧ k ≠ n) {z cap : Nat} {rows : List Row} {cur : Array Value} {e : TypeId} {fr : Nat × Nat} (hm : More w w' (.cells cur e fr)) (ht : Thawed cur fr)
    (hc : rows.length ≤ cap) (hsz : cap * z ≤ cur.size) (hml : cap ≤ maxLen) (Fs : Nat → Nat → Nat → Prop) (hF : ∀ i j c, Fs i j c → ∃ k ∈ ks, φ k c) (hdj : ∀ i j i' j' x, Fs i j x → Fs i' j' x → i = i' ∧ j = j') (hl : ∀ (i : Nat) (row : Row), rows[i]? = some row → row.length = z)
    (h1 : ∀ (i : Nat) (row : Row) (j : Nat) (x : AV), rows[i]? = some row → row[j]? = some x → (cur.getD (i * z + j) undef).oneCell' = true)
    (hO : ∀ (i : Nat) (row : Row) (j : Nat) (x : AV), rows[i]? = some row → row[j]? = some x → Own w (okOf w0 M R φ sv w) (Fs i j) (cur.getD (i * z + j) undef) x) :
    ∃ φ', Sim w0 M R (γN γ n (.slice (some ⟨w.heap.size, 0, none⟩) rows.length cap, z)) φ' tv (updS (syncF (Mx.kill ks) sv) n (some (.ar z 0 rows))) a w' := by
  refine ⟨_, (h.new hn ks (fun k hk => (hks k hk).2) (w' := w') (g := (.slice (some ⟨w.heap.size, 0, none⟩) rows.length cap, z)) (F := fun c => c = w.heap.size ∨ ∃ k ∈ ks, φ k c) (B := .ar z 0 rows) hm.os hm.tape hm.output (Kp.old fun k hk => by rw [hm.heap, if_neg (by omega)]) (by rw [hm.size]; omega)
    (fun c hc _ => by rw [hm.heap, if_neg (by omega)]) ?_ ?_).1⟩
  · rintro c (rfl | ⟨k, hk, hc⟩)
    · rw [hm.size]; exact ⟨by omega, .inl (Nat.le_refl _)⟩
    · have := (h.nw k c (hks k hk).1 hc).1
      rw [hm.size]; exact ⟨by omega, .inr ⟨k, hk, (hks k hk).1, hc⟩⟩
  · intro hok
    refine ⟨_, γN_self, ?_⟩
    rw [φN_self]
    have lt : ∀ i j c, Fs i j c → c < w.heap.size := fun i j c hc => by obtain ⟨k, hk, hkc⟩ := hF i j c hc; exact (h.nw k c (hks k hk).1 hkc).1
    have e0 : ∀ i j, 0 + (i * z + j) = i * z + j := fun i j => Nat.zero_add _
    exact .sl _ z w.heap.size 0 cap rows cur e fr Fs (.inl rfl) (by rw [hm.heap, if_pos rfl]) ht hc (by omega) hml (fun i j c hc => ⟨.inr (hF i j c hc), by have := lt i j c hc; omega⟩) hdj hl (fun i row j x hi hj => by rw [e0]; exact h1 i row j x hi hj)
      (fun i row j x hi hj => by rw [e0]; exact (hO i row j x hi hj).mono hok _ fun c hc => ⟨hc, by rw [hm.heap, if_neg (by have := lt i j c hc; omega)]⟩)
theorem ow_rep {m n cap z : Nat} {b : Nat} (h : γ m = some (.slice (some ⟨b, 0, none⟩) n cap, z)) (hc : n ≤ cap) : RepV w ok γ (.slice (some ⟨b, 0, none⟩) n cap) (.ow m 0 n) :=
  ⟨_, z, h, 0, cap, rfl, by omega, hc, .inl ⟨by omega, by omega⟩⟩
theorem madeCells_get {z : Array Value} {n k : Nat} (hk : k < n) (hz : k % z.size < z.size) : (madeCells z n).getD k undef = z.getD (k % z.size) undef := by
  have : (madeCells z n)[k]? = some (z.getD (k % z.size) undef) := by
    simp [madeCells, hk, hz]
  rw [Array.getD_eq_getD_getElem?, this]; rfl
theorem zrow_ok {F : Nat → Prop} : ∀ (vs : List Value) (cz : List (Option Nat)), (∀ (k z : Nat), cz[k]? = some (some z) → vs[k]? = some (.slice none 0 0)) → (zrow vs cz).length = vs.length ∧ ∀ (j : Nat) (v : Value) (x : AV), vs[j]? = some v → (zrow vs cz)[j]? = some x → Own w ok F v x
  | [], cz, _ => by simp [zrow]
  | v :: vs, [], _ => by
    obtain ⟨h1, h2⟩ := zrow_ok vs [] (fun k z hk => by simp at hk)
    refine ⟨by simp [zrow, h1], fun j u x hu hx => ?_⟩
    cases j with
    | zero =>
      simp [zrow] at hu hx
      subst hu hx
      unfold scp
      cases hp : plain v
      · exact own_of_rep rfl (.no _)
      · exact own_of_rep rfl (.sc _ hp)
    | succ j => exact h2 j u x (by simpa using hu) (by simpa [zrow] using hx)
  | v :: vs, none :: cz, hc => by
    obtain ⟨h1, h2⟩ := zrow_ok vs cz (fun k z hk => by have := hc (k + 1) z (by simpa using hk); simpa using this)
    refine ⟨by simp [zrow, h1], fun j u x hu hx => ?_⟩
    cases j with
    | zero =>
      simp [zrow] at hu hx
      subst hu hx
      unfold scp
      cases hp : plain v
      · exact own_of_rep rfl (.no _)
      · exact own_of_rep rfl (.sc _ hp)
    | succ j => exact h2 j u x (by simpa using hu) (by simpa [zrow] using hx)
  | v :: vs, some z :: cz, hc => by
    obtain ⟨h1, h2⟩ := zrow_ok vs cz (fun k z hk => by have := hc (k + 1) z (by simpa using hk); simpa using this)
    refine ⟨by simp [zrow, h1], fun j u x hu hx => ?_⟩
    cases j with
    | zero =>
      have := hc 0 z (by simp)
      simp [zrow] at hu hx this
      subst hu hx this
      exact .nil _ _
    | succ j => exact h2 j u x (by simpa using hu) (by simpa [zrow] using hx)
theorem ty_info {t : TypeId} {ti : TI} (h : TyOk P t ti) : ∃ i z, P.info? t = some i ∧ i.size = ti.size ∧ i.bytes = ti.bytes ∧ i.zero = some z ∧ z.cells.toList = ti.zero := h.inf
theorem makeSlice_ok (hT : TOk P T) (h : Sim w0 M R γ φ tv sv a w) {b : Nat} (hf : Fresh γ b) {t : TypeId} {te : TI} (hte : elemOf T t = some te) {l c : Operand} {n m : Int} (hl : toI (opv tv l) = some n) (hc : toI (opv tv c) = some m) (h0 : 0 ≤ n) (hnm : n ≤ m) (hb : m * te.bytes ≤ room) :
    OpRes P w0 M R γ tv sv a w b (do pure (.value (← Instr.makeSlice t (a.eval l) (a.eval c)))) ⟨.ow b 0 n.toNat, [(b, some (.ar te.size 0 (List.replicate n.toNat (zrow te.zero te.cz))))]⟩ := by
  obtain ⟨e, hu, he⟩ := elemOf_some hT hte
  obtain ⟨kl, el⟩ := toI_ok (opv_ok h l) hl
  obtain ⟨kc, ec⟩ := toI_ok (opv_ok h c) hc
  obtain ⟨i, z, i1, i2, i3, i4, i5⟩ := ty_info he
  have h63 : m ≤ 4611686018427387904 := by
    have h1 : m * 1 ≤ m * (te.bytes : Int) := Int.mul_le_mul_of_nonneg_left (by have := he.b1; omega) (by omega)
    simp only [room] at hb
    omega
  rw [el, ec]
  have hby : (i.bytes : Int) * m ≤ 281474976710656 := by
    rw [i3, Int.mul_comm]
    simp only [room] at hb
    omega
  have hr := run_make (P := P) w t e i z hu i1 i4 kl kc n m h0 hnm hby (by omega)
  have hzz := zrow_ok (w := w) (ok := okOf w0 M R φ sv w) (F := fun _ => False) te.zero te.cz he.cz
  have hzs : z.cells.size = te.size := by rw [← he.zl, ← i5]; simp
  have hrow : ∀ i' row, (List.replicate n.toNat (zrow te.zero te.cz))[i']? = some row → i' < n.toNat ∧ row = zrow te.zero te.cz := fun i' row hi => by
    have := idx_lt hi
    rw [List.length_replicate] at this
    rw [List.getElem?_replicate, if_pos this] at hi
    cases hi; exact ⟨this, rfl⟩
  have hval : ∀ i' j x, i' < n.toNat → (zrow te.zero te.cz)[j]? = some x → ∃ v, te.zero[j]? = some v ∧ (madeCells z.cells (m.toNat * i.size)).getD (i' * te.size + j) undef = v := fun i' j x hi hj => by
    have hj' := idx_lt hj
    rw [hzz.1, he.zl] at hj'
    have h1 : (i' + 1) * te.size ≤ m.toNat * te.size := Nat.mul_le_mul_right _ (by omega)
    rw [Nat.add_mul] at h1
    have hmod : (i' * te.size + j) % z.cells.size = j := by rw [hzs, Nat.mul_comm, Nat.mul_add_mod, Nat.mod_eq_of_lt hj']
    refine ⟨z.cells.getD j undef, ?_, ?_⟩
    · rw [← i5]; simp [hzs, hj']
    · rw [madeCells_get (by rw [i2]; omega) (by rw [hmod, hzs]; exact hj'), hmod]
  obtain ⟨φ', hs⟩ := h.newAr (w' := w.alloc (.cells (madeCells z.cells (m.toNat * i.size)) e)) (n := b) (hf b (Nat.le_refl _) (by omega)) [] (fun k hk => by cases hk) (z := te.size) (cap := m.toNat) (rows := List.replicate n.toNat (zrow te.zero te.cz)) (More.alloc (SameW.refl w) _) (fun o ho => by simp)
    (by rw [List.length_replicate]; omega) (by rw [size_madeCells, i2]; exact Nat.le_refl _) (by simp only [maxLen]; omega) (fun _ _ _ => False) (fun _ _ _ h => h.elim) (fun _ _ _ _ _ h => h.elim)
    (fun i' row hi => by rw [(hrow i' row hi).2, hzz.1, he.zl])
    (fun i' row j x hi hj => by
      obtain ⟨q1, rfl⟩ := hrow i' row hi
      obtain ⟨v, q2, q3⟩ := hval i' j x q1 hj
      rw [q3]; exact he.zc v (List.mem_of_getElem? q2))
    (fun i' row j x hi hj => by
      obtain ⟨q1, rfl⟩ := hrow i' row hi
      obtain ⟨v, q2, q3⟩ := hval i' j x q1 hj
      rw [q3]; exact hzz.2 j v x q2 hj)
  rw [List.length_replicate] at hs
  exact ⟨_, _, _, φ', .inl (by simp only [Sem.run_bind, hr, Result.andThen_ok, Sem.run_pure]), fun k hk => by rw [γN_ne (by omega)], hs, ow_rep γN_self (by omega)⟩
/-- parts put into rows -/
theorem fold_put (off : Nat) : ∀ (l : List Value) (c : Array Value) (k : Nat), off + k + l.length ≤ c.size → ((l.zipIdx k).foldl (fun cs (p : Value × Nat) => cs.setIfInBounds (off + p.2) p.1) c).size = c.size ∧
    ∀ i, ((l.zipIdx k).foldl (fun cs (p : Value × Nat) => cs.setIfInBounds (off + p.2) p.1) c).getD i undef = if off + k ≤ i ∧ i < off + k + l.length then l.getD (i - (off + k)) undef else c.getD i undef
  | [], c, k, _ => ⟨rfl, fun i => by simp; omega⟩
  | v :: l, c, k, h => by
    simp only [List.length_cons] at h
    obtain ⟨h1, h2⟩ := fold_put off l (c.setIfInBounds (off + k) v) (k + 1) (by simp; omega)
    simp only [List.zipIdx_cons, List.foldl_cons]
    refine ⟨by rw [h1]; simp, fun i => ?_⟩
    rw [h2]
    by_cases hi : i = off + k
    · subst hi
      rw [if_neg (by omega), if_pos (by simp)]
      have : off + k < c.size := by omega
      simp [this]
    · by_cases hc : off + (k + 1) ≤ i ∧ i < off + (k + 1) + l.length
      · rw [if_pos hc, if_pos (by simp; omega), show i - (off + k) = (i - (off + (k + 1))) + 1 by omega, List.getD_cons_succ]
      · rw [if_neg hc, if_neg (by simp; omega)]
        simp [Array.getElem?_setIfInBounds_ne (Ne.symm hi)]
/-- rows, each cell with its blocks -/
structure RowsOk (w : World) (ok : Nat → Prop) (φ : Fp) (ks : List Nat) (z : Nat) (rows : List Row) (cur : Array Value) (Fs : Nat → Nat → Nat → Prop) : Prop where
  fp : ∀ i j c, Fs i j c → ∃ k ∈ ks, φ k c
  dj : ∀ i j i' j' x, Fs i j x → Fs i' j' x → i = i' ∧ j = j'
  ln : ∀ (i : Nat) (row : Row), rows[i]? = some row → row.length = z
  h1 : ∀ (i : Nat) (row : Row) (j : Nat) (x : AV), rows[i]? = some row → row[j]? = some x → (cur.getD (i * z + j) undef).oneCell' = true
  ow : ∀ (i : Nat) (row : Row) (j : Nat) (x : AV), rows[i]? = some row → row[j]? = some x → Own w ok (Fs i j) (cur.getD (i * z + j) undef) x
theorem fillS_ok (h : Sim w0 M R γ φ tv sv a w) {z : Nat} (hz : 1 ≤ z) : ∀ (ps : List (Nat × Operand)) (rs : List Row) (cur : Array Value) (A : List Nat) (Fs : Nat → Nat → Nat → Prop) (q : List Row) (ns : List Nat),
    fillS sv z rs (ps.map fun p => (p.1, opv tv p.2)) = some (q, ns) → RowsOk w (okOf w0 M R φ sv w) φ A z rs cur Fs → cur.size = rs.length * z → (∀ k ∈ A, live sv k ∧ k ∉ ns) →
    ∃ cur' Fs', Instr.fill (fun i => some (i * z, z)) cur (ps.map fun p => (p.1, a.eval p.2)) = some cur' ∧ cur'.size = cur.size ∧ q.length = rs.length ∧ RowsOk w (okOf w0 M R φ sv w) φ (ns ++ A) z q cur' Fs' ∧ ∀ k ∈ ns, live sv k
  | [], rs, cur, A, Fs, q, ns, hf, hr, _, _ => by
    simp only [List.map_nil, fillS] at hf
    cases hf
    exact ⟨cur, Fs, rfl, rfl, rfl, hr, fun k hk => by cases hk⟩
  | (i, x) :: ps, rs, cur, A, Fs, q, ns, hf, hr, hs, hA => by
    simp only [List.map_cons, fillS] at hf
    split at hf
    · rename_i ys hys
      split at hf
      · rename_i l ns1 hcnv
        split at hf
        · rename_i hc
          obtain ⟨hyz, hi⟩ := hc
          split at hf
          · rename_i q' ms hrec
            rw [cond_eq_ite] at hf
            split at hf
            · rename_i hdis
              cases hf
              have hdis : ∀ n ∈ ns1, n ∉ ms := fun n hn hm => by
                have := List.all_eq_true.1 hdis n hn
                simp [hm] at this
              obtain ⟨c1, c2, c3⟩ := cells_rep (opv_ok h x) hys
              have hvs : ∀ q y, ys[q]? = some y → RepC w (okOf w0 M R φ sv w) γ ((a.eval x).cells.toList.getD q undef) y := fun q y hq => by
                have hq' := idx_lt hq
                exact c3 q _ y (by rw [List.getD_eq_getElem?_getD, List.getElem?_eq_getElem (by simp; omega)]; simp [c1, hq']) hq
              obtain ⟨l1, l2, l3, F, f1, f2, f3⟩ := cnv_ok h (m := 0) (i := 0) (ver := 0) (old := []) (fun _ _ => False) (fun _ _ h => h.elim) (fun _ _ _ h => h.elim) (fun k j z r _ ho => by simp at ho) ys 0 l ns1 (fun q => (a.eval x).cells.toList.getD q undef) hcnv hvs
              have f2' : ∀ q c, F q c → q < l.length ∧ ∃ k ∈ ns1, φ k c := fun q c hq => by
                obtain ⟨e1, e2⟩ := f2 q c hq
                exact ⟨e1, e2.resolve_right (fun h => h)⟩
              have hcells : (a.eval x).cells.size = z := by rw [c1, hyz]
              have hlz : l.length = z := by rw [l1, hyz]
              have hfit : i * z + z ≤ cur.size := by
                rw [hs]
                have : (i + 1) * z ≤ rs.length * z := Nat.mul_le_mul_right _ (by omega)
                rw [Nat.add_mul] at this
                omega
              have hfold := fold_put (i * z) (a.eval x).cells.toList cur 0 (by simp [hcells]; omega)
              have hzip : (a.eval x).cells.zipIdx.foldl (fun cs (c, j) => cs.setIfInBounds (i * z + j) c) cur = ((a.eval x).cells.toList.zipIdx 0).foldl (fun cs (p : Value × Nat) => cs.setIfInBounds (i * z + p.2) p.1) cur := by
                rw [← Array.foldl_toList, Array.toList_zipIdx]
              generalize hcur1 : ((a.eval x).cells.toList.zipIdx 0).foldl (fun cs (p : Value × Nat) => cs.setIfInBounds (i * z + p.2) p.1) cur = cur1 at hfold hzip
              obtain ⟨g1, g2⟩ := hfold
              have hg2 : ∀ k, cur1.getD k undef = if i * z ≤ k ∧ k < i * z + z then (a.eval x).cells.toList.getD (k - i * z) undef else cur.getD k undef := fun k => by
                rw [g2 k]; simp only [Nat.add_zero, Array.length_toList, hcells]
              have getR : ∀ i' row', (rs.set i l)[i']? = some row' → (i' = i ∧ row' = l) ∨ (i' ≠ i ∧ rs[i']? = some row') := fun i' row' h => by
                rw [List.getElem?_set] at h
                by_cases hii : i = i'
                · subst hii
                  simp [hi] at h
                  exact .inl ⟨rfl, h.symm⟩
                · rw [if_neg hii] at h
                  exact .inr ⟨Ne.symm hii, h⟩
              have away : ∀ i' j', i' ≠ i → j' < z → cur1.getD (i' * z + j') undef = cur.getD (i' * z + j') undef := fun i' j' hne hj' => by
                rw [hg2, if_neg]
                intro hh
                rcases Nat.lt_trichotomy i' i with hlt | rfl | hlt
                · have : (i' + 1) * z ≤ i * z := Nat.mul_le_mul_right _ (by omega)
                  rw [Nat.add_mul] at this; omega
                · exact hne rfl
                · have : (i + 1) * z ≤ i' * z := Nat.mul_le_mul_right _ (by omega)
                  rw [Nat.add_mul] at this; omega
              have here : ∀ j', j' < z → cur1.getD (i * z + j') undef = (a.eval x).cells.toList.getD j' undef := fun j' hj' => by
                rw [hg2, if_pos (by omega)]; congr 1; omega
              have hnew : RowsOk w (okOf w0 M R φ sv w) φ (ns1 ++ A) z (rs.set i l) cur1 (fun i' j' => if i' = i then F j' else Fs i' j') := by
                refine ⟨fun i' j' c hc => ?_, fun i1 j1 i2 j2 c hc hc' => ?_, fun i' row' hi' => ?_, fun i' row' j' y hi' hj' => ?_, fun i' row' j' y hi' hj' => ?_⟩
                · split at hc
                  · obtain ⟨_, k, hk, hkc⟩ := f2' _ _ hc; exact ⟨k, List.mem_append_left _ hk, hkc⟩
                  · obtain ⟨k, hk, hkc⟩ := hr.fp _ _ _ hc; exact ⟨k, List.mem_append_right _ hk, hkc⟩
                · have cross : ∀ j i' j', F j c → Fs i' j' c → False := fun j i' j' hF hS => by
                    obtain ⟨_, k, hk, hkc⟩ := f2' _ _ hF
                    obtain ⟨k', hk', hkc'⟩ := hr.fp _ _ _ hS
                    obtain ⟨hl', hn'⟩ := hA k' hk'
                    refine h.dj k k' (l3 k hk) hl' (fun e => hn' ?_) c hkc hkc'
                    rw [← e]; exact List.mem_append_left _ hk
                  split at hc <;> split at hc'
                  · exact ⟨by omega, f3 _ _ _ hc hc'⟩
                  · exact (cross _ _ _ hc hc').elim
                  · exact (cross _ _ _ hc' hc).elim
                  · exact hr.dj _ _ _ _ _ hc hc'
                · rcases getR i' row' hi' with ⟨rfl, rfl⟩ | ⟨_, hh⟩
                  · exact hlz
                  · exact hr.ln _ _ hh
                · rcases getR i' row' hi' with ⟨rfl, rfl⟩ | ⟨hne, hh⟩
                  · have hj := idx_lt hj'
                    rw [here j' (by omega)]
                    exact c2 j' _ (by rw [List.getD_eq_getElem?_getD, List.getElem?_eq_getElem (by simp; omega)]; simp [show j' < (a.eval x).cells.size by omega])
                  · rw [away i' j' hne (by rw [← hr.ln _ _ hh]; exact idx_lt hj')]
                    exact hr.h1 _ _ _ _ hh hj'
                · rcases getR i' row' hi' with ⟨rfl, rfl⟩ | ⟨hne, hh⟩
                  · have hj := idx_lt hj'
                    rw [here j' (by omega)]
                    simp only [if_true]
                    exact f1 j' y hj'
                  · rw [away i' j' hne (by rw [← hr.ln _ _ hh]; exact idx_lt hj')]
                    simp only [if_neg hne]
                    exact hr.ow _ _ _ _ hh hj'
              obtain ⟨cur', Fs', e1, e2, e3, e4, e5⟩ := fillS_ok h hz ps (rs.set i l) cur1 (ns1 ++ A) _ q ms hrec hnew (by rw [g1, hs, List.length_set]) (fun k hk => by
                rcases List.mem_append.1 hk with hk | hk
                · exact ⟨l3 k hk, hdis k hk⟩
                · obtain ⟨b1, b2⟩ := hA k hk
                  exact ⟨b1, fun hm => b2 (List.mem_append_right _ hm)⟩)
              refine ⟨cur', Fs', ?_, by rw [e2, g1], by rw [e3, List.length_set], ?_, fun k hk => ?_⟩
              · simp only [List.map_cons, Instr.fill]
                rw [if_neg (by simp [hcells]; omega), hzip]
                exact e1
              · refine ⟨fun i' j' c hc => ?_, e4.dj, e4.ln, e4.h1, e4.ow⟩
                obtain ⟨k, hk, hkc⟩ := e4.fp i' j' c hc
                refine ⟨k, ?_, hkc⟩
                simp only [List.mem_append] at hk ⊢
                rcases hk with hk | hk | hk
                · exact .inl (.inr hk)
                · exact .inl (.inl hk)
                · exact .inr hk
              · rcases List.mem_append.1 hk with hk | hk
                · exact l3 k hk
                · exact e5 k hk
            · cases hf
          · cases hf
        · cases hf
      · cases hf
    · cases hf
theorem cnv_ar {m i ver : Nat} {old : Row} : ∀ (cs : Row) (j : Nat) (l : Row) (ns : List Nat), cnv sv m i ver old j cs = some (l, ns) → ∀ k ∈ ns, ∃ z v r, sv k = some (.ar z v r)
  | [], j, l, ns, hc => by simp only [cnv] at hc; cases hc; intro k hk; cases hk
  | x :: cs, j, l, ns, hc => by
    simp only [cnv] at hc
    split at hc
    · cases hc
    · rename_i l' ns' hc'
      have ih := cnv_ar cs (j + 1) l' ns' hc'
      repeat' (split at hc)
      all_goals first
        | (cases hc; done)
        | (cases hc; exact ih)
        | (rw [cond_eq_ite] at hc
           split at hc
           · cases hc
             intro k hk
             rcases List.mem_cons.1 hk with rfl | hk
             · exact ⟨_, _, _, ‹_›⟩
             · exact ih k hk
           · cases hc)
theorem fillS_ar {z : Nat} : ∀ (ps : List (Nat × AV)) (rs q : List Row) (ns : List Nat), fillS sv z rs ps = some (q, ns) → ∀ k ∈ ns, ∃ z v r, sv k = some (.ar z v r)
  | [], rs, q, ns, hf => by simp only [fillS] at hf; cases hf; intro k hk; cases hk
  | (i, x) :: ps, rs, q, ns, hf => by
    simp only [fillS] at hf
    split at hf
    · rename_i ys hys
      split at hf
      · rename_i l ns1 hcnv
        split at hf
        · split at hf
          · rename_i q' ms hrec
            rw [cond_eq_ite] at hf
            split at hf
            · cases hf
              intro k hk
              rcases List.mem_append.1 hk with hk | hk
              · exact cnv_ar _ _ _ _ hcnv k hk
              · exact fillS_ar _ _ _ _ hrec k hk
            · cases hf
          · cases hf
        · cases hf
      · cases hf
    · cases hf
theorem ar_gh (h : Sim w0 M R γ φ tv sv a w) {k : Nat} (hk : ∃ z v r, sv k = some (.ar z v r)) : live sv k ∧ ∃ g, γ k = some g := by
  obtain ⟨z, v, r, hk⟩ := hk
  obtain ⟨v0, h1, _⟩ := h.bk k _ hk
  exact ⟨blk_live hk, _, h1⟩
theorem buildSlice_ok (hT : TOk P T) (h : Sim w0 M R γ φ tv sv a w) {b : Nat} (hf : Fresh γ b) {t : TypeId} {te : TI} (hte : elemOf T t = some te) {n : Nat} {ps : Array (Nat × Operand)} {rs : List Row} {ns : List Nat}
    (hfl : fillS sv te.size (List.replicate n (zrow te.zero te.cz)) (getP tv ps) = some (rs, ns)) (hn : n * te.size ≤ 65536) :
    OpRes P w0 M R γ tv sv a w b (do pure (.value (← Instr.buildSlice t n (ps.map fun (i, x) => (i, a.eval x))))) ⟨.ow b 0 n, Mx.kill ns ++ [(b, some (.ar te.size 0 rs))]⟩ := by
  obtain ⟨e, hu, he⟩ := elemOf_some hT hte
  obtain ⟨i, z, i1, i2, i3, i4, i5⟩ := ty_info he
  have hzz := zrow_ok (w := w) (ok := okOf w0 M R φ sv w) (F := fun _ => False) te.zero te.cz he.cz
  have hzs : z.cells.size = te.size := by rw [← he.zl, ← i5]; simp
  have hrow : ∀ i' row, (List.replicate n (zrow te.zero te.cz))[i']? = some row → i' < n ∧ row = zrow te.zero te.cz := fun i' row hi => by
    have := idx_lt hi
    rw [List.length_replicate] at this
    rw [List.getElem?_replicate, if_pos this] at hi
    cases hi; exact ⟨this, rfl⟩
  have hval : ∀ i' j x, i' < n → (zrow te.zero te.cz)[j]? = some x → ∃ v, te.zero[j]? = some v ∧ (madeCells z.cells (n * te.size)).getD (i' * te.size + j) undef = v := fun i' j x hi hj => by
    have hj' := idx_lt hj
    rw [hzz.1, he.zl] at hj'
    have h1 : (i' + 1) * te.size ≤ n * te.size := Nat.mul_le_mul_right _ (by omega)
    rw [Nat.add_mul] at h1
    have hmod : (i' * te.size + j) % z.cells.size = j := by rw [hzs, Nat.mul_comm, Nat.mul_add_mod, Nat.mod_eq_of_lt hj']
    refine ⟨z.cells.getD j undef, ?_, ?_⟩
    · rw [← i5]; simp [hzs, hj']
    · rw [madeCells_get (by omega) (by rw [hmod, hzs]; exact hj'), hmod]
  have h0 : RowsOk w (okOf w0 M R φ sv w) φ [] te.size (List.replicate n (zrow te.zero te.cz)) (madeCells z.cells (n * te.size)) (fun _ _ _ => False) :=
    ⟨fun _ _ _ h => h.elim, fun _ _ _ _ _ h => h.elim, fun i' row hi => by rw [(hrow i' row hi).2, hzz.1, he.zl], fun i' row j x hi hj => by
      obtain ⟨q1, rfl⟩ := hrow i' row hi
      obtain ⟨v, q2, q3⟩ := hval i' j x q1 hj
      rw [q3]; exact he.zc v (List.mem_of_getElem? q2), fun i' row j x hi hj => by
      obtain ⟨q1, rfl⟩ := hrow i' row hi
      obtain ⟨v, q2, q3⟩ := hval i' j x q1 hj
      rw [q3]; exact hzz.2 j v x q2 hj⟩
  obtain ⟨cur', Fs', e1, e2, e3, e4, e5⟩ := fillS_ok h he.s1 ps.toList (List.replicate n (zrow te.zero te.cz)) (madeCells z.cells (n * te.size)) [] _ rs ns hfl h0 (by rw [size_madeCells, List.length_replicate]) (fun k hk => by cases hk)
  have hb := hf b (Nat.le_refl _) (by omega)
  have hne : ∀ k ∈ ns, k ≠ b := fun k hk e => by
    obtain ⟨_, g, hg⟩ := ar_gh h (fillS_ar _ _ _ _ hfl k hk)
    rw [e, hb] at hg; cases hg
  have hlr : rs.length = n := by rw [e3, List.length_replicate]
  have hrun : (Instr.buildSlice t n (ps.map fun (i, x) => (i, a.eval x))).run P w = .ok (.slice (some ⟨w.heap.size, 0, none⟩) n n) (w.alloc (.cells cur' e)) := by
    have hps : (ps.map fun (i, x) => (i, a.eval x)).toList = ps.toList.map fun p => (p.1, a.eval p.2) := by simp
    have hno : ¬ (n * te.size > 2 ^ 24) := by omega
    obtain ⟨zz, z1, z2⟩ := zero_run (w := w) he
    have hmc : ∀ zs : Array Value, (if n * te.size = 0 then #[] else zs) = (if n * te.size = 0 then #[] else zs) := fun _ => rfl
    have hzz2 : zz.cells = z.cells := by apply Array.ext'; rw [z2, i5]
    by_cases hz0 : n * te.size = 0
    · have hm : madeCells z.cells (n * te.size) = #[] := by simp [madeCells, hz0, Array.range_zero']
      rw [hm] at e1
      simp only [Instr.buildSlice, Sem.run_bind, run_underlying hu, Result.andThen_ok, sizeOf_run he, hno, hz0, if_true, Sem.run_pure, if_false]
      rw [hps]
      simp [Array.range_zero', e1, newRow]
    · have hm : (Array.range (n * te.size)).map (zz.cells[· % zz.cells.size]!) = madeCells z.cells (n * te.size) := by rw [hzz2]; rfl
      simp only [Instr.buildSlice, Sem.run_bind, run_underlying hu, Result.andThen_ok, sizeOf_run he, hno, hz0, if_false, Sem.run_pure, z1]
      rw [hps, hm, e1]
      simp [newRow]
  obtain ⟨φ', hs⟩ := h.newAr (w' := w.alloc (.cells cur' e)) (n := b) hb ns (fun k hk => ⟨e5 k hk, hne k hk⟩) (z := te.size) (cap := n) (rows := rs) (More.alloc (SameW.refl w) _) (fun o ho => by simp)
    (by omega) (by rw [e2, size_madeCells]; exact Nat.le_refl _) (by have : n * 1 ≤ n * te.size := Nat.mul_le_mul_left _ he.s1; simp only [maxLen]; omega) Fs' (fun i j c hc => by simpa using e4.fp i j c hc) e4.dj e4.ln e4.h1 e4.ow
  rw [hlr] at hs
  rw [← show syncF (Mx.kill ns ++ [(b, some (.ar te.size 0 rs))]) sv = updS (syncF (Mx.kill ns) sv) b (some (.ar te.size 0 rs)) from by rw [syncF_app]; rfl] at hs
  exact ⟨_, _, _, φ', .inl (by simp only [Sem.run_bind, hrun, Result.andThen_ok, Sem.run_pure]), fun k hk => by rw [γN_ne (by omega)], hs, ow_rep γN_self (Nat.le_refl _)⟩
end
end Go.Proofs.YtkkmgjhfjhcdmaaGreatDoor.Mx

/- Building, conversions. -/
namespace Go.Proofs.YtkkmgjhfjhcdmaaGreatDoor.Mx
set_option linter.all false
open Go Go.RowKit
section
variable {w0 : World} {M R : Nat → Prop} {γ : Gs} {φ : Fp} {tv : Tv} {sv : Sv} {a : Act} {w w' : World} {P : Program} {T : Ty} {ok ok' : Nat → Prop}
theorem places_ok (hT : TOk P T) {fs : List (Nat × TypeId)} : ∀ (fa : List Field), (fa.map fun f => (f.offset, f.type)) = fs → (∀ q ∈ fs, ∃ i, P.info? q.2 = some i) →
    ∃ pl, fa.mapM (fun f => (P.info? f.type).map fun i => (f.offset, i.size)) = some pl ∧ ∀ (i off : Nat) (t : TypeId) (ti : TI), fs[i]? = some (off, t) → T t = some ti → pl[i]? = some (off, ti.size) := by
  intro fa
  induction fa generalizing fs with
  | nil => intro h _; subst h; exact ⟨[], rfl, fun i off t ti h => by simp at h⟩
  | cons f fa ih =>
    intro h hq
    subst h
    obtain ⟨pl, h1, h2⟩ := ih rfl (fun q hqq => hq q (by simp at hqq ⊢; exact .inr hqq))
    obtain ⟨i, hi⟩ := hq (f.offset, f.type) (by simp)
    refine ⟨(f.offset, i.size) :: pl, by simp [List.mapM_cons, hi, h1], fun k off t ti hk ht => ?_⟩
    cases k with
    | zero =>
      simp at hk
      obtain ⟨rfl, rfl⟩ := hk
      obtain ⟨i', z, q1, q2, _⟩ := (hT _ ti ht).inf
      rw [hi] at q1
      cases q1
      simp [q2]
    | succ k => exact h2 k off t ti (by simpa using hk) ht
theorem fillP_ok (h : Sim w0 M R γ φ tv sv a w) {γ' : Gs} {ok' : Nat → Prop} (hok : ∀ c, okOf w0 M R φ sv w c → ok' c) (hγ : ∀ m g, γ m = some g → γ' m = some g) {fs : List (Nat × TypeId)} {pl : List (Nat × Nat)}
    (hpl : ∀ (i off : Nat) (t : TypeId) (ti : TI), fs[i]? = some (off, t) → T t = some ti → pl[i]? = some (off, ti.size)) : ∀ (ps : List (Nat × Operand)) (cs : Row) (cur : Array Value) (q : Row),
    fillP fs T cs (ps.map fun p => (p.1, opv tv p.2)) = some q → cs.length = cur.size → (∀ (j : Nat) (v : Value) (x : AV), cur[j]? = some v → cs[j]? = some x → RepC w ok' γ' v x) → (∀ (j : Nat) (v : Value), cur[j]? = some v → v.oneCell' = true) →
    ∃ cur', Instr.fill (pl.toArray[·]?) cur (ps.map fun p => (p.1, a.eval p.2)) = some cur' ∧ q.length = cur'.size ∧ (∀ (j : Nat) (v : Value) (x : AV), cur'[j]? = some v → q[j]? = some x → RepC w ok' γ' v x ∧ v.oneCell' = true)
  | [], cs, cur, q, hf, hl, hr, h1 => by
    simp only [List.map_nil, fillP] at hf
    cases hf
    exact ⟨cur, rfl, hl, fun j v x hv hx => ⟨hr j v x hv hx, h1 j v hv⟩⟩
  | (i, x) :: ps, cs, cur, q, hf, hl, hr, h1 => by
    simp only [List.map_cons, fillP] at hf
    split at hf
    · rename_i off t ys hi hys
      split at hf
      · rename_i ti hti
        split at hf
        · rename_i hc
          obtain ⟨hyz, hle⟩ := hc
          obtain ⟨c1, c2, c3⟩ := cells_rep (opv_ok h x) hys
          have hp := hpl i off t ti hi hti
          have hfold := fold_put off (a.eval x).cells.toList cur 0 (by simp [c1]; omega)
          have hzip : (a.eval x).cells.zipIdx.foldl (fun cs (c, j) => cs.setIfInBounds (off + j) c) cur = ((a.eval x).cells.toList.zipIdx 0).foldl (fun cs (p : Value × Nat) => cs.setIfInBounds (off + p.2) p.1) cur := by
            rw [← Array.foldl_toList, Array.toList_zipIdx]
          generalize hcur1 : ((a.eval x).cells.toList.zipIdx 0).foldl (fun cs (p : Value × Nat) => cs.setIfInBounds (off + p.2) p.1) cur = cur1 at hfold hzip
          obtain ⟨g1, g2⟩ := hfold
          have hg2 : ∀ k, cur1.getD k undef = if off ≤ k ∧ k < off + ys.length then (a.eval x).cells.toList.getD (k - off) undef else cur.getD k undef := fun k => by
            rw [g2 k]; simp only [Nat.add_zero, Array.length_toList, c1]
          have hcase : ∀ (j : Nat) (v : Value), cur1[j]? = some v → (off ≤ j ∧ j < off + ys.length ∧ (a.eval x).cells[j - off]? = some v) ∨ (¬ (off ≤ j ∧ j < off + ys.length) ∧ cur[j]? = some v) := fun j v hv => by
            have hj : j < cur1.size := (Array.getElem?_eq_some_iff.1 hv).1
            have hvv : cur1.getD j undef = v := by rw [Array.getD_eq_getD_getElem?, hv]; rfl
            rw [hg2] at hvv
            split at hvv
            · rename_i hcc
              refine .inl ⟨hcc.1, hcc.2, ?_⟩
              rw [← hvv, List.getD_eq_getElem?_getD, List.getElem?_eq_getElem (by simp; omega)]
              simp [show j - off < (a.eval x).cells.size by omega]
            · rename_i hcc
              refine .inr ⟨hcc, ?_⟩
              rw [← hvv]; exact getD_some (by omega)
          obtain ⟨cur', e1, e2, e3⟩ := fillP_ok h hok hγ hpl ps (setR cs off ys) cur1 q hf (by rw [setR_len hle, g1, hl]) (fun j v y hv hy => by
              rw [setR_get hle] at hy
              rcases hcase j v hv with ⟨h1, h2, h3⟩ | ⟨h1, h3⟩
              · rw [if_pos ⟨h1, h2⟩] at hy
                exact (c3 _ _ y h3 hy).mono (fun c hc => ⟨hok c hc, rfl⟩) hγ
              · rw [if_neg h1] at hy
                exact hr j v y h3 hy)
            (fun j v hv => by
              rcases hcase j v hv with ⟨_, _, h3⟩ | ⟨_, h3⟩
              · exact c2 _ _ h3
              · exact h1 j v h3)
          refine ⟨cur', ?_, e2, e3⟩
          simp only [List.map_cons, Instr.fill]
          have : pl.toArray[i]? = some (off, ti.size) := by simpa using hp
          rw [this]
          simp only []
          rw [if_neg (by simp [c1]; omega), hzip]
          exact e1
        · cases hf
      · cases hf
    · cases hf
theorem build_ok (hT : TOk P T) (h : Sim w0 M R γ φ tv sv a w) {b : Nat} (hf : Fresh γ b) {t : TypeId} {ti : TI} (hti : T t = some ti) {fs : List (Nat × TypeId)} (hk : ti.kind = .struct fs) {ps : Array (Nat × Operand)} {cs : Row}
    (hfl : fillP fs T (zbox b ti.zero ti.cz).1 (getP tv ps) = some cs) : OpRes P w0 M R γ tv sv a w b (do pure (.value (← Instr.build t (ps.map fun (i, x) => (i, a.eval x))))) ⟨.ag cs, (zbox b ti.zero ti.cz).2⟩ := by
  have ht := hT t ti hti
  have hkd := ht.kd
  rw [hk] at hkd
  obtain ⟨fa, hu, hfa⟩ := hkd
  obtain ⟨i, z, i1, i2, i3, i4, i5⟩ := ht.inf
  obtain ⟨pl, p1, p2⟩ := places_ok hT fa.toList hfa (ht.fl fs hk)
  have hsz : ti.zero.length ≤ 60 := by rw [ht.zl]; exact ht.sm
  obtain ⟨γ', φ', h1, h2, h3, h4, h5, h6⟩ := zbox_ok b ti.zero ti.cz b h (fun n h1 h2 => hf n (by omega) (by omega)) ht.cz
  have hzl : z.cells.size = ti.zero.length := by rw [← i5]; simp
  have hget : ∀ (j : Nat) (v : Value), z.cells[j]? = some v → ti.zero[j]? = some v := fun j v hv => by rw [← i5]; simpa using hv
  obtain ⟨cur', e1, e2, e3⟩ := fillP_ok h (T := T) (γ' := γ') (fun c hc => h3 c hc) h2 p2 ps.toList (zbox b ti.zero ti.cz).1 z.cells cs hfl (by rw [h5, hzl]) (fun j v x hv hx => h6 j v x (hget j v hv) hx) (fun j v hv => ht.zc v (List.mem_of_getElem? (hget j v hv)))
  have hb : P.built t (ps.map fun (i, x) => (i, a.eval x)).toList = some cur' := by
    unfold Program.built
    rw [i1, hu]
    simp only [i4, p1]
    have : (ps.map fun (i, x) => (i, a.eval x)).toList = ps.toList.map fun p => (p.1, a.eval p.2) := by simp
    rw [this]
    exact e1
  refine ⟨.agg cur', w, γ', φ', .inl (by simp only [Sem.run_bind, run_build w t _ _ hb, Result.andThen_ok, Sem.run_pure]), fun n hn => (h1 n (by omega)).1, h4, cur'.toList, by simp, by simp [e2], fun j v x hv hx => e3 j v x (by simpa using hv) hx⟩
/-- texts and bytes -/
theorem bytesOf_rows : ∀ (r : List Row) (l : List UInt8), bytesOf r = some l → r.length = l.length ∧ ∀ (i : Nat) (row : Row), r[i]? = some row → ∃ n : Int, row = [.sc (.int .u8 n)] ∧ l[i]? = some (UInt8.ofNat n.toNat)
  | [], l, h => by simp only [bytesOf] at h; cases h; exact ⟨rfl, fun i row hi => by simp at hi⟩
  | x :: r, l, h => by
    simp only [bytesOf] at h
    split at h
    · rename_i u hu
      split at h
      · rename_i l' hl'
        cases h
        obtain ⟨i1, i2⟩ := bytesOf_rows r l' hl'
        refine ⟨by simp [i1], fun i row hi => ?_⟩
        cases i with
        | zero =>
          simp at hi
          subst hi
          unfold byteOf at hu
          split at hu
          · cases hu; exact ⟨_, rfl, rfl⟩
          · cases hu
        | succ i => exact i2 i row (by simpa using hi)
      · cases h
    · cases h
theorem rep_scv {u v : Value} (h : Rep w ok v (.sc u)) : v = u := by cases h; rfl
theorem toStr_ok {v : Value} {o : Bool} {r : List Row} {l : List UInt8} (hv : Rep w ok v (.sl o 1 r)) (hl : bytesOf r = some l) : (Conv.bytesToString v).run P w = .ok (.string ⟨l.toArray⟩) w := by
  obtain ⟨b1, b2⟩ := bytesOf_rows r l hl
  have fold : ∀ (ns : List Int) (s : ByteArray), ns.foldl (fun r n => r.push (UInt8.ofNat n.toNat)) s = ⟨s.data ++ (ns.map fun n => UInt8.ofNat n.toNat).toArray⟩ := by
    intro ns
    induction ns with
    | nil => intro s; simp
    | cons n ns ih =>
      intro s
      simp only [List.foldl_cons, ih, List.map_cons]
      apply ByteArray.ext
      show (s.data.push _ ++ _) = _
      simp
  cases hv with
  | nil => simp only [bytesOf] at hl; cases hl; simp [Conv.bytesToString]; rfl
  | emp =>
    simp only [bytesOf] at hl; cases hl
    rw [run_bytesToString w _ 0 _ [] (by simp [loadCells, loadCellsFrom])]
    rfl
  | sl _ _ b off cap _ vs h1 h2 h3 h4 h5 =>
    obtain ⟨f, hf⟩ : ∃ f : Nat → Int, ∀ i, i < r.length → w.cell? ⟨b, off + i, none⟩ = some (.int .u8 (f i)) ∧ l[i]? = some (UInt8.ofNat (f i).toNat) := by
      refine ⟨fun i => if hi : i < r.length then (b2 i r[i] (List.getElem?_eq_getElem hi)).choose else 0, fun i hi => ?_⟩
      simp only [hi, dif_pos]
      obtain ⟨hc1, hc2⟩ := (b2 i r[i] (List.getElem?_eq_getElem hi)).choose_spec
      have := h4 i r[i] 0 _ (List.getElem?_eq_getElem hi) (by rw [hc1]; rfl)
      have hr := h5 i r[i] 0 _ (List.getElem?_eq_getElem hi) (by rw [hc1]; rfl)
      refine ⟨?_, hc2⟩
      rw [show off + i = off + (i * 1 + 0) by omega, this.1, rep_scv hr]
    have hld : (loadCells ⟨b, off, none⟩ r.length).run P w = .ok (((List.range r.length).map f).map (Value.int .u8)).toArray w := by
      rw [run_loadCells (w := w) ⟨b, off, none⟩ r.length (fun i => .int .u8 (f i)) (fun j hj => by rw [add_flat]; exact (hf j hj).1)]
      simp
    rw [run_bytesToString w ⟨b, off, none⟩ r.length cap ((List.range r.length).map f) hld, fold]
    congr 3
    simp
    apply List.ext_getElem?
    intro i
    by_cases hi : i < r.length
    · simp [hi, (hf i hi).2]
    · simp [hi, show l.length ≤ i by omega]
end
end Go.Proofs.YtkkmgjhfjhcdmaaGreatDoor.Mx

/- Conversions, append. -/
namespace Go.Proofs.YtkkmgjhfjhcdmaaGreatDoor.Mx
set_option linter.all false
open Go Go.RowKit
section
variable {w0 : World} {M R : Nat → Prop} {γ : Gs} {φ : Fp} {tv : Tv} {sv : Sv} {a : Act} {w w' : World} {P : Program} {T : Ty} {ok ok' : Nat → Prop}
theorem byte_rows {s : ByteArray} : (∀ (i : Nat) (row : Row), ((bt s).map byteRow)[i]? = some row → ∃ u, (bt s)[i]? = some u ∧ row = [.sc (.int .u8 u.toNat)]) ∧ flatR ((bt s).map byteRow) = true := by
  refine ⟨fun i row hi => ?_, ?_⟩
  · rw [List.getElem?_map] at hi
    cases h : (bt s)[i]? with
    | none => rw [h] at hi; cases hi
    | some u => rw [h] at hi; cases hi; exact ⟨u, rfl, rfl⟩
  · simp [flatR, byteRow, isSc]
theorem grown_le {need old : Nat} {e : TypeId} (h : need ≤ maxLen) : need ≤ grownCap w need old e ∧ grownCap w need old e ≤ maxLen := by
  unfold grownCap
  simp only [Question.cut, maxLen] at *
  constructor
  · omega
  · have := Nat.mod_lt (w.tape w.drawn (.appendCap need old e)) (show 0 < 2 ^ 63 - need by omega)
    omega
theorem bt_len {s : ByteArray} : (bt s).length = s.size := by simp [bt]
/-- a new array of cells without addresses -/
theorem Sim.flatAr (h : Sim w0 M R γ φ tv sv a w) {n : Nat} (hn : γ n = none) {z cap : Nat} {rows : List Row} {cur : Array Value} {e : TypeId} {fr : Nat × Nat} (hm : More w w' (.cells cur e fr)) (ht : Thawed cur fr)
    (hc : rows.length ≤ cap) (hsz : cap * z ≤ cur.size) (hml : cap ≤ maxLen) (hfl : flatR rows = true) (hl : ∀ (i : Nat) (row : Row), rows[i]? = some row → row.length = z)
    (hr : ∀ (i : Nat) (row : Row) (j : Nat) (x : AV), rows[i]? = some row → row[j]? = some x → (cur.getD (i * z + j) undef).oneCell' = true ∧ ∃ w1 ok1, Rep w1 ok1 (cur.getD (i * z + j) undef) x) :
    ∃ φ', Sim w0 M R (γN γ n (.slice (some ⟨w.heap.size, 0, none⟩) rows.length cap, z)) φ' tv (updS sv n (some (.ar z 0 rows))) a w' := by
  have sc : ∀ (i : Nat) (row : Row) (j : Nat) (x : AV), rows[i]? = some row → row[j]? = some x → isSc x = true := fun i row j x hi hj => List.all_eq_true.1 (List.all_eq_true.1 hfl row (List.mem_of_getElem? hi)) x (List.mem_of_getElem? hj)
  exact h.newAr hn [] (fun k hk => by cases hk) hm ht hc hsz hml (fun _ _ _ => False) (fun _ _ _ h => h.elim) (fun _ _ _ _ _ h => h.elim) hl (fun i row j x hi hj => (hr i row j x hi hj).1)
    (fun i row j x hi hj => by obtain ⟨_, w1, ok1, h⟩ := hr i row j x hi hj; exact own_of_rep (sc i row j x hi hj) (isSc_rep (sc i row j x hi hj) h))
theorem toBytes_ok (h : Sim w0 M R γ φ tv sv a w) {b : Nat} (hf : Fresh γ b) {src dst e : TypeId} {s : ByteArray} (hs : s.size ≤ room) (h1 : P.underlying src = some .string) (h2 : P.underlying dst = some (.slice e)) (h3 : P.underlying e = some (.int .u8)) :
    OpRes P w0 M R γ tv sv a w b (do pure (.value (← convert src dst (.string s)))) ⟨.ow b 0 (bt s).length, [(b, some (.ar 1 0 ((bt s).map byteRow)))]⟩ := by
  have hcap := grown_le (w := w) (old := 0) (e := e) (need := s.size) (by simp only [room] at hs; simp only [maxLen]; omega)
  have hrun := run_bytes_of_string w src dst e s h1 h2 h3
  generalize hcur : bytesRow s (grownCap w s.size 0 e) = cur at hrun
  have hsz : cur.size = grownCap w s.size 0 e := by
    rw [← hcur]; simp [bytesRow]
    have : s.data.size = s.size := rfl
    omega
  have hval : ∀ i u, (bt s)[i]? = some u → cur.getD i undef = .int .u8 u.toNat := fun i u hu => by
    have hi := idx_lt hu
    rw [bt_len] at hi
    have hu' : s.data[i]? = some u := by simpa [bt] using hu
    have : cur[i]? = some (.int .u8 u.toNat) := by
      rw [← hcur]
      unfold bytesRow
      rw [Array.getElem?_append_left (by simp; exact hi), Array.getElem?_map, hu']; rfl
    rw [Array.getD_eq_getD_getElem?, this]; rfl
  obtain ⟨q1, q2⟩ := byte_rows (s := s)
  obtain ⟨φ', hs'⟩ := h.flatAr (w' := w.drew.alloc (.cells cur e (cur.size, cur.size + 1))) (n := b) (hf b (Nat.le_refl _) (by omega)) (z := 1) (cap := grownCap w s.size 0 e) (rows := (bt s).map byteRow) (More.alloc (SameW.drew w) _) (fun o ho => by simp only []; omega)
    (by rw [List.length_map, bt_len]; exact hcap.1) (by omega) hcap.2 q2 (fun i row hi => by obtain ⟨u, _, rfl⟩ := q1 i row hi; rfl)
    (fun i row j x hi hj => by
      obtain ⟨u, hu, rfl⟩ := q1 i row hi
      cases j with
      | zero =>
        simp at hj
        subst hj
        rw [Nat.mul_one, Nat.add_zero, hval i u hu]
        exact ⟨rfl, w, okOf w0 M R φ sv w, .sc _ rfl⟩
      | succ j => simp at hj)
  rw [List.length_map] at hs'
  have hrep : RepV (w.drew.alloc (.cells cur e (cur.size, cur.size + 1))) (okOf w0 M R φ' (updS sv b (some (.ar 1 0 ((bt s).map byteRow)))) (w.drew.alloc (.cells cur e (cur.size, cur.size + 1)))) (γN γ b (.slice (some ⟨w.heap.size, 0, none⟩) (bt s).length (grownCap w s.size 0 e), 1))
      (.slice (some ⟨w.heap.size, 0, none⟩) s.size (grownCap w s.size 0 e)) (.ow b 0 (bt s).length) := by
    rw [← bt_len (s := s)]
    exact ow_rep γN_self (by rw [bt_len]; exact hcap.1)
  exact ⟨_, _, _, φ', .inl (by simp only [Sem.run_bind, hrun, Result.andThen_ok, Sem.run_pure]), fun k hk => by rw [γN_ne (by omega)], hs', hrep⟩
theorem convert_ok (hT : TOk P T) (h : Sim w0 M R γ φ tv sv a w) {b : Nat} (hf : Fresh γ b) {src dst : TypeId} {x : Operand} {d : Dl} (hd : pConvert T src dst b (opv tv x) sv = some d) :
    OpRes P w0 M R γ tv sv a w b (do pure (.value (← convert src dst (a.eval x)))) d := by
  have hx := opv_ok h x
  generalize opv tv x = y at hd hx
  generalize a.eval x = v at hx
  unfold pConvert at hd
  split at hd
  · rename_i ta tc hta htc
    have ka := (hT src ta hta).kd
    have kc := (hT dst tc htc).kd
    generalize ta.kind = A at hd ka
    generalize tc.kind = C at hd kc
    split at hd
    · split at hd
      · cases hd
        obtain ⟨rfl, _⟩ := rep_sc hx
        refine opres_pure h ?_ (rep_sc' rfl)
        simp only [convert, Sem.run_bind, run_underlying (show P.underlying src = _ from ka), run_underlying (show P.underlying dst = _ from kc), Result.andThen_ok, Conv.intToInt, Sem.run_pure, wr_wrap]
      · cases hd
    · split at hd
      · cases hd
        obtain ⟨rfl, _⟩ := rep_sc hx
        refine opres_pure h ?_ (rep_sc' rfl)
        simp only [convert, Sem.run_bind, run_underlying (show P.underlying src = _ from ka), run_underlying (show P.underlying dst = _ from kc), Result.andThen_ok, Sem.run_pure]
      · cases hd
    · rename_i e
      split at hd
      · rename_i te z A hte hrow
        have ke := (hT e te hte).kd
        generalize te.kind = E at hd ke
        split at hd
        · rename_i l hl
          split at hd
          · rename_i hc
            obtain ⟨rfl, hroom⟩ := hc
            cases hd
            have hR := rowsOf_ok h hx hrow
            refine opres_pure h ?_ (rep_sc' rfl)
            have hb := toStr_ok (P := P) hR hl
            have ⟨ad, n, cap, hv⟩ : ∃ ad n cap, v = .slice ad n cap := by cases hR <;> exact ⟨_, _, _, rfl⟩
            subst hv
            simp only [convert, Sem.run_bind, run_underlying (show P.underlying src = _ from ka), run_underlying (show P.underlying dst = _ from kc), run_underlying (show P.underlying e = _ from ke), Result.andThen_ok, hb]
          · cases hd
        · cases hd
      · cases hd
    · rename_i e
      split at hd
      · rename_i te s hte
        have ke := (hT e te hte).kd
        generalize te.kind = E at hd ke
        split at hd
        · split at hd
          · rename_i hs
            cases hd
            obtain ⟨rfl, _⟩ := rep_sc hx
            exact toBytes_ok h hf hs ka kc ke
          · cases hd
        · cases hd
      · cases hd
    · cases hd
  · cases hd
end
end Go.Proofs.YtkkmgjhfjhcdmaaGreatDoor.Mx

/- Append. -/
namespace Go.Proofs.YtkkmgjhfjhcdmaaGreatDoor.Mx
set_option linter.all false
open Go Go.RowKit
section
variable {w0 : World} {M R : Nat → Prop} {γ : Gs} {φ : Fp} {tv : Tv} {sv : Sv} {a : Act} {w w' : World} {P : Program} {T : Ty} {ok ok' : Nat → Prop}
/-- what is appended -/
structure Src (P : Program) (w : World) (xt : TypeId) (size : Nat) (x : Value) (n : Nat) (news : List Value) : Prop where
  ty : P.underlying xt = some .string ∨ ∃ e', P.underlying xt = some (.slice e')
  ln : ∀ w1, (Builtin.lenOf x).run P w1 = .ok n w1
  fc : ∀ w1, SameW w w1 → (Builtin.firstCells size n x).run P w1 = .ok news.toArray w1
  nl : news.length = n * size
theorem append_run {t xt e ty : TypeId} {te : TI} (ht : P.underlying t = some (.slice e)) (he : TyOk P e te) {ats : Array TypeId} (h0 : ats[0]? = some t) (h1 : ats[1]? = some xt) {base : Option Addr} {sLen sCap n : Nat} {x : Value} {news olds : List Value}
    (hb : base = none → sLen = 0 ∧ sCap = 0) (hs : Src P w xt te.size x n news) (hol : olds.length = sLen * te.size) (hof : ∀ w1, SameW w w1 → (Builtin.firstCells te.size sLen (.slice base sLen sCap)).run P w1 = .ok olds.toArray w1)
    (hroom : (sLen + n) * te.bytes ≤ room) :
    (sLen + n ≤ sCap ∧ ∃ ad, base = some ad ∧ ∀ w', (storeCells (ad.add (sLen * te.size)) news).run P w = .ok () w' → (Builtin.append_ ats ty #[.slice base sLen sCap, x]).run P w = .ok (.slice base (sLen + n) sCap) w') ∨
    (base = none ∧ n = 0 ∧ sLen = 0 ∧ (Builtin.append_ ats ty #[.slice base sLen sCap, x]).run P w = .ok (.slice none 0 0) w) ∨
    (sCap < sLen + n ∧ ∃ zs : Array Value, zs.size = (grownCap w (sLen + n) sCap e - (sLen + n)) * te.size ∧ (Builtin.append_ ats ty #[.slice base sLen sCap, x]).run P w = .ok (.slice (some ⟨w.heap.size, 0, none⟩) (sLen + n) (grownCap w (sLen + n) sCap e)) (w.drew.alloc (.cells (olds.toArray ++ news.toArray ++ zs) e))) := by
  have hl := hs.ln w
  have hf := hs.fc w (SameW.refl w)
  obtain ⟨i, z, i1, i2, i3, i4, i5⟩ := he.inf
  have hf' := hf
  rw [← i2] at hf'
  by_cases hle : sLen + n ≤ sCap
  · cases base with
    | none =>
      obtain ⟨rfl, rfl⟩ := hb rfl
      have : n = 0 := by omega
      subst this
      refine .inr (.inl ⟨rfl, rfl, rfl, ?_⟩)
      rcases hs.ty with hd | ⟨e', hd⟩ <;> simp [Builtin.append_, h0, h1, run_underlying ht, run_underlying hd, sizeOf, typeInfo, i1, hl, hf']
    | some ad =>
      refine .inl ⟨hle, ad, rfl, fun w' hst => ?_⟩
      rw [← i2] at hst
      rcases hs.ty with hd | ⟨e', hd⟩ <;> simp [Builtin.append_, h0, h1, run_underlying ht, run_underlying hd, sizeOf, typeInfo, i1, hl, hf', hle, hst]
  · refine .inr (.inr ⟨by omega, Builtin.zeroCells z.cells (grownCap w (sLen + n) sCap e - (sLen + n)), ?_, ?_⟩)
    · have hzs : z.cells.size = te.size := by rw [← he.zl, ← i5]; simp
      simp [Builtin.zeroCells, hzs]
    · have hfit := growslice_fits (need := sLen + n) (old := sCap) (bytes := te.bytes) (by omega) (by simpa [room] using hroom)
      have hno : ¬ (281474976710656 < Builtin.nextslicecap (sLen + n) sCap * i.bytes) := by rw [i3]; omega
      have hb1 : ¬ i.bytes = 0 := by rw [i3]; have := he.b1; omega
      have hf2 := hs.fc w.drew (SameW.drew w)
      have ho2 := hof w.drew (SameW.drew w)
      rw [← i2] at hf2 ho2
      rcases hs.ty with hd | ⟨e', hd⟩ <;>
        (simp [Builtin.append_, h0, h1, run_underlying ht, run_underlying hd, sizeOf, typeInfo, zeroValue, i1, i4, hl, hle, hno, hb1, Question.forced, hf2, ho2, newRow, grownCap]
         congr 2
         apply Array.ext'
         simp [List.append_assoc])
end
end Go.Proofs.YtkkmgjhfjhcdmaaGreatDoor.Mx

/- Append, done; copy. -/
namespace Go.Proofs.YtkkmgjhfjhcdmaaGreatDoor.Mx
set_option linter.all false
open Go Go.RowKit
section
variable {w0 : World} {M R : Nat → Prop} {γ : Gs} {φ : Fp} {tv : Tv} {sv : Sv} {a : Act} {w w' : World} {P : Program} {T : Ty} {ok ok' : Nat → Prop}
theorem rep_news {v : Value} {o : Bool} {z : Nat} {B : List Row} (h : Rep w ok v (.sl o z B)) : ∃ (base : Option Addr) (cap : Nat) (news : List Value), v = .slice base B.length cap ∧ B.length ≤ cap ∧ (base = none → B.length = 0 ∧ cap = 0) ∧ news.length = B.length * z ∧
    (∀ w1, SameW w w1 → (Builtin.firstCells z B.length v).run P w1 = .ok news.toArray w1) ∧ (∀ (i : Nat) (row : Row), B[i]? = some row → row.length = z) ∧
    ∀ (i : Nat) (row : Row) (j : Nat) (x : AV), B[i]? = some row → row[j]? = some x → ∃ u, news[i * z + j]? = some u ∧ u.oneCell' = true ∧ Rep w ok u x := by
  cases h with
  | nil => exact ⟨none, 0, [], rfl, Nat.le_refl _, fun _ => ⟨rfl, rfl⟩, by simp, fun w1 _ => by simp [Builtin.firstCells], fun i row hi => by simp at hi, fun i row j x hi => by simp at hi⟩
  | emp _ _ A cap =>
    exact ⟨_, cap, [], rfl, Nat.zero_le _, fun h => by simp at h, by simp, fun w1 _ => run_firstCells_some w1 z 0 _ 0 cap [] (by simp) (fun j v hj => by simp at hj), fun i row hi => by simp at hi, fun i row j x hi => by simp at hi⟩
  | sl _ _ b off cap _ vs h1 h2 h3 h4 h5 =>
    have hz : ∀ k, k < B.length * z → k / z < B.length ∧ k % z < z := fun k hk => by
      have hzp : 0 < z := by rcases Nat.eq_zero_or_pos z with rfl | h; simp at hk; exact h
      exact ⟨Nat.div_lt_of_lt_mul (by rw [Nat.mul_comm]; exact hk), Nat.mod_lt _ hzp⟩
    have hcell : ∀ k, k < B.length * z → w.cell? ⟨b, off + k, none⟩ = some (vs (k / z) (k % z)) ∧ (vs (k / z) (k % z)).oneCell' = true := fun k hk => by
      obtain ⟨q1, q2⟩ := hz k hk
      have hr := List.getElem?_eq_getElem q1
      have hl := h3 _ _ hr
      have := h4 (k / z) _ (k % z) _ hr (List.getElem?_eq_getElem (by rw [hl]; exact q2))
      rwa [show k / z * z + k % z = k by rw [Nat.mul_comm]; exact Nat.div_add_mod k z] at this
    refine ⟨some ⟨b, off, none⟩, cap, (List.range (B.length * z)).map fun k => vs (k / z) (k % z), rfl, h2, fun h => by simp at h, by simp, fun w1 hs => ?_, h3, fun i row j x hi hj => ?_⟩
    · refine run_firstCells_some w1 z B.length _ _ cap _ (by simp) (fun j v hj => ?_)
      have hlt := idx_lt hj
      simp only [List.length_map, List.length_range] at hlt
      rw [List.getElem?_map, List.getElem?_range hlt] at hj
      cases hj
      rw [add_flat]
      have := (hcell j hlt).1
      unfold World.cell? at *
      rw [hs.heap]; exact this
    · have hl := h3 i row hi
      have hjz : j < z := by rw [← hl]; exact idx_lt hj
      have hk : i * z + j < B.length * z := by
        have : (i + 1) * z ≤ B.length * z := Nat.mul_le_mul_right _ (by have := idx_lt hi; omega)
        rw [Nat.add_mul] at this; omega
      have hd : (i * z + j) / z = i := by rw [Nat.mul_comm, Nat.mul_add_div (by omega), Nat.div_eq_of_lt hjz, Nat.add_zero]
      have hm : (i * z + j) % z = j := by rw [Nat.mul_comm, Nat.mul_add_mod, Nat.mod_eq_of_lt hjz]
      refine ⟨vs i j, ?_, (h4 i row j x hi hj).2, h5 i row j x hi hj⟩
      rw [List.getElem?_map, List.getElem?_range hk]
      simp [hd, hm]
theorem slLen {ok F : Nat → Prop} {v : Value} {z : Nat} {rows : List Row} (h : Own w ok F v (.sl true z rows)) : ∃ (base : Option Addr) (cap : Nat), v = .slice base rows.length cap ∧ rows.length ≤ cap ∧ (base = none → rows = [] ∧ cap = 0) ∧ Sub v z 0 rows.length v := by
  cases h with
  | rd _ _ _ n1 => exact (n1 _ _ rfl).elim
  | nil => exact ⟨_, _, rfl, Nat.le_refl _, fun _ => ⟨rfl, rfl⟩, rfl, rfl, rfl⟩
  | emp => exact ⟨_, _, rfl, Nat.le_refl _, fun h => by simp at h, _, 0, rfl, Nat.le_refl _, Nat.le_refl _, .inr rfl⟩
  | sl _ _ b off cap _ cur e fr Fs h1 h2 h3 h4 h5 => exact ⟨_, _, rfl, h4, fun h => by simp at h, off, cap, rfl, by omega, h4, .inl ⟨by omega, by omega⟩⟩
theorem own_inv {F : Nat → Prop} {v : Value} {z : Nat} {rows : List Row} (h : Own w ok F v (.sl true z rows)) : (v = .slice none 0 0 ∧ rows = []) ∨ (∃ b off, v = .slice (some ⟨b, off, none⟩) 0 0 ∧ rows = []) ∨
    ∃ (b off cap : Nat) (cur : Array Value) (e : TypeId) (fr : Nat × Nat) (Fs : Nat → Nat → Nat → Prop), v = .slice (some ⟨b, off, none⟩) rows.length cap ∧ F b ∧ w.heap[b]? = some (.cells cur e fr) ∧ Thawed cur fr ∧ rows.length ≤ cap ∧ off + cap * z ≤ cur.size ∧ cap ≤ maxLen ∧
      (∀ i j x, Fs i j x → F x ∧ x ≠ b) ∧ (∀ i j i' j' x, Fs i j x → Fs i' j' x → i = i' ∧ j = j') ∧ (∀ (i : Nat) (row : Row), rows[i]? = some row → row.length = z) ∧
      (∀ (i : Nat) (row : Row) (j : Nat) (x : AV), rows[i]? = some row → row[j]? = some x → (cur.getD (off + (i * z + j)) undef).oneCell' = true) ∧
      (∀ (i : Nat) (row : Row) (j : Nat) (x : AV), rows[i]? = some row → row[j]? = some x → Own w ok (Fs i j) (cur.getD (off + (i * z + j)) undef) x) := by
  cases h with
  | rd _ _ _ n1 => exact (n1 _ _ rfl).elim
  | nil => exact .inl ⟨rfl, rfl⟩
  | emp _ _ b off => exact .inr (.inl ⟨b, off, rfl, rfl⟩)
  | sl _ _ b off cap _ cur e fr Fs h1 h2 h3 h4 h5 h6 h7 h8 h9 h10 h11 => exact .inr (.inr ⟨b, off, cap, cur, e, fr, Fs, rfl, h1, h2, h3, h4, h5, h6, h7, h8, h9, h10, h11⟩)
/-- append, in memory -/
theorem append_core {t xt e ty : TypeId} {te : TI} (ht : P.underlying t = some (.slice e)) (he : TyOk P e te) {ats : Array TypeId} (h0 : ats[0]? = some t) (h1 : ats[1]? = some xt) {FA : Nat → Prop} {vA x : Value} {A B : List Row} {news : List Value}
    (hA : Own w ok FA vA (.sl true te.size A)) (hFA : ∀ c, FA c → c < w.heap.size) (hs : Src P w xt te.size x B.length news) (hBl : ∀ (i : Nat) (row : Row), B[i]? = some row → row.length = te.size) (FB : Nat → Nat → Nat → Prop) (FBs : Nat → Prop) (hFB : ∀ i j c, FB i j c → FBs c ∧ c < w.heap.size ∧ ¬ FA c)
    (hFd : ∀ i j i' j' c, FB i j c → FB i' j' c → i = i' ∧ j = j')
    (hB : ∀ (i : Nat) (row : Row) (j : Nat) (x : AV), B[i]? = some row → row[j]? = some x → ∃ u, news[i * te.size + j]? = some u ∧ u.oneCell' = true ∧ Own w ok (FB i j) u x) (hroom : (A.length + B.length) * te.bytes ≤ room) :
    ∃ v' w' F', (Builtin.append_ ats ty #[vA, x]).run P w = .ok v' w' ∧ w'.os = w.os ∧ w'.tape = w.tape ∧ w'.output = w.output ∧ Kp w w' ∧ w.heap.size ≤ w'.heap.size ∧ (∀ c, c < w.heap.size → ¬ FA c → w'.heap[c]? = w.heap[c]?) ∧ (∀ c, F' c → c < w'.heap.size ∧ (w.heap.size ≤ c ∨ FA c ∨ FBs c)) ∧
      (∀ ok' : Nat → Prop, (∀ c, ok c → ok' c ∧ w'.heap[c]? = w.heap[c]?) → Own w' ok' F' v' (.sl true te.size (A ++ B))) ∧ Sub v' te.size 0 (A.length + B.length) v' := by
  have h63 : A.length + B.length ≤ maxLen := by
    have h1 : (A.length + B.length) * 1 ≤ (A.length + B.length) * te.bytes := Nat.mul_le_mul_left _ he.b1
    simp only [room] at hroom
    simp only [maxLen]
    omega
  have hnl := hs.nl
  have hn1 : ∀ u ∈ news, u.oneCell' = true := fun u hu => by
    obtain ⟨k, hk⟩ := List.getElem?_of_mem hu
    have hlt := idx_lt hk
    rw [hnl] at hlt
    have hd : k / te.size < B.length := Nat.div_lt_of_lt_mul (by rw [Nat.mul_comm]; exact hlt)
    have hm := Nat.mod_lt k he.s1
    have hr := List.getElem?_eq_getElem hd
    have hl := hBl _ _ hr
    obtain ⟨u', q1, q2, _⟩ := hB (k / te.size) _ (k % te.size) _ hr (List.getElem?_eq_getElem (by rw [hl]; exact hm))
    rw [show k / te.size * te.size + k % te.size = k by rw [Nat.mul_comm]; exact Nat.div_add_mod k te.size, hk] at q1
    cases q1; exact q2
  obtain ⟨base, sCap, hv, hcap, hbn, _⟩ := slLen hA
  obtain ⟨_, _, olds, hv2, _, _, hol, hof, hAl, hAc⟩ := rep_news (P := P) (hA.rep (ok' := fun _ => True) (fun _ _ => trivial) (fun _ _ => trivial))
  subst hv
  cases hv2
  have hrun := append_run (P := P) (w := w) (ty := ty) ht he h0 h1 (base := base) (sLen := A.length) (sCap := sCap) (fun h => by obtain ⟨rfl, h2⟩ := hbn h; exact ⟨rfl, h2⟩) hs hol hof hroom
  have split : ∀ (i : Nat) (row : Row), (A ++ B)[i]? = some row → (i < A.length ∧ A[i]? = some row) ∨ (A.length ≤ i ∧ B[i - A.length]? = some row) := fun i row hi => by
    by_cases h : i < A.length
    · rw [List.getElem?_append_left h] at hi; exact .inl ⟨h, hi⟩
    · rw [List.getElem?_append_right (by omega)] at hi; exact .inr ⟨by omega, hi⟩
  rcases hrun with ⟨hle, ad, rfl, hin⟩ | ⟨rfl, hB0, hA0, hr⟩ | ⟨hlt, zs, hzs, hr⟩
  · -- in place
    rcases own_inv hA with ⟨e0, _⟩ | ⟨b, off, e0, e1⟩ | ⟨b, off, cap, cur, e', fr, Fs, e0, a1, a2, a3, a4, a5, a6, a7, a8, a9, a10, a11⟩
    · cases e0
    · subst e1
      cases e0
      have hB0 : B = [] := List.eq_nil_of_length_eq_zero (by simp only [List.length_nil] at hle; omega)
      subst hB0
      have hn0 : news = [] := List.eq_nil_of_length_eq_zero (by rw [hnl]; simp)
      subst hn0
      have := hin w rfl
      exact ⟨_, w, FA, this, rfl, rfl, rfl, Kp.refl _, Nat.le_refl _, fun _ _ _ => rfl, fun c hc => ⟨hFA c hc, .inr (.inl hc)⟩, fun ok' hok => .emp _ _ _ _, off, 0, rfl, Nat.le_refl _, Nat.le_refl _, .inr rfl⟩
    · cases e0
      rw [add_flat] at hin
      have hfit : off + A.length * te.size + 0 + news.length ≤ cur.size := by
        rw [hnl]
        have : (A.length + B.length) * te.size ≤ sCap * te.size := Nat.mul_le_mul_right _ hle
        rw [Nat.add_mul] at this
        omega
      obtain ⟨w', cur', r1, r2, r3, r4, r5, r6, r7, r8, r9⟩ := store_cells (P := P) b (off + A.length * te.size) e' fr news 0 cur w a2 a3 hfit hn1
      refine ⟨_, w', fun c => FA c ∨ FBs c ∧ c < w.heap.size, hin w' r1, r2, r3, r4, Kp.cell r6 a2 r7 r8, by omega, fun c _ hc => r6 c fun e => hc (e ▸ a1), fun c hc => ?_, fun ok' hok => ?_, off, sCap, rfl, by omega, by omega, .inl ⟨by omega, by omega⟩⟩
      · rw [r5]
        rcases hc with hc | ⟨hc, hl⟩
        · exact ⟨hFA c hc, .inr (.inl hc)⟩
        · exact ⟨hl, .inr (.inr hc)⟩
      · have old : ∀ i j, i < A.length → j < te.size → cur'.getD (off + (i * te.size + j)) undef = cur.getD (off + (i * te.size + j)) undef := fun i j hi hj => by
          rw [r9, if_neg]
          have : (i + 1) * te.size ≤ A.length * te.size := Nat.mul_le_mul_right _ hi
          rw [Nat.add_mul] at this
          omega
        have new : ∀ i j u, news[i * te.size + j]? = some u → cur'.getD (off + ((A.length + i) * te.size + j)) undef = u := fun i j u hu => by
          have := idx_lt hu
          rw [r9, Nat.add_mul, if_pos (by omega)]
          rw [show off + (A.length * te.size + i * te.size + j) - (off + A.length * te.size + 0) = i * te.size + j by omega, List.getD_eq_getElem?_getD, hu]; rfl
        have hR := Own.sl (w := w') (ok := ok') (fun c => FA c ∨ FBs c ∧ c < w.heap.size) te.size b off sCap (A ++ B) cur' e' fr (fun i j c => if i < A.length then Fs i j c else FB (i - A.length) j c) (.inl a1) r7 (fun o ho => a3 o (by rw [← r8]; exact ho)) (by rw [List.length_append]; omega) (by rw [r8]; exact a5) a6
          (fun i j c hc => by
            split at hc
            · exact ⟨.inl (a7 _ _ _ hc).1, (a7 _ _ _ hc).2⟩
            · obtain ⟨q1, q2, q3⟩ := hFB _ _ _ hc
              exact ⟨.inr ⟨q1, q2⟩, fun e => q3 (e ▸ a1)⟩)
          (fun i j i' j' c hc hc' => by
            split at hc <;> split at hc'
            · exact a8 _ _ _ _ _ hc hc'
            · exact ((hFB _ _ _ hc').2.2 (a7 _ _ _ hc).1).elim
            · exact ((hFB _ _ _ hc).2.2 (a7 _ _ _ hc').1).elim
            · have := hFd _ _ _ _ _ hc hc'; omega)
          (fun i row hi => by rcases split i row hi with ⟨_, h⟩ | ⟨_, h⟩; exact hAl _ _ h; exact hBl _ _ h)
          (fun i row j x hi hj => by
            rcases split i row hi with ⟨hlt, h⟩ | ⟨hge, h⟩
            · rw [old i j hlt (by rw [← hAl _ _ h]; exact idx_lt hj)]; exact a10 _ _ _ _ h hj
            · obtain ⟨u, q1, q2, _⟩ := hB _ _ _ _ h hj
              have := new _ _ _ q1
              rw [show A.length + (i - A.length) = i by omega] at this
              rw [this]; exact q2)
          (fun i row j x hi hj => by
            rcases split i row hi with ⟨hlt, h⟩ | ⟨hge, h⟩
            · rw [old i j hlt (by rw [← hAl _ _ h]; exact idx_lt hj)]
              exact (a11 _ _ _ _ h hj).mono hok _ fun c hc => ⟨by show (if _ then _ else _); rw [if_pos hlt]; exact hc, r6 c (a7 _ _ _ hc).2⟩
            · obtain ⟨u, q1, _, q3⟩ := hB _ _ _ _ h hj
              have := new _ _ _ q1
              rw [show A.length + (i - A.length) = i by omega] at this
              rw [this]
              exact q3.mono hok _ fun c hc => ⟨by show (if _ then _ else _); rw [if_neg (by omega)]; exact hc, r6 c fun e => (hFB _ _ _ hc).2.2 (e ▸ a1)⟩)
        rw [List.length_append] at hR
        exact hR
  · have : A = [] := List.eq_nil_of_length_eq_zero hA0
    subst this
    have : B = [] := List.eq_nil_of_length_eq_zero hB0
    subst this
    exact ⟨_, w, FA, hr, rfl, rfl, rfl, Kp.refl _, Nat.le_refl _, fun _ _ _ => rfl, fun c hc => ⟨hFA c hc, .inr (.inl hc)⟩, fun ok' hok => .nil _ _, rfl, rfl, rfl⟩
  · -- a new array
    obtain ⟨g1, g2⟩ := grown_le (w := w) (old := sCap) (e := e) h63
    generalize hcap' : grownCap w (A.length + B.length) sCap e = nc at *
    generalize hcur : olds.toArray ++ news.toArray ++ zs = cur at hr
    have hM : More w (w.drew.alloc (.cells cur e)) (.cells cur e) := More.alloc (SameW.drew w) _
    have hcs : cur.size = nc * te.size := by
      rw [← hcur]
      simp only [Array.size_append, List.size_toArray, hol, hnl, hzs]
      rw [← Nat.add_mul, ← Nat.add_mul]
      congr 1; omega
    have old : ∀ i j u, olds[i * te.size + j]? = some u → cur.getD (i * te.size + j) undef = u := fun i j u hu => by
      have := idx_lt hu
      have : cur[i * te.size + j]? = some u := by
        rw [← hcur, Array.getElem?_append_left (by simp; omega), Array.getElem?_append_left (by simp; omega)]; simpa using hu
      rw [Array.getD_eq_getD_getElem?, this]; rfl
    have new : ∀ i j u, news[i * te.size + j]? = some u → cur.getD ((A.length + i) * te.size + j) undef = u := fun i j u hu => by
      have := idx_lt hu
      have : cur[(A.length + i) * te.size + j]? = some u := by
        rw [← hcur, Nat.add_mul, Array.getElem?_append_left (by simp; omega), Array.getElem?_append_right (by simp; omega)]
        simp only [List.size_toArray, hol]
        rw [show A.length * te.size + i * te.size + j - A.length * te.size = i * te.size + j by omega]
        simpa using hu
      rw [Array.getD_eq_getD_getElem?, this]; rfl
    -- the old cells, with their blocks
    have hAo : ∃ Fs : Nat → Nat → Nat → Prop, (∀ i j c, Fs i j c → FA c) ∧ (∀ i j i' j' c, Fs i j c → Fs i' j' c → i = i' ∧ j = j') ∧ ∀ (i : Nat) (row : Row) (j : Nat) (x : AV), A[i]? = some row → row[j]? = some x → ∃ u, olds[i * te.size + j]? = some u ∧ u.oneCell' = true ∧ Own w ok (Fs i j) u x := by
      rcases own_inv hA with ⟨_, rfl⟩ | ⟨_, _, _, rfl⟩ | ⟨b, off, cap, cur0, e', fr, Fs, e0, a1, a2, a3, a4, a5, a6, a7, a8, a9, a10, a11⟩
      · exact ⟨fun _ _ _ => False, fun _ _ _ h => h.elim, fun _ _ _ _ _ h => h.elim, fun i row j x hi => by simp at hi⟩
      · exact ⟨fun _ _ _ => False, fun _ _ _ h => h.elim, fun _ _ _ _ _ h => h.elim, fun i row j x hi => by simp at hi⟩
      · cases e0
        refine ⟨Fs, fun i j c hc => (a7 _ _ _ hc).1, a8, fun i row j x hi hj => ?_⟩
        have hk : i * te.size + j < A.length * te.size := by
          have h1 : (i + 1) * te.size ≤ A.length * te.size := Nat.mul_le_mul_right _ (by have := idx_lt hi; omega)
          have h2 := idx_lt hj
          rw [a9 i row hi] at h2
          rw [Nat.add_mul] at h1
          omega
        have hu : olds[i * te.size + j]? = some (cur0.getD (off + (i * te.size + j)) undef) := by
          have hf := hof w (SameW.refl w)
          have := run_firstCells_some (P := P) w te.size A.length ⟨b, off, none⟩ A.length sCap ((List.range (A.length * te.size)).map fun k => cur0.getD (off + k) undef) (by simp) (fun k v hk => by
            have hlt := idx_lt hk
            simp only [List.length_map, List.length_range] at hlt
            rw [List.getElem?_map, List.getElem?_range hlt] at hk
            cases hk
            rw [add_flat]
            have h1 : A.length * te.size ≤ sCap * te.size := Nat.mul_le_mul_right _ a4
            exact cell_some a2 (by omega))
          rw [this] at hf
          have : olds = (List.range (A.length * te.size)).map fun k => cur0.getD (off + k) undef := by
            injection hf with h1 _
            have := congrArg Array.toList h1
            simpa using this.symm
          rw [this, List.getElem?_map, List.getElem?_range hk]; rfl
        exact ⟨_, hu, a10 i row j x hi hj, a11 i row j x hi hj⟩
    obtain ⟨Fs, f1, f2, f3⟩ := hAo
    refine ⟨_, _, fun c => c = w.heap.size ∨ FA c ∨ FBs c ∧ c < w.heap.size, hr, hM.os, hM.tape, hM.output, Kp.old (fun k hk => by rw [hM.heap, if_neg (by omega)]), by rw [hM.size]; omega, fun c hc _ => by rw [hM.heap, if_neg (by omega)], fun c hc => ?_, fun ok' hok => ?_, 0, nc, rfl, by omega, g1, .inl ⟨by omega, by omega⟩⟩
    · rw [hM.size]
      rcases hc with rfl | hc | ⟨hc, hl⟩
      · exact ⟨by omega, .inl (Nat.le_refl _)⟩
      · exact ⟨by have := hFA c hc; omega, .inr (.inl hc)⟩
      · exact ⟨by omega, .inr (.inr hc)⟩
    · have e0 : ∀ i j, 0 + (i * te.size + j) = i * te.size + j := fun i j => Nat.zero_add _
      have hR := Own.sl (w := w.drew.alloc (.cells cur e)) (ok := ok') (fun c => c = w.heap.size ∨ FA c ∨ FBs c ∧ c < w.heap.size) te.size w.heap.size 0 nc (A ++ B) cur e (0, 0) (fun i j c => if i < A.length then Fs i j c else FB (i - A.length) j c) (.inl rfl) (by rw [hM.heap, if_pos rfl]) (fun o ho => by simp) (by rw [List.length_append]; exact g1) (by omega) g2
        (fun i j c hc => by
          split at hc
          · exact ⟨.inr (.inl (f1 _ _ _ hc)), by have := hFA _ (f1 _ _ _ hc); omega⟩
          · obtain ⟨q1, q2, q3⟩ := hFB _ _ _ hc
            exact ⟨.inr (.inr ⟨q1, q2⟩), by omega⟩)
        (fun i j i' j' c hc hc' => by
          split at hc <;> split at hc'
          · exact f2 _ _ _ _ _ hc hc'
          · exact ((hFB _ _ _ hc').2.2 (f1 _ _ _ hc)).elim
          · exact ((hFB _ _ _ hc).2.2 (f1 _ _ _ hc')).elim
          · have := hFd _ _ _ _ _ hc hc'; omega)
        (fun i row hi => by rcases split i row hi with ⟨_, h⟩ | ⟨_, h⟩; exact hAl _ _ h; exact hBl _ _ h)
        (fun i row j x hi hj => by
          rw [e0]
          rcases split i row hi with ⟨hlt, h⟩ | ⟨hge, h⟩
          · obtain ⟨u, q1, q2, _⟩ := f3 _ _ _ _ h hj
            rw [old _ _ _ q1]; exact q2
          · obtain ⟨u, q1, q2, _⟩ := hB _ _ _ _ h hj
            have := new _ _ _ q1
            rw [show A.length + (i - A.length) = i by omega] at this
            rw [this]; exact q2)
        (fun i row j x hi hj => by
          rw [e0]
          rcases split i row hi with ⟨hlt, h⟩ | ⟨hge, h⟩
          · obtain ⟨u, q1, _, q3⟩ := f3 _ _ _ _ h hj
            rw [old _ _ _ q1]
            exact q3.mono hok _ fun c hc => ⟨by show (if _ then _ else _); rw [if_pos hlt]; exact hc, by rw [hM.heap, if_neg (by have := hFA _ (f1 _ _ _ hc); omega)]⟩
          · obtain ⟨u, q1, _, q3⟩ := hB _ _ _ _ h hj
            have := new _ _ _ q1
            rw [show A.length + (i - A.length) = i by omega] at this
            rw [this]
            exact q3.mono hok _ fun c hc => ⟨by show (if _ then _ else _); rw [if_neg (by omega)]; exact hc, by rw [hM.heap, if_neg (by have := (hFB _ _ _ hc).2.1; omega)]⟩)
      rw [List.length_append] at hR
      exact hR
end
end Go.Proofs.YtkkmgjhfjhcdmaaGreatDoor.Mx
