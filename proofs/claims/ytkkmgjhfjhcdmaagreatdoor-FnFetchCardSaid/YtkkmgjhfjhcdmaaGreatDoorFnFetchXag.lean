/- A machine over values for Go functions, proved sound, and functions run on it: texts Q6, Q7, M3, W1, W2. -/
import Derived.Orders
import Derived.Test.YtkkmgjhfjhcdmaaGreatDoorFnFetchXae
import Derived.Test.YtkkmgjhfjhcdmaaGreatDoorFnFetchXaf
set_option linter.all false
namespace Go.Proofs.YtkkmgjhfjhcdmaaGreatDoor.Mx
open Go Go.RowKit
section
variable {w0 : World} {M R : Nat → Prop} {γ : Gs} {φ : Fp} {tv : Tv} {sv : Sv} {a : Act} {w w' : World} {P : Program} {T : Ty} {ok ok' okc : Nat → Prop}
theorem args_ok (h : Sim w0 M R γ φ tv sv a w) (V : List Nat) (hok : ∀ b, okOf w0 M R φ sv w b → okc b) (hV : ∀ n ∈ V, ∀ b, live sv n → φ n b → okc b) :
    ∀ (xs l : List AV) (md : List Nat) (N V' : List Nat) (vs : Nat → Value), (∀ n ∈ V', n ∈ V) → (∀ (i : Nat) (x : AV), xs[i]? = some x → RepV w (okOf w0 M R φ sv w) γ (vs i) x) → argsI sv md xs = some (l, N, V') → nodupB N = true →
    l.length = xs.length ∧ (∀ n ∈ N, live sv n) ∧ ∃ G : Fp, (∀ i b, G i b → i < xs.length ∧ Nφ φ N b) ∧ (∀ i j b, G i b → G j b → i = j) ∧ (∀ (i : Nat) (y : AV), l[i]? = some y → OwnA w okc (G i) (vs i) y) ∧
      ∀ (w' : World) (ok' : Nat → Prop) (Hs : Fp) (k : Nat) (ts : List (Option AV)) (u : Up) (k' : Nat), (∀ j, k ≤ j → j < k' → γ j = none) → Kp w w' → (∀ b, Nφ φ N b → ¬ (∃ j, G j b) → w'.heap[b]? = w.heap[b]?) → (∀ b, okOf w0 M R φ sv w b → ok' b ∧ w'.heap[b]? = w.heap[b]?) →
        (∀ b, (∃ j, Hs j b) → Nφ φ N b → ∃ j, G j b) → (∀ i j b, Hs i b → Hs j b → i = j) → (∀ (j : Nat) (t : AV), ts[j]? = some (some t) → OwnA w' ok' (Hs j) (vs j) t) → bkS sv k md xs ts = some (u, k') →
        ∃ n γd φd, k' = k + n ∧ Back γ φ sv w' ok' N (fun b => ∃ j, G j b) (fun b => ∃ j, Hs j b) k n u γd φd
  | [], l, md, N, V', vs, hVV, hv, hx, hn => by
    simp only [argsI] at hx
    cases hx
    refine ⟨rfl, fun n hn => by simp at hn, fun _ _ => False, fun _ _ h => h.elim, fun _ _ _ h => h.elim, fun j y hy => by simp at hy, fun w' ok' Hs k ts u k' _ _ _ _ _ _ _ hu => ?_⟩
    simp only [bkS] at hu
    cases hu
    obtain ⟨γd, φd, B⟩ := Back.nil (γ := γ) (φ := φ) (sv := sv) (w' := w') (ok' := ok') (N := []) (F := fun b => ∃ j : Nat, (fun _ _ => False : Fp) j b) (H := fun b => ∃ j, Hs j b) (k := k) (n := 0)
    exact ⟨0, γd, φd, rfl, B⟩
  | x :: r, l, md, N, V', vs, hVV, hv, hx, hn => by
    simp only [argsI] at hx
    split at hx
    · rename_i y ns vv l' ms uu h1 h2
      cases hx
      obtain ⟨n1, n2, n3⟩ := nodupB_app hn
      -- the first
      have first : (∀ n ∈ ns, live sv n) ∧ ∃ F0 : Nat → Prop, (∀ b, F0 b → Nφ φ ns b) ∧ OwnA w okc F0 (vs 0) y ∧
          ∀ (w' : World) (ok' H : Nat → Prop) (k : Nat) (t' : AV) (u : Up), md.headD 0 = 1 → (∀ j, k ≤ j → j < k + wd t' → γ j = none) → Kp w w' → (∀ b, Nφ φ ns b → ¬ F0 b → w'.heap[b]? = w.heap[b]?) → (∀ b, okOf w0 M R φ sv w b → ok' b ∧ w'.heap[b]? = w.heap[b]?) →
            (∀ b, H b → Nφ φ ns b → F0 b) → OwnA w' ok' H (vs 0) t' → bkA sv k x t' = some u → ∃ γd φd, Back γ φ sv w' ok' ns F0 H k (wd t') u γd φd := by
        have hv0 := hv 0 x rfl
        simp only [argI] at h1
        split at h1
        · rename_i hm
          cases h1
          exact ⟨fun n hn => by simp at hn, fun _ => False, fun _ h => h.elim, vwA_ok h hv0 hok fun n hn => hV n (hVV n (List.mem_append_left _ hn)), fun w' ok' H k t' u hm' => by rw [hm] at hm'; cases hm'⟩
        · rename_i hm
          split at h1
          · rename_i t ns' hl
            cases h1
            obtain ⟨F, p1, p2, p3, p4⟩ := lnA_ok h hv0 hl n1
            exact ⟨p1, F, p2, p3.mono (fun b hb => ⟨hok b hb, rfl⟩) _ fun b hb => ⟨hb, rfl⟩, fun w' ok' H k t' u _ => p4 w' ok' H k t' u⟩
          · cases h1
        · rename_i hm0 hm1
          split at h1
          · rename_i t ns' hl
            cases h1
            obtain ⟨p1, p2⟩ := exA_ok h hv0 hl n1
            exact ⟨p1, _, fun b hb => hb, p2.mono (fun b hb => ⟨hok b hb, rfl⟩) _ fun b hb => ⟨hb, rfl⟩, fun w' ok' H k t' u hm => (hm1 hm).elim⟩
          · cases h1
      obtain ⟨p1, F0, p2, p3, p4⟩ := first
      obtain ⟨b1, b2, G, b3, b4, b5, b6⟩ := args_ok h V hok hV r l' md.tail ms uu (fun j => vs (j + 1)) (fun n hn => hVV n (List.mem_append_right _ hn)) (fun j x hj => hv (j + 1) x (by simpa using hj)) h2 n2
      have dj := Nφ_dj h p1 b2 n3
      have inN : ∀ b, Nφ φ ns b → Nφ φ (ns ++ ms) b := fun b ⟨n, hn, hb⟩ => ⟨n, List.mem_append_left _ hn, hb⟩
      have inM : ∀ b, Nφ φ ms b → Nφ φ (ns ++ ms) b := fun b ⟨n, hn, hb⟩ => ⟨n, List.mem_append_right _ hn, hb⟩
      have exF : ∀ b, (∃ j, (fun j => match j with | 0 => F0 | j + 1 => G j : Fp) j b) ↔ F0 b ∨ ∃ j, G j b := fun b => by
        constructor
        · rintro ⟨_ | j, hb⟩
          · exact .inl hb
          · exact .inr ⟨j, hb⟩
        · rintro (hb | ⟨j, hb⟩)
          · exact ⟨0, hb⟩
          · exact ⟨j + 1, hb⟩
      refine ⟨by simp [b1], fun n hn => ?_, fun j => match j with | 0 => F0 | j + 1 => G j, ?_, ?_, ?_, ?_⟩
      · rcases List.mem_append.1 hn with hn | hn
        · exact p1 n hn
        · exact b2 n hn
      · rintro (_ | j) b hb
        · exact ⟨by simp, inN b (p2 b hb)⟩
        · exact ⟨by have := (b3 j b hb).1; simp only [List.length_cons]; omega, inM b (b3 j b hb).2⟩
      · rintro (_ | i) (_ | j) b hb hb'
        · rfl
        · exact (dj b (p2 b hb) (b3 j b hb').2).elim
        · exact (dj b (p2 b hb') (b3 i b hb).2).elim
        · rw [b4 i j b hb hb']
      · rintro (_ | j) y hy
        · simp at hy; subst hy; exact p3
        · exact b5 j y (by simpa using hy)
      · intro w' ok' Hs k ts u k' hr hk hs hok' hH hHd hO hu
        have x1 : ∀ b, Hs 0 b → Nφ φ ns b → F0 b := fun b hb hN => by
          rcases (exF b).1 (hH b ⟨0, hb⟩ (inN b hN)) with hf | ⟨j, hf⟩
          · exact hf
          · exact (dj b hN (b3 j b hf).2).elim
        have x2 : ∀ b, (∃ j, Hs (j + 1) b) → Nφ φ ms b → ∃ j, G j b := fun b ⟨j, hb⟩ hN => by
          rcases (exF b).1 (hH b ⟨j + 1, hb⟩ (inM b hN)) with hf | hf
          · exact (dj b (p2 b hf) hN).elim
          · exact hf
        have y1 : ∀ b, Hs 0 b → Nφ φ ms b → ∃ j, G j b := fun b hb hN => by
          rcases (exF b).1 (hH b ⟨0, hb⟩ (inM b hN)) with hf | hf
          · exact (dj b (p2 b hf) hN).elim
          · exact hf
        have y2 : ∀ b, (∃ j, Hs (j + 1) b) → Nφ φ ns b → F0 b := fun b ⟨j, hb⟩ hN => by
          rcases (exF b).1 (hH b ⟨j + 1, hb⟩ (inN b hN)) with hf | ⟨j, hf⟩
          · exact hf
          · exact (dj b hN (b3 j b hf).2).elim
        have hs1 : ∀ b, Nφ φ ns b → ¬ F0 b → w'.heap[b]? = w.heap[b]? := fun b hb hf => hs b (inN b hb) fun hh => by
          rcases (exF b).1 hh with hf' | ⟨j, hf'⟩
          · exact hf hf'
          · exact dj b hb (b3 j b hf').2
        have hs2 : ∀ b, Nφ φ ms b → ¬ (∃ j, G j b) → w'.heap[b]? = w.heap[b]? := fun b hb hf => hs b (inM b hb) fun hh => by
          rcases (exF b).1 hh with hf' | hf'
          · exact dj b (p2 b hf') hb
          · exact hf hf'
        have hd2 : ∀ i j b, Hs (i + 1) b → Hs (j + 1) b → i = j := fun i j b hb hb' => by have := hHd _ _ b hb hb'; omega
        have glue : ∀ (n1 n2 : Nat) (u1 u2 : Up) (γ1 γ2 : Gs) (φ1 φ2 : Fp), k' = k + (n1 + n2) → Back γ φ sv w' ok' ns F0 (Hs 0) k n1 u1 γ1 φ1 → Back γ φ sv w' ok' ms (fun b => ∃ j, G j b) (fun b => ∃ j, Hs (j + 1) b) (k + n1) n2 u2 γ2 φ2 →
            ∃ n γd φd, k' = k + n ∧ Back γ φ sv w' ok' (ns ++ ms) (fun b => ∃ j, (fun j => match j with | 0 => F0 | j + 1 => G j : Fp) j b) (fun b => ∃ j, Hs j b) k n (u1 ++ u2) γd φd := fun n1 n2 u1 u2 γ1 γ2 φ1 φ2 hk' B1 B2 =>
          ⟨_, _, _, hk', Back.app B1 B2 (fun j a b => hr j a (by omega)) (live_gh h p1) (live_gh h b2) n3 dj p2 (fun b ⟨j, hb⟩ => (b3 j b hb).2) (fun b hb ⟨j, hb'⟩ => by have := hHd _ _ b hb hb'; omega) y1 y2
            (fun n => List.mem_append) exF (fun b hb => hb.elim (fun hb => ⟨0, hb⟩) fun ⟨j, hb⟩ => ⟨j + 1, hb⟩) (fun p => List.mem_append)⟩
        simp only [bkS] at hu
        split at hu
        · rename_i hm
          split at hu
          · rename_i t ht
            split at hu
            · rename_i u1 u2 k2 e1 e2
              cases hu
              have htt : ts[0]? = some (some t) := by cases ts with | nil => simp at ht | cons q ts => simp at ht; simp [ht]
              have hlt : ∀ j : Nat, ∀ t', ts.tail[j]? = some (some t') → ts[j + 1]? = some (some t') := fun j t' hj => by rw [List.getElem?_tail] at hj; exact hj
              have hkk : k + wd t ≤ k' := by
                have : ∀ (xs : List AV) (md : List Nat) (ts : List (Option AV)) (k : Nat) (u : Up) (k' : Nat), bkS sv k md xs ts = some (u, k') → k ≤ k' := by
                  intro xs
                  induction xs with
                  | nil => intro md ts k u k' hh; simp only [bkS] at hh; cases hh; exact Nat.le_refl _
                  | cons x r ih =>
                    intro md ts k u k' hh
                    simp only [bkS] at hh
                    split at hh
                    · split at hh
                      · split at hh
                        · rename_i e3 e4
                          cases hh
                          have := ih _ _ _ _ _ e4
                          omega
                        · cases hh
                      · cases hh
                    · exact ih _ _ _ _ _ hh
                exact this _ _ _ _ _ _ e2
              obtain ⟨γ1, φ1, B1⟩ := p4 w' ok' (Hs 0) k t u1 hm (fun j a b => hr j a (by omega)) hk hs1 hok' x1 (hO 0 t htt) e1
              obtain ⟨n, γ2, φ2, hkn, B2⟩ := b6 w' ok' (fun j => Hs (j + 1)) (k + wd t) ts.tail u2 k' (fun j a b => hr j (by omega) b) hk hs2 hok' x2 hd2 (fun j t' hj => hO (j + 1) t' (hlt j t' hj)) e2
              exact glue _ _ _ _ _ _ _ _ (by omega) B1 B2
            · cases hu
          · cases hu
        · have hlt : ∀ j : Nat, ∀ t', ts.tail[j]? = some (some t') → ts[j + 1]? = some (some t') := fun j t' hj => by rw [List.getElem?_tail] at hj; exact hj
          obtain ⟨n, γ2, φ2, hkn, B2⟩ := b6 w' ok' (fun j => Hs (j + 1)) k ts.tail u k' hr hk hs2 hok' x2 hd2 (fun j t' hj => hO (j + 1) t' (hlt j t' hj)) hu
          obtain ⟨γ1, φ1, B1⟩ := Back.nil (γ := γ) (φ := φ) (sv := sv) (w' := w') (ok' := ok') (N := ns) (F := F0) (H := Hs 0) (k := k) (n := 0)
          exact glue 0 n [] u γ1 γ2 φ1 φ2 (by omega) B1 B2
    · cases hx
end
end Go.Proofs.YtkkmgjhfjhcdmaaGreatDoor.Mx

namespace Go.Proofs.YtkkmgjhfjhcdmaaGreatDoor.Mx
open Go Go.RowKit
section
variable {w0 : World} {M R : Nat → Prop} {γ : Gs} {φ : Fp} {tv : Tv} {sv : Sv} {a : Act} {w w' : World} {P : Program} {T : Ty} {ok ok' okc : Nat → Prop}
theorem syncF_in {u : Up} {s : Sv} {m : Nat} {B : Option Blk} (hf : ∀ B B', (m, B) ∈ u → (m, B') ∈ u → B = B') (h : (m, B) ∈ u) : syncF u s m = B := by
  induction u generalizing s with
  | nil => simp at h
  | cons p r ih =>
    obtain ⟨n, C⟩ := p
    simp only [syncF]
    by_cases hr : ∃ B', (m, B') ∈ r
    · obtain ⟨B', hB'⟩ := hr
      have := hf B B' h (List.mem_cons_of_mem _ hB')
      subst this
      exact ih (fun B B' h h' => hf B B' (List.mem_cons_of_mem _ h) (List.mem_cons_of_mem _ h')) hB'
    · have he : (m, B) = (n, C) := by
        rcases List.mem_cons.1 h with h | h
        · exact h
        · exact (hr ⟨B, h⟩).elim
      cases he
      clear ih h hf
      have : ∀ (r : Up) (s : Sv), (¬ ∃ B', (m, B') ∈ r) → syncF r s m = s m := by
        intro r
        induction r with
        | nil => intro s _; rfl
        | cons p r ih =>
          obtain ⟨n, C⟩ := p
          intro s hr
          simp only [syncF]
          rw [ih _ fun ⟨B', hB'⟩ => hr ⟨B', List.mem_cons_of_mem _ hB'⟩]
          exact upd_ne fun e => hr ⟨C, by simp [e]⟩
      rw [this r _ hr, upd_self]
theorem syncF_out {u : Up} {s : Sv} {m : Nat} (h : ∀ B, (m, B) ∉ u) : syncF u s m = s m := by
  induction u generalizing s with
  | nil => rfl
  | cons p r ih =>
    obtain ⟨n, C⟩ := p
    simp only [syncF]
    rw [ih fun B hB => h B (List.mem_cons_of_mem _ hB)]
    exact upd_ne fun e => h C (by simp [e])
theorem BlkOk.up {φ' : Fp} (h : ∀ b, ok b → ok' b) {m : Nat} {B : Blk} (r : BlkOk w ok γ φ sv m B) : BlkOk w ok' γ φ sv m B :=
  r.mono (fun b hb => ⟨h b hb, rfl⟩) (fun _ _ h => h) (fun b hb => ⟨hb, rfl⟩) (fun p i j v zp v' rp _ hs => ⟨hs, fun _ _ _ _ _ _ _ => rfl⟩) (fun p v seen v' es r _ hs => ⟨hs, fun _ => rfl⟩)
def OpStep (P : Program) (w0 : World) (M R : Nat → Prop) (γ : Gs) (tv : Tv) (sv : Sv) (a : Act) (w : World) (b : Nat) (o : Oper) (d : Dl) : Prop :=
  ∀ (next : Act → World → Prop) (Q : Exit → Act → World → Prop), (∀ (v : Value) (w' : World) (γ' : Gs) (φ' : Fp), (∀ n, ¬ (b ≤ n ∧ n < b + 256) → γ' n = γ n) → Sim w0 M R γ' φ' tv (syncF d.upd sv) a w' →
    RepV w' (okOf w0 M R φ' (syncF d.upd sv) w') γ' v d.val → next (a.put o.dst v) w') → o.wp P a w next Q
theorem OpStep.of_res {b : Nat} {o : Oper} {d : Dl} (h : OpRes P w0 M R γ tv sv a w b (execOp a.eval o) d) : OpStep P w0 M R γ tv sv a w b o d := by
  intro next Q hn
  obtain ⟨v, w', γ', φ', h1, h2, h3, h4⟩ := h
  unfold Oper.wp
  rcases h1 with h1 | ⟨h1, rfl⟩
  · rw [h1]; exact hn v w' γ' φ' h2 h3 h4
  · rw [h1]; exact hn undef w' γ' φ' h2 h3 h4
theorem disjB_spec {a b : List Nat} (h : disjB a b = true) : ∀ n ∈ a, n ∉ b := fun n hn hb => by
  have := List.all_eq_true.1 h n hn
  simp [hb] at this
theorem call_post (h : Sim w0 M R γ φ tv sv a w) {b : Nat} (hf : Fresh γ b) {md : List Nat} {xs l : List AV} {vals : List Value} {r : Ans} {d : Dl} (hlen : vals.length = xs.length)
    (hv : ∀ (i : Nat) (v : Value) (x : AV), vals[i]? = some v → xs[i]? = some x → RepV w (okOf w0 M R φ sv w) γ v x) (hl : argsOk sv md xs = some l) (hd : callOut md b sv xs r = some d) :
    ∃ okc G, ArgsRep w okc G vals l ∧ ∀ v w' H, Post w okc G vals r v w' H → ∃ γ' φ', (∀ n, ¬ (b ≤ n ∧ n < b + 256) → γ' n = γ n) ∧ Sim w0 M R γ' φ' tv (syncF d.upd sv) a w' ∧ RepV w' (okOf w0 M R φ' (syncF d.upd sv) w') γ' v d.val := by
  classical
  unfold argsOk at hl
  split at hl
  case h_2 => cases hl
  rename_i l' N V hargs
  rw [cond_eq_ite] at hl
  split at hl
  case isFalse => cases hl
  rename_i hnd
  cases hl
  simp only [Bool.and_eq_true] at hnd
  obtain ⟨hnd, hdis⟩ := hnd
  have hdis := disjB_spec hdis
  unfold callOut at hd
  rw [hargs] at hd
  split at hd
  case h_2 => cases hd
  rename_i u k' e1 hbk
  cases e1
  rw [cond_eq_ite] at hd
  split at hd
  case isFalse => cases hd
  rename_i hck
  cases hd
  simp only [Bool.and_eq_true, decide_eq_true_eq, Bool.or_eq_true] at hck
  obtain ⟨hk', hown⟩ := hck
  have hvs : ∀ (i : Nat) (x : AV), xs[i]? = some x → vals[i]? = some (vals.getD i undef) := fun i x hx => by
    have := idx_lt hx
    rw [List.getD_eq_getElem?_getD, List.getElem?_eq_getElem (by omega)]; rfl
  obtain ⟨b1, b2, G, b3, b4, b5, b6⟩ := args_ok (okc := fun c => okOf w0 M R φ sv w c ∨ ∃ n ∈ V, live sv n ∧ φ n c) h V (fun c hc => .inl hc) (fun n hn c h1 h2 => .inr ⟨n, hn, h1, h2⟩) xs l md N V (fun i => vals.getD i undef) (fun _ h => h)
    (fun i x hx => hv i _ x (hvs i x hx) hx) hargs hnd
  have gN : ∀ c, (∃ i, G i c) → Nφ φ N c := fun c ⟨i, hc⟩ => (b3 i c hc).2
  have nlt : ∀ c, Nφ φ N c → c < w.heap.size ∧ (w0.heap.size ≤ c ∨ M c) := fun c ⟨n, hn, hc⟩ => h.nw n c (b2 n hn) hc
  have nok : ∀ c, Nφ φ N c → ¬ okOf w0 M R φ sv w c := fun c ⟨n, hn, hc⟩ ho => ho.2.2 n (b2 n hn) hc
  have hA : ArgsRep w (fun c => okOf w0 M R φ sv w c ∨ ∃ n ∈ V, live sv n ∧ φ n c) G vals l := by
    refine ⟨hlen.trans b1.symm, fun i v x hv' hx => ?_, b4, fun i c hc => ⟨by rw [b1]; exact (b3 i c hc).1, (nlt c (b3 i c hc).2).1, ?_⟩, ?_, fun c hc => .inl ?_, GP_mono (fun c hc => h.fr.block c (h.df.2.inn c hc).2.2 (h.df.2.inn c hc).2.1) h.df.2.gp⟩
    · have e : v = vals.getD i undef := by rw [List.getD_eq_getElem?_getD, hv']; rfl
      rw [e]
      exact b5 i x hx
    · rintro (ho | ⟨n, hn, hl, hc'⟩)
      · exact nok c (b3 i c hc).2 ho
      · obtain ⟨n', hn', hc''⟩ := (b3 i c hc).2
        exact h.dj n' n (b2 n' hn') hl (fun e => hdis n' hn' (e ▸ hn)) c hc'' hc'
    · rintro c (ho | ⟨n, hn, hl, hc'⟩)
      · exact ho.1
      · exact (h.nw n c hl hc').1
    · obtain ⟨g1, g2, g3⟩ := h.df.2.inn c hc
      refine ⟨Nat.lt_of_lt_of_le g3 h.fr.size, .inl g1, fun m hm hb => ?_⟩
      rcases (h.nw m c hm hb).2 with h1 | h1
      · omega
      · exact g2 h1
  refine ⟨_, G, hA, fun v w' H he => ?_⟩
  · obtain ⟨pfr, pkp, pdj, pnew, pres, pout⟩ := he
    -- what may be read behind the call
    let okX : Nat → Prop := fun c => c < w'.heap.size ∧ (R c ∨ w0.heap.size ≤ c ∨ M c) ∧ (∀ m, live sv m → m ∉ N → ¬ φ m c) ∧ (∀ i, ¬ H i c) ∧ (Nφ φ N c → ∃ i, G i c)
    have hHG : ∀ i c, H i c → Nφ φ N c → ∃ j, G j c := fun i c hc hN => by
      rcases (pnew i c hc).2 with h1 | h1
      · have := (nlt c hN).1; omega
      · exact h1
    have same : ∀ c, c < w.heap.size → ¬ (∃ i, G i c) → w'.heap[c]? = w.heap[c]? := fun c h1 h2 => pfr.block c h1 h2
    have ok1 : ∀ c, okOf w0 M R φ sv w c → okX c ∧ w'.heap[c]? = w.heap[c]? := fun c hc => by
      have hnN : ¬ Nφ φ N c := fun hN => nok c hN hc
      have hnG : ¬ ∃ i, G i c := fun hG => hnN (gN c hG)
      refine ⟨⟨Nat.lt_of_lt_of_le hc.1 pfr.size, hc.2.1, fun m hl _ => hc.2.2 m hl, fun i hi => ?_, fun hN => (hnN hN).elim⟩, same c hc.1 hnG⟩
      rcases (pnew i c hi).2 with h1 | h1
      · have := hc.1; omega
      · exact hnG h1
    have ok2 : ∀ c, okP w (okOf w0 M R φ sv w) G H w' c → okX c := fun c ⟨h1, h2, h3⟩ => by
      refine ⟨h1, ?_, fun m hl hm' hc => ?_, h3, fun hN => ?_⟩
      · rcases h2 with h2 | h2 | h2
        · exact h2.2.1
        · exact .inr (.inl (Nat.le_trans h.fr.size h2))
        · exact .inr (nlt c (gN c h2)).2
      · rcases h2 with h2 | h2 | h2
        · exact h2.2.2 m hl hc
        · have := (h.nw m c hl hc).1; omega
        · obtain ⟨n, hn, hc'⟩ := gN c h2
          exact h.dj m n hl (b2 n hn) (fun e => hm' (e ▸ hn)) c hc hc'
      · rcases h2 with h2 | h2 | h2
        · exact (nok c hN h2).elim
        · have := (nlt c hN).1; omega
        · exact h2
    have hres : OwnV w' okX (H 0) v r.1 := by
      rcases hown with hV | ⟨ho, _⟩
      · refine pres.mono (fun c hc => ⟨ok2 c ⟨hc.1, hc.2.1.imp (fun hh => hh.elim id ?_) id, hc.2.2⟩, rfl⟩) _ fun c hc => ⟨hc, rfl⟩
        rintro ⟨n, hn, _⟩
        rw [List.isEmpty_iff.1 hV] at hn
        simp at hn
      · exact own_anyV ho pres
    have hout : ∀ (i : Nat) (t : AV), r.2[i]? = some (some t) → OwnA w' okX (H (i + 1)) (vals.getD i undef) t := fun i t ht => by
      obtain ⟨u0, hu0, hO⟩ := pout i t ht
      have e : u0 = vals.getD i undef := by rw [List.getD_eq_getElem?_getD, hu0]; rfl
      rw [← e]
      rcases hown with hV | ⟨_, ho⟩
      · refine hO.mono (fun c hc => ⟨ok2 c ⟨hc.1, hc.2.1.imp (fun hh => hh.elim id ?_) id, hc.2.2⟩, rfl⟩) _ fun c hc => ⟨hc, rfl⟩
        rintro ⟨n, hn, _⟩
        rw [List.isEmpty_iff.1 hV] at hn
        simp at hn
      · exact own_anyA (List.all_eq_true.1 ho (some t) (List.mem_of_getElem? ht)) hO
    obtain ⟨γ1, φ1, A, rv⟩ := thV_ad b hres
    have hn0 : ∀ j, b + wdV r.1 ≤ j → j < k' → γ j = none := fun j h1 h2 => hf j (by omega) (by omega)
    obtain ⟨n, γB, φB, hkn, B⟩ := b6 w' okX (fun i => H (i + 1)) (b + wdV r.1) r.2 u k' hn0 pkp (fun c hN hG => same c (nlt c hN).1 hG) ok1 (fun c ⟨i, hc⟩ hN => hHG _ c hc hN) (fun i j c hc hc' => by have := pdj _ _ c hc hc'; omega) hout hbk
    subst hkn
    have gsome := live_gh h b2
    have nrange : ∀ m ∈ N, ¬ (b ≤ m ∧ m < b + 256) := fun m hm' hh => by
      obtain ⟨g, hg⟩ := gsome m hm'
      rw [hf m hh.1 hh.2] at hg
      cases hg
    let γ' : Gs := fun j => if b ≤ j ∧ j < b + wdV r.1 then γ1 j else if b + wdV r.1 ≤ j ∧ j < b + wdV r.1 + n then γB j else γ j
    let φ' : Fp := fun m c => if m ∈ N ∨ (b ≤ m ∧ m < b + 256) then φB m c ∨ ((b ≤ m ∧ m < b + wdV r.1) ∧ φ1 m c) else φ m c
    have γext : ∀ m g, γ m = some g → γ' m = some g := fun m g hg => by
      have nr : ¬ (b ≤ m ∧ m < b + 256) := fun hh => by rw [hf m hh.1 hh.2] at hg; cases hg
      show (if _ then _ else _) = _
      rw [if_neg (by omega), if_neg (by omega)]
      exact hg
    have γout : ∀ m, ¬ (b ≤ m ∧ m < b + 256) → γ' m = γ m := fun m hh => by
      show (if _ then _ else _) = _
      rw [if_neg (by omega), if_neg (by omega)]
    have γr1 : Agr b (wdV r.1) γ1 γ' := fun j h1 h2 => by
      show (if _ then _ else _) = _
      rw [if_pos ⟨h1, h2⟩]
    have γrB : ∀ j, b + wdV r.1 ≤ j → j < b + wdV r.1 + n → γ' j = γB j := fun j h1 h2 => by
      show (if _ then _ else _) = _
      rw [if_neg (by omega), if_pos ⟨h1, h2⟩]
    have domB : ∀ m c, φB m c → m ∈ N ∨ (b + wdV r.1 ≤ m ∧ m < b + wdV r.1 + n) := B.dom
    have φr1 : ∀ j, b ≤ j → j < b + wdV r.1 → φ' j = φ1 j := fun j h1 h2 => by
      funext c
      show (if _ then _ else _) = _
      rw [if_pos (.inr ⟨h1, by omega⟩)]
      refine propext ⟨?_, fun hh => .inr ⟨⟨h1, h2⟩, hh⟩⟩
      rintro (hh | ⟨_, hh⟩)
      · rcases domB j c hh with hj | hj
        · exact (nrange j hj ⟨h1, by omega⟩).elim
        · omega
      · exact hh
    have φrB : ∀ j, (j ∈ N ∨ (b + wdV r.1 ≤ j ∧ j < b + wdV r.1 + n)) → φ' j = φB j := fun j hj => by
      funext c
      show (if _ then _ else _) = _
      rw [if_pos (hj.imp id fun hj => by omega)]
      refine propext ⟨?_, .inl⟩
      rintro (hh | ⟨hh, _⟩)
      · exact hh
      · rcases hj with hj | hj
        · exact (nrange j hj ⟨hh.1, by omega⟩).elim
        · omega
    have hsync : ∀ m, syncF (kill N ++ (u ++ (thV b r.1).2)) sv m = syncF (u ++ (thV b r.1).2) (syncF (kill N) sv) m := fun m => by rw [syncF_app]
    have hfn : ∀ m B B', (m, B) ∈ u ++ (thV b r.1).2 → (m, B') ∈ u ++ (thV b r.1).2 → B = B' := by
      intro m C C' hC hC'
      have cl : ∀ C C', (m, C) ∈ u → (m, C') ∈ (thV b r.1).2 → False := fun C C' hC hC' => by
        have h1 := (B.rng m C hC).1
        have h2 := A.rng m C' hC'
        rcases h1 with h1 | h1
        · exact nrange m h1 ⟨h2.1, by omega⟩
        · omega
      rcases List.mem_append.1 hC with hC | hC <;> rcases List.mem_append.1 hC' with hC' | hC'
      · exact B.fn m C C' hC hC'
      · exact (cl _ _ hC hC').elim
      · exact (cl _ _ hC' hC).elim
      · exact A.fn m C C' hC hC'
    have killv : ∀ m, syncF (kill N) sv m = if m ∈ N then none else sv m := fun m => by
      by_cases hm' : m ∈ N
      · rw [if_pos hm']
        refine syncF_in (fun B B' hB hB' => ?_) (B := none) (by simp [kill, hm'])
        simp only [kill, List.mem_map, Prod.mk.injEq] at hB hB'
        obtain ⟨_, _, _, rfl⟩ := hB
        obtain ⟨_, _, _, rfl⟩ := hB'
        rfl
      · rw [if_neg hm']
        exact syncF_out fun B hB => by
          simp only [kill, List.mem_map, Prod.mk.injEq] at hB
          obtain ⟨x, hx, rfl, _⟩ := hB
          exact hm' hx
    have svin : ∀ m C, (m, C) ∈ u ++ (thV b r.1).2 → syncF (kill N ++ (u ++ (thV b r.1).2)) sv m = C := fun m C hC => by rw [hsync]; exact syncF_in (hfn m) hC
    have svout : ∀ m, (∀ C, (m, C) ∉ u ++ (thV b r.1).2) → syncF (kill N ++ (u ++ (thV b r.1).2)) sv m = if m ∈ N then none else sv m := fun m hm' => by rw [hsync, syncF_out hm', killv]
    have urng : ∀ m C, (m, C) ∈ u ++ (thV b r.1).2 → m ∈ N ∨ (b ≤ m ∧ m < b + 256) := fun m C hC => by
      rcases List.mem_append.1 hC with hC | hC
      · exact (B.rng m C hC).1.imp id fun hh => by omega
      · have := A.rng m C hC; exact .inr ⟨this.1, by omega⟩
    have φK : ∀ m c, (m ∈ N ∨ (b ≤ m ∧ m < b + 256)) → φ' m c → (∃ i, H i c) ∨ (¬ (∃ i, G i c) ∧ Nφ φ N c) := fun m c hm' hc => by
      have hc : (if _ then _ else _) := hc
      rw [if_pos hm'] at hc
      rcases hc with hc | ⟨_, hc⟩
      · exact (B.sub m c hc).imp (fun ⟨i, hi⟩ => ⟨i + 1, hi⟩) id
      · exact .inl ⟨0, A.sub m c hc⟩
    have hX : ∀ c, okX c → okOf w0 M R φ' (syncF (kill N ++ (u ++ (thV b r.1).2)) sv) w' c := fun c hc => by
      refine ⟨hc.1, hc.2.1, fun m hl hcm => ?_⟩
      by_cases hK : m ∈ N ∨ (b ≤ m ∧ m < b + 256)
      · rcases φK m c hK hcm with ⟨i, hi⟩ | ⟨hG, hN⟩
        · exact hc.2.2.2.1 i hi
        · exact hG (hc.2.2.2.2 hN)
      · have hcm : (if _ then _ else _) := hcm
        rw [if_neg hK] at hcm
        have hls : live sv m := by
          unfold live at hl ⊢
          rw [svout m (fun C hC => hK (urng m C hC)), if_neg (fun hh => hK (.inl hh))] at hl
          exact hl
        exact hc.2.2.1 m hls (fun hh => hK (.inl hh)) hcm
    have fin := h.step (γ' := γ') (φ' := φ') (sv' := syncF (kill N ++ (u ++ (thV b r.1).2)) sv) (w' := w') (fun m => m ∈ N ∨ (b ≤ m ∧ m < b + 256)) γext
      (fun m hK => ⟨by rw [svout m (fun C hC => hK (urng m C hC)), if_neg (fun hh => hK (.inl hh))], by funext c; show (if _ then _ else _) = _; rw [if_neg hK]⟩)
      ⟨pfr.os.trans h.fr.os, pfr.tape.trans h.fr.tape, pfr.output.trans h.fr.output, Nat.le_trans h.fr.size pfr.size, fun k hk hMk => (same k (Nat.lt_of_lt_of_le hk h.fr.size) fun hG => by
        rcases (nlt k (gN k hG)).2 with h1 | h1
        · omega
        · exact hMk h1).trans (h.fr.block k hk hMk)⟩
      pkp pfr.size (fun c hc hn' => same c hc fun hG => by obtain ⟨m, hm', hc'⟩ := gN c hG; exact hn' m (.inl hm') (b2 m hm') hc')
      (fun m c hK hl hc => by
        rcases φK m c hK hc with ⟨i, hi⟩ | ⟨hG, hN⟩
        · refine ⟨(pnew i c hi).1, (pnew i c hi).2.imp id fun hG => ?_⟩
          obtain ⟨m', hm', hc'⟩ := gN c hG
          exact ⟨m', .inl hm', b2 m' hm', hc'⟩
        · obtain ⟨m', hm', hc'⟩ := hN
          exact ⟨Nat.lt_of_lt_of_le (nlt c ⟨m', hm', hc'⟩).1 pfr.size, .inr ⟨m', .inl hm', b2 m' hm', hc'⟩⟩)
      (fun m m' hK hK' hl hl' hne c hc hc' => by
        have hc : (if _ then _ else _) := hc
        have hc' : (if _ then _ else _) := hc'
        rw [if_pos hK] at hc
        rw [if_pos hK'] at hc'
        have cr : ∀ j, φB j c → H 0 c → False := fun j h1 h2 => by
          rcases B.sub j c h1 with ⟨i, hi⟩ | ⟨hG, hN⟩
          · have := pdj _ _ c hi h2; omega
          · exact hG (hHG 0 c h2 hN)
        rcases hc with hc | ⟨_, hc⟩ <;> rcases hc' with hc' | ⟨_, hc'⟩
        · exact hne (B.dj m m' c hc hc')
        · exact cr m hc (A.sub m' c hc')
        · exact cr m' hc' (A.sub m c hc)
        · exact hne (A.dj m m' c hc hc'))
      (fun k p i j v0 hK hk hP => by
        obtain ⟨⟨g1, c1⟩, ⟨g2, c2⟩, c3⟩ := h.bk k _ hk
        rcases hP with hP | hP
        · by_cases he : ∃ C, (p, C) ∈ u ++ (thV b r.1).2
          · obtain ⟨C, hC⟩ := he
            have hCu : (p, C) ∈ u := by
              rcases List.mem_append.1 hC with hC | hC
              · exact hC
              · have := A.rng p C hC; exact (nrange p hP ⟨this.1, by omega⟩).elim
            obtain ⟨C', rfl⟩ := (B.rng p C hCu).2
            exact (B.al p C' hP hCu k i j v0 hk γ' φ' _ γext (svin p _ hC)).up (φ' := φ') hX
          · refine ⟨⟨g1, γext _ _ c1⟩, ⟨g2, γext _ _ c2⟩, fun zp v' rp hh => ?_⟩
            rw [svout p (fun C hC => he ⟨C, hC⟩), if_pos hP] at hh
            cases hh
        · rw [hf p hP.1 hP.2] at c2; cases c2)
      (fun k p v0 seen hK hk hP => by
        obtain ⟨⟨g2, c2⟩, bb, born, last, c3, c4, c5⟩ := h.bk k _ hk
        rcases hP with hP | hP
        · refine ⟨⟨g2, γext _ _ c2⟩, bb, born, last, γext _ _ c3, by show (if _ then _ else _); rw [if_neg hK]; exact c4, fun v' es hh => ?_⟩
          by_cases he : ∃ C, (p, C) ∈ u ++ (thV b r.1).2
          · obtain ⟨C, hC⟩ := he
            have hCu : (p, C) ∈ u := by
              rcases List.mem_append.1 hC with hC | hC
              · exact hC
              · have := A.rng p C hC; exact (nrange p hP ⟨this.1, by omega⟩).elim
            rw [svin p C hC] at hh
            subst hh
            exact (B.nm p _ hP hCu v' es rfl).elim
          · rw [svout p (fun C hC => he ⟨C, hC⟩), if_pos hP] at hh
            cases hh
        · rw [hf p hP.1 hP.2] at c2; cases c2)
      (fun _ m C hK hC => by
        by_cases he : ∃ C, (m, C) ∈ u ++ (thV b r.1).2
        · obtain ⟨C', hC'⟩ := he
          rw [svin m C' hC'] at hC
          subst hC
          rcases List.mem_append.1 hC' with hu | hu
          · exact (B.ok m C hu γ' φ' _ γext γrB (φrB m (B.rng m _ hu).1) fun j h1 h2 => φrB j (.inr ⟨h1, h2⟩)).up (φ' := φ') hX
          · exact (A.ok m C hu γ' φ' _ γr1 φr1).up (φ' := φ') hX
        · rw [svout m (fun C hC => he ⟨C, hC⟩)] at hC
          rcases hK with hK | hK
          · rw [if_pos hK] at hC; cases hC
          · split at hC
            · cases hC
            · obtain ⟨g, hg⟩ := blk_gh h hC
              rw [hf m hK.1 hK.2] at hg
              cases hg)
    exact ⟨γ', φ', γout, fin.1, (rv γ' γr1).mono (fun c hc => ⟨hX c hc, rfl⟩) fun _ _ h => h⟩
theorem callOp_ok (h : Sim w0 M R γ φ tv sv a w) {b : Nat} (hf : Fresh γ b) {o : Oper} {f : FuncId} {xs : Array Operand} {ats : Array TypeId} (ho : o.op = .call { callee := .value (.func f), args := xs, argTypes := ats })
    {md : List Nat} {l : List AV} {r : Ans} {d : Dl} (hl : argsOk sv md (xs.toList.map (opv tv)) = some l) (hm : Meets P f l r) (hd : callOut md b sv (xs.toList.map (opv tv)) r = some d) : OpStep P w0 M R γ tv sv a w b o d := by
  intro next Q hn
  obtain ⟨okc, G, hA, hP⟩ := call_post h hf (vals := xs.toList.map a.eval) (by simp) (fun i v x hv hx => by
    simp only [List.getElem?_map, Option.map_eq_some_iff] at hv hx
    obtain ⟨y, hy, rfl⟩ := hv
    obtain ⟨y', hy', rfl⟩ := hx
    rw [hy] at hy'
    cases hy'
    exact opv_ok h y) hl hd
  have hex : (execOp a.eval o).run P w = (callFunc f (xs.map a.eval)).run P w := by
    simp [execOp, ho, resolve, Deferred.ofValue, invoke, Act.eval]
  have hxs : (xs.toList.map a.eval).toArray = xs.map a.eval := by rw [← Array.toList_map]
  rw [← hxs] at hex
  unfold Oper.wp
  rw [hex]
  rcases hm w okc G _ hA with ⟨hr, hc⟩ | ⟨v, w', H, hr, hp⟩
  · rw [hr, Oper.upon_enter]
    refine hc.mono fun e w' he => ?_
    cases e with
    | returned v =>
      obtain ⟨H, hp⟩ := he
      obtain ⟨γ', φ', h1, h2, h3⟩ := hP v w' H hp
      exact hn v w' γ' φ' h1 h2 h3
    | _ => exact he.elim
  · rw [hr, Oper.upon_value]
    obtain ⟨γ', φ', h1, h2, h3⟩ := hP v w' H hp
    exact hn v w' γ' φ' h1 h2 h3
end
end Go.Proofs.YtkkmgjhfjhcdmaaGreatDoor.Mx

namespace Go.Proofs.YtkkmgjhfjhcdmaaGreatDoor.Mx
open Go Go.RowKit
structure Env where
  T : Ty
  md : Nat → Nat → List Nat := fun _ _ => []
  kp : Nat → List Nat
  dp : Nat → List (List Nat) := fun _ => []
  fz : Nat → List Nat := fun _ => []
  ex : Nat → Bool := fun _ => false

abbrev OD (_ : Dl → Prop) : Type := Option Dl
def After (f : Dl → Prop) (o : OD f) : Prop := ∃ d, o = some d ∧ f d
abbrev OL (_ : Ans → Prop) : Type := Option (List AV)
def AfterC (P : Program) (h : FuncId) (f : Ans → Prop) (o : OL f) : Prop := ∃ l r, o = some l ∧ Meets P h l r ∧ f r
abbrev BB (_ _ : Prop) : Type := Bool
def Br (A B : Prop) (q : BB A B) : Prop := if q = true then A else B
abbrev BA (_ _ : Prop) : Type := AV
def GK (w : Bool) (A B : Prop) (x : BA A B) : Prop := match x with
  | .sc (.bool q) => Br A B (q == w)
  | .tu [] => B
  | _ => False
def CK (A B : Prop) (x : BA A B) : Prop := match x with
  | .sc (.bool q) => Br A B q
  | _ => False
theorem after_some (d : Dl) (f : Dl → Prop) : After f (some d) ↔ f d := by simp [After]
theorem br_true (A B : Prop) : Br A B true ↔ A := by simp [Br]
theorem br_false (A B : Prop) : Br A B false ↔ B := by simp [Br]
theorem gk_bool (q w : Bool) (A B : Prop) : GK w A B (AV.sc (.bool q)) ↔ Br A B (q == w) := Iff.rfl
theorem gk_tu (w : Bool) (A B : Prop) : GK w A B (AV.tu []) ↔ B := Iff.rfl
theorem ck_bool (q : Bool) (A B : Prop) : CK A B (AV.sc (.bool q)) ↔ Br A B q := Iff.rfl
theorem afterC {P : Program} {h : FuncId} {f : Ans → Prop} {l : List AV} {r : Ans} (hm : Meets P h l r) (hf : f r) : AfterC P h f (some l) := ⟨l, r, rfl, hm, hf⟩

def St.go (s : St) (dst : Option Tmp) (d : Dl) : St := ⟨(s.put dst d).tm, (s.put dst d).sto, s.ctr + 256⟩
def notSb (m : Nat) : Blk → Bool
  | .sb p _ _ _ => !(p == m)
  | _ => true
def unn1 (s : St) (m : Nat) : St := match sget s.sto m with
  | some (.sb p i j v) => match sget s.sto p with
    | some (.ar zp v' rp) => match nest rp i j with
      | some (z, r) => bif v == v' && s.sto.all (fun e => notSb m e.2) then ⟨s.tm, supd (supd s.sto p (some (.ar zp v' (rp.set i ((rp.getD i []).set j .no))))) m (some (.ar z 0 r)), s.ctr⟩ else s
      | none => s
    | _ => s
  | _ => s
def unnL : Row → St → St
  | [], s => s
  | .ow m _ _ :: r, s => unnL r (unn1 s m)
  | _ :: r, s => unnL r s
def frz1 (s : St) (t : Nat) : St := match tget s.tm t with
  | .ow m _ _ => match sget s.sto m with
    | some (.ar z _ rows) => ⟨s.tm, supd s.sto m (some (.fz z rows)), s.ctr⟩
    | _ => s
  | .pt m _ _ => match sget s.sto m with
    | some (.bx cs) => unnL cs s
    | _ => s
  | _ => s
def frz : List Nat → St → St
  | [], s => s
  | t :: r, s => frz r (frz1 s t)
def keep (ks : List Nat) (s : St) : St := ⟨ks.map fun t => (t, tget s.tm t), s.sto, s.ctr⟩
abbrev AX (_ : Ty) (_ : TypeId) (_ : St) (_ : Option Tmp) (_ : St → Prop) : Type := AV
abbrev BX (_ : St) (_ : Option Tmp) (_ : St → Prop) (_ : Nat) : Type := Option Blk
def isMap (T : Ty) (t : TypeId) : Bool := match T t with | some ti => (match ti.kind with | .map _ _ => true | _ => false) | none => false
def RgB (s : St) (dst : Option Tmp) (K : St → Prop) (m : Nat) (B : BX s dst K m) : Prop := match B with
  | some (.mp _ es) => K (s.go dst ⟨.pt s.ctr 0 0, [(m, none), (s.ctr, some (.im es none))]⟩)
  | _ => False
def RgK (T : Ty) (t : TypeId) (s : St) (dst : Option Tmp) (K : St → Prop) (x : AX T t s dst K) : Prop := isMap T t = true ∧ match x with
  | .mc es => K (s.go dst ⟨.pt s.ctr 0 0, [(s.ctr, some (.im es none))]⟩)
  | .mv m => RgB s dst K m (s.sv m)
  | _ => False
def NxB (s : St) (dst : Option Tmp) (K : St → Prop) (m : Nat) (B : BX s dst K m) : Prop := match B with
  | some (.im rem _) => (rem.all fun e => plain e.1 && plain e.2) = true ∧ (rem = [] → K (s.go dst ⟨.tu [.sc (.bool false)], []⟩)) ∧
      ∀ kv rem', rem.Perm (kv :: rem') → K (s.go dst ⟨.tu [.sc (.bool true), .sc kv.1, .sc kv.2], [(m, some (.im rem' (some kv)))]⟩)
  | _ => False
def NxK (T : Ty) (t : TypeId) (s : St) (dst : Option Tmp) (K : St → Prop) (x : AX T t s dst K) : Prop := match x with
  | .pt m 0 0 => NxB s dst K m (s.sv m)
  | _ => False
def EnB (s : St) (dst : Option Tmp) (K : St → Prop) (m : Nat) (B : BX s dst K m) : Prop := match B with
  | some (.im _ (some kv)) => (plain kv.1 && plain kv.2) = true ∧ K (s.go dst ⟨.tu [.sc kv.1, .sc kv.2], []⟩)
  | _ => False
def EnK (T : Ty) (t : TypeId) (s : St) (dst : Option Tmp) (K : St → Prop) (x : AX T t s dst K) : Prop := match x with
  | .pt m 0 0 => EnB s dst K m (s.sv m)
  | _ => False
abbrev ST (_ : Program) (_ : Env) (_ _ : Nat) (_ : Oper) (_ : St → Prop) : Type := St
def step1 (P : Program) (E : Env) (id i : Nat) (o : Oper) (K : St → Prop) (s : ST P E id i o K) : Prop :=
  match o.op with
  | .call { callee := .value (.func h), args := xs, .. } =>
    AfterC P h (fun r => After (fun d => K (s.go o.dst d)) (callOut (E.md id i) s.ctr s.sv (xs.toList.map (opv s.tv)) r)) (argsOk s.sv (E.md id i) (xs.toList.map (opv s.tv)))
  | .range t x => RgK E.T t s o.dst K (opv s.tv x)
  | .next x false => NxK E.T 0 s o.dst K (opv s.tv x)
  | .entry x => EnK E.T 0 s o.dst K (opv s.tv x)
  | op => After (fun d => K (s.go o.dst d)) (aop E.T op o.type s.ctr s.tv s.sv)
def dstAt : List Oper → Nat → Option Tmp
  | [], _ => none
  | o :: _, 0 => o.dst
  | _ :: l, n + 1 => dstAt l n
def gq (l : List Oper) (s : St) (j : Nat) : AV := match dstAt l j with | some t => s.tv t | none => .no
abbrev SO (_ : Program) (_ : Env) (_ : Nat) (_ : List Oper) (_ : St → Prop) (_ : Nat) (_ : List Oper) : Type := St
def opsW (P : Program) (E : Env) (id : Nat) (all : List Oper) (K : St → Prop) : (i : Nat) → (l : List Oper) → SO P E id all K i l → Prop
  | _, [], s => K s
  | i, o :: l, s => match o.guard with
    | none => step1 P E id i o (opsW P E id all K (i + 1) l) s
    | some (j, w) => GK w (step1 P E id i o (opsW P E id all K (i + 1) l) s) (opsW P E id all K (i + 1) l (s.go o.dst ⟨.tu [], []⟩)) (gq all s j)

def names1 : AV → List Nat
  | .ow m _ _ | .pt m _ _ | .mv m => [m]
  | _ => []
def namesA : AV → List Nat
  | .ag cs => cs.flatMap names1
  | x => names1 x
def below (sv : Sv) (m : Nat) : List Nat := match sv m with
  | some (.bx cs) => m :: cs.flatMap names1
  | some (.it p _ _) => [p, m]
  | some (.sb _ _ _ _) => []
  | some _ => [m]
  | none => []
def dedup : List Nat → List Nat → List Nat
  | acc, [] => acc.reverse
  | acc, x :: r => bif acc.contains x then dedup acc r else dedup (x :: acc) r
def idx : List Nat → Nat → Nat → Option Nat
  | [], _, _ => none
  | x :: r, k, n => bif x == n then some k else idx r (k + 1) n
def rn1 (L : List Nat) : AV → AV
  | .ow m lo n => match idx L 1 m with | some k => .ow k lo n | none => .no
  | .pt m i j => match idx L 1 m with | some k => .pt k i j | none => .no
  | .mv m => match idx L 1 m with | some k => .mv k | none => .no
  | .ag _ | .tu _ => .no
  | x => x
def rnA (L : List Nat) : AV → AV
  | .ag cs => .ag (cs.map (rn1 L))
  | .tu [] => .tu []
  | x => rn1 L x
def rnB (L : List Nat) (sv : Sv) : Blk → Option Blk
  | .bx cs => some (.bx (cs.map (rn1 L)))
  | .ar z _ r => some (.ar z 0 r)
  | .fz z r => some (.fz z r)
  | .mp _ es => some (.mp 0 es)
  | .it p v seen => match sv p, idx L 1 p with
    | some (.mp v' _), some k => bif v == v' then some (.it k 0 seen) else none
    | _, _ => none
  | .im rem last => some (.im rem last)
  | .sb _ _ _ _ => none
def rnS (L : List Nat) (sv : Sv) : Nat → List Nat → Sto
  | _, [] => []
  | k, m :: r => match sv m with
    | some B => match rnB L sv B with | some C => (k, C) :: rnS L sv (k + 1) r | none => rnS L sv (k + 1) r
    | none => rnS L sv (k + 1) r
def reach (ks : List Nat) (s : St) : List Nat := dedup [] ((ks.flatMap fun t => (namesA (s.tv t)).flatMap fun m => (below s.sv m).flatMap (below s.sv)))
def normL (L ks : List Nat) (s : St) : St := ⟨ks.map fun t => (t, rnA L (s.tv t)), rnS L s.sv 1 L, L.length + 1⟩
def norm (ks : List Nat) (s : St) : St := normL (reach ks s) ks s

inductive Ex where
  | normal
  | exit (id : Nat)
  | ret
abbrev Po := Ex → St → Prop
def Po.then (K : St → Prop) (Q : Po) : Po
  | .normal, s => K s
  | e, s => Q e s
def Po.inBlock (id : Nat) (Q : Po) : Po
  | .exit id', s => if id' = id then Q .normal s else Q (.exit id') s
  | e, s => Q e s
def headId : Code → Nat
  | .region id _ _ => id
  | .seq x _ => headId x
  | .block _ c => headId c
  | _ => 0
def Lp (F : Po → St → Prop) (Q : Po) (s : St) : Prop := ∀ I : St → Prop, (∀ s, F (Po.then I Q) s → I s) → I s
def rts (sv : Sv) (m : Nat) : List Nat := m :: (match sv m with | some (.sb p _ _ _) => [p] | some (.it p _ _) => [p] | _ => [])
def supA (sv : Sv) (x : AV) : List Nat := (namesA x).flatMap fun m => rts sv m ++ (match sv m with | some (.bx cs) => cs.flatMap fun c => (names1 c).flatMap (rts sv) | _ => [])
structure Ac where
  rd : List Nat
  wn : List Nat
def depB (D : List (List Nat)) (i j : Nat) : Bool := (D.getD j []).contains i
def okPair (a b : Ac) : Bool := disjB a.wn b.rd && disjB a.wn b.wn && disjB b.wn a.rd
def chkTo (D : List (List Nat)) (b : Ac) (j : Nat) : Nat → List Ac → Bool
  | _, [] => true
  | i, a :: r => (depB D i j || okPair a b) && chkTo D b j (i + 1) r
def chkAll (D : List (List Nat)) (acs : List Ac) : Nat → List Ac → Bool
  | _, [] => true
  | j, b :: r => chkTo D b j 0 (acs.take j) && chkAll D acs (j + 1) r
def rdsO (o : Op) (s : St) : List Nat := match o with
  | .move _ => []
  | .fieldAddr _ _ _ => []
  | .nilCheck _ => []
  | .load _ x => (namesA (opv s.tv x)).flatMap (rts s.sv)
  | o => o.operands.toList.flatMap fun x => supA s.sv (opv s.tv x)
def rdsAll : Op → Bool
  | .move _ => false
  | .fieldAddr _ _ _ => false
  | .nilCheck _ => false
  | .load _ _ => false
  | _ => true
theorem rdsO_of {o : Op} {s : St} (h : rdsAll o = true) : rdsO o s = o.operands.toList.flatMap fun x => supA s.sv (opv s.tv x) := by
  cases o <;> first | rfl | cases h
abbrev SR (_ : Program) (_ : Env) (_ _ : Nat) (_ : Oper) (_ : Ac → St → Prop) : Type := St
def stepR (P : Program) (E : Env) (id i : Nat) (o : Oper) (K : Ac → St → Prop) (s : SR P E id i o K) : Prop :=
  match o.op with
  | .call { callee := .value (.func h), args := xs, .. } =>
    AfterC P h (fun r => After (fun d => K ⟨rdsO o.op s, d.upd.map (·.1)⟩ (s.go o.dst d)) (callOut (E.md id i) s.ctr s.sv (xs.toList.map (opv s.tv)) r)) (argsOk s.sv (E.md id i) (xs.toList.map (opv s.tv)))
  | op => After (fun d => K ⟨rdsO o.op s, d.upd.map (·.1)⟩ (s.go o.dst d)) (aop E.T op o.type s.ctr s.tv s.sv)
abbrev SD (_ : Program) (_ : Env) (_ : Nat) (_ : List (List Nat)) (_ : List Oper) (_ : St → Prop) (_ : Nat) (_ : List Oper) : Type := St
def drW (P : Program) (E : Env) (id : Nat) (D : List (List Nat)) (all : List Oper) (K : St → Prop) : (i : Nat) → (l : List Oper) → (acc : List Ac) → SD P E id D all K i l → Prop
  | _, [], acc, s => chkAll D acc.reverse 0 acc.reverse = true ∧ K s
  | i, o :: l, acc, s => match o.guard with
    | none => stepR P E id i o (fun ac => drW P E id D all K (i + 1) l (ac :: acc)) s
    | some (j, w) => GK w (stepR P E id i o (fun ac => drW P E id D all K (i + 1) l (ac :: acc)) s) (drW P E id D all K (i + 1) l (⟨[], []⟩ :: acc) (s.go o.dst ⟨.tu [], []⟩)) (gq all s j)
def tmpsO (all : List Oper) (o : Oper) : List Nat :=
  (o.op.operands.toList.filterMap fun | .tmp t => some t | _ => none) ++ (match o.guard with | some (j, _) => (dstAt all j).toList | none => [])
def dstL (o : Oper) : List Nat := o.dst.toList
def okDj (all : List Oper) (D : List (List Nat)) (j : Nat) (o : Oper) : Bool :=
  ((D.getD j []).all fun i => o.after.toList.any fun e => Region.binds .any e && (e.on == i || (D.getD e.on []).contains i)) &&
  (o.after.toList.all fun e => !Region.binds .any e || decide (e.on < j)) && ((D.getD j []).all fun i => decide (i < j)) &&
  ((List.range j).all fun i => depB D i j || (match all[i]? with | some p => disjB (dstL p) (tmpsO all o ++ dstL o) && disjB (dstL o) (tmpsO all p) | none => true))
def okD (all : List Oper) (D : List (List Nat)) : Bool := (List.range all.length).all fun j => match all[j]? with | some o => okDj all D j o | none => true
def drawW (P : Program) (E : Env) (id : Nat) (all : List Oper) (K : St → Prop) (s : St) : Prop := okD all (E.dp id) = true ∧ drW P E id (E.dp id) all K 0 all [] s
def Inv (w0 : World) (M R : Nat → Prop) (args : List Value) (N : Nat) (s : St) (a : Act) (w : World) : Prop :=
  ∃ γ φ, Sim w0 M R γ φ s.tv s.sv a w ∧ (∀ n, s.ctr ≤ n → γ n = none) ∧ (∀ (i : Nat) (v : Value), args[i]? = some v → a.tmps.getD i undef = v) ∧ a.tmps.size = N
def opDst (np N : Nat) (o : Oper) : Bool := match o.dst with | some t => decide (np ≤ t ∧ t < N) | none => true
def RegOk (P : Program) (id : Nat) (all : Array Oper) (s s' : St) : Prop :=
  ∀ (w0 : World) (M R : Nat → Prop) (args : List Value) (np N : Nat) (a : Act) (w : World), args.length ≤ np → (∀ o ∈ all.toList, opDst np N o = true) → Inv w0 M R args N s a w →
    (Code.region id all false).wp P (fun e a w => e = .normal ∧ Inv w0 M R args N s' a w) a w
abbrev BRK (_ : Program) (_ : Env) (_ : Nat) (_ : Array Oper) (_ : Po) (_ : St) : Type := Bool
def RK (P : Program) (E : Env) (id : Nat) (all : Array Oper) (Q : Po) (s : St) (q : BRK P E id all Q s) : Prop := match q with
  | false => opsW P E id all.toList (Q .normal) 0 all.toList (keep (E.kp id) (frz (E.fz id) s))
  | true => ∃ s', RegOk P id all (keep (E.kp id) (frz (E.fz id) s)) s' ∧ Q .normal s'
abbrev SS (_ : Program) (_ : Env) (_ : Code) (_ : Po) : Type := St
def aw (P : Program) (E : Env) : (c : Code) → (Q : Po) → SS P E c Q → Prop
  | .skip, Q, s => Q .normal s
  | .seq x y, Q, s => aw P E x (Po.then (aw P E y Q) Q) s
  | .cond (.tmp t) x y, Q, s => CK (aw P E x Q s) (aw P E y Q s) (s.tv t)
  | .block id c, Q, s => aw P E c (Q.inBlock id) s
  | .exit id, Q, s => Q (.exit id) s
  | .ret, Q, s => Q .ret s
  | .loop c, Q, s => Lp (fun Q s => aw P E c Q (norm (E.kp (headId c)) s)) Q s
  | .region id all false, Q, s => RK P E id all Q s (E.ex id)
  | .region id all true, Q, s => drawW P E id all.toList (Q .normal) (keep (E.kp id) (frz (E.fz id) s))
  | _, _, _ => False
def dstOk (np N : Nat) : Code → Bool
  | .skip | .exit _ | .ret => true
  | .seq x y | .cond _ x y => dstOk np N x && dstOk np N y
  | .block _ c | .loop c => dstOk np N c
  | .region _ all _ => all.toList.all (opDst np N)
  | _ => false
end Go.Proofs.YtkkmgjhfjhcdmaaGreatDoor.Mx

namespace Go.Proofs.YtkkmgjhfjhcdmaaGreatDoor.Mx
open Go Go.RowKit
section
variable {w0 : World} {M R : Nat → Prop} {P : Program} {E : Env} {args : List Value} {np N : Nat}
theorem put_size (a : Act) (d : Option Tmp) (v : Value) : (a.put d v).tmps.size = a.tmps.size := by cases d <;> simp [Act.put]
theorem put_args (ha : args.length ≤ np) {a : Act} {o : Oper} (hd : opDst np N o = true) (hs : a.tmps.size = N) (hg : ∀ (i : Nat) (v : Value), args[i]? = some v → a.tmps.getD i undef = v) (u : Value) :
    (∀ t, o.dst = some t → t < a.tmps.size) ∧ ∀ (i : Nat) (v : Value), args[i]? = some v → (a.put o.dst u).tmps.getD i undef = v := by
  have hlt : ∀ t, o.dst = some t → np ≤ t ∧ t < N := fun t ht => by
    unfold opDst at hd
    rw [ht] at hd
    simpa using hd
  refine ⟨fun t ht => by rw [hs]; exact (hlt t ht).2, fun i v hi => ?_⟩
  rw [put_getD a o.dst u (fun t ht => by rw [hs]; exact (hlt t ht).2), if_neg]
  · exact hg i v hi
  · intro ht
    have := (hlt i ht).1
    have := idx_lt hi
    omega
theorem go_tv (s : St) (dst : Option Tmp) (d : Dl) : (s.go dst d).tv = updT s.tv dst d.val := put_tv s dst d
theorem go_sv (s : St) (dst : Option Tmp) (d : Dl) : (s.go dst d).sv = syncF d.upd s.sv := put_sv s dst d
theorem step_put (ha : args.length ≤ np) {s : St} {a : Act} {o : Oper} (hd : opDst np N o = true) {γ : Gs} (hc : ∀ n, s.ctr ≤ n → γ n = none) (hg : ∀ (i : Nat) (v : Value), args[i]? = some v → a.tmps.getD i undef = v) (hs : a.tmps.size = N)
    {d : Dl} {v : Value} {w' : World} {γ' : Gs} {φ' : Fp} (h1 : ∀ n, ¬ (s.ctr ≤ n ∧ n < s.ctr + 256) → γ' n = γ n) (h2 : Sim w0 M R γ' φ' s.tv (syncF d.upd s.sv) a w') (h3 : RepV w' (okOf w0 M R φ' (syncF d.upd s.sv) w') γ' v d.val) :
    Inv w0 M R args N (s.go o.dst d) (a.put o.dst v) w' := by
  obtain ⟨p1, p2⟩ := put_args ha hd hs hg v
  refine ⟨γ', φ', ?_, fun n hn => ?_, p2, (put_size a _ _).trans hs⟩
  · rw [go_tv, go_sv]
    exact h2.put p1 h3
  · have hn : s.ctr + 256 ≤ n := hn
    rw [h1 n (by omega)]
    exact hc n (by omega)
theorem step1_ok (hT : TOk P E.T) (ha : args.length ≤ np) {id i : Nat} {o : Oper} {K : St → Prop} {s : St} {a : Act} {w : World} (h : step1 P E id i o K s) (hI : Inv w0 M R args N s a w) (hd : opDst np N o = true) {next : Act → World → Prop} {Q : Exit → Act → World → Prop}
    (hK : ∀ s a w, K s → Inv w0 M R args N s a w → next a w) : o.wp P a w next Q := by
  obtain ⟨γ, φ, hS, hc, hg, hs⟩ := hI
  have hf : Fresh γ s.ctr := fun n h1 _ => hc n h1
  unfold step1 at h
  split at h
  · rename_i f xs ats ho
    obtain ⟨l, r, hl, hm, d, hd', hK'⟩ := h
    exact callOp_ok hS hf ho hl hm hd' next Q fun v w' γ' φ' h1 h2 h3 => hK _ _ _ hK' (step_put ha hd hc hg hs h1 h2 h3)
  · rename_i t x ho
    have he : execOp a.eval o = (do pure (.value (← Instr.range t (a.eval x)))) := by unfold execOp; rw [ho]
    have hm := h.1
    obtain ⟨kt, et, hu⟩ : ∃ kt et, P.underlying t = some (.map kt et) := by
      unfold isMap at hm
      split at hm
      · rename_i ti hti
        split at hm
        · rename_i kt et hk
          have := (hT _ _ hti).kd
          rw [hk] at this
          exact ⟨kt, et, this⟩
        · cases hm
      · cases hm
    have hv := opv_ok hS x
    have h := h.2
    revert h hv
    generalize opv s.tv x = y
    intro hv h
    cases y <;> try (exact h.elim)
    · rename_i m
      change RgB _ _ _ _ _ at h
      unfold RgB at h
      split at h
      · rename_i ver es hb
        refine OpStep.of_res ?_ next Q fun v w' γ' φ' h1 h2 h3 => hK _ _ _ h (step_put ha hd hc hg hs h1 h2 h3)
        rw [he]
        exact range_mv hS hf hu hb hv
      · exact h.elim
    · refine OpStep.of_res ?_ next Q fun v w' γ' φ' h1 h2 h3 => hK _ _ _ h (step_put ha hd hc hg hs h1 h2 h3)
      rw [he]
      exact range_ok hS hf hu hv
  · rename_i x ho
    have he : execOp a.eval o = (do pure (.value (← Instr.next (a.eval x) false o.type))) := by unfold execOp; rw [ho]
    have hv := opv_ok hS x
    revert h hv
    generalize opv s.tv x = y
    intro h hv
    unfold NxK at h
    split at h
    · rename_i m
      unfold NxB at h
      split at h
      · rename_i rem last hb
        obtain ⟨hp, hA, hB⟩ := h
        rcases next_ok (b := s.ctr) hS hb hv (ty := o.type) with ⟨hr, hres⟩ | ⟨kv, rem', hr, hres⟩
        · rw [← he] at hres
          exact OpStep.of_res hres next Q fun v w' γ' φ' h1 h2 h3 => hK _ _ _ (hA hr) (step_put ha hd hc hg hs h1 h2 h3)
        · have := List.all_eq_true.1 hp kv (hr.mem_iff.2 (List.mem_cons_self ..))
          rw [Bool.and_eq_true] at this
          have hres := hres this.1 this.2
          rw [← he] at hres
          exact OpStep.of_res hres next Q fun v w' γ' φ' h1 h2 h3 => hK _ _ _ (hB kv rem' hr) (step_put ha hd hc hg hs h1 h2 h3)
      · exact h.elim
    · exact h.elim
  · rename_i x ho
    have he : execOp a.eval o = (do pure (.value (← Instr.entry (a.eval x)))) := by unfold execOp; rw [ho]
    have hv := opv_ok hS x
    revert h hv
    generalize opv s.tv x = y
    intro h hv
    unfold EnK at h
    split at h
    · rename_i m
      unfold EnB at h
      split at h
      · rename_i rem kv hb
        obtain ⟨hp, hA⟩ := h
        rw [Bool.and_eq_true] at hp
        have hres := entry_ok (P := P) (b := s.ctr) hS hb hv hp.1 hp.2
        rw [← he] at hres
        exact OpStep.of_res hres next Q fun v w' γ' φ' h1 h2 h3 => hK _ _ _ hA (step_put ha hd hc hg hs h1 h2 h3)
      · exact h.elim
    · exact h.elim
  · obtain ⟨d, hd', hK'⟩ := h
    exact OpStep.of_res (aop_ok hT hS hf hd') next Q fun v w' γ' φ' h1 h2 h3 => hK _ _ _ hK' (step_put ha hd hc hg hs h1 h2 h3)
theorem dstAt_eq (l : List Oper) (j : Nat) : (l[j]?).bind (·.dst) = dstAt l j := by
  induction l generalizing j with
  | nil => simp [dstAt]
  | cons o l ih => cases j with
    | zero => simp [dstAt]
    | succ j => simpa [dstAt] using ih j
theorem gq_ok {all : Array Oper} {s : St} {a : Act} {w : World} (hI : Inv w0 M R args N s a w) (j : Nat) : (∀ q, gq all.toList s j = .sc (.bool q) → yielded all a.tmps j = some q) ∧ (gq all.toList s j = .tu [] → yielded all a.tmps j = none) := by
  obtain ⟨γ, φ, hS, _⟩ := hI
  have hd : (all[j]?).bind (·.dst) = dstAt all.toList j := by rw [← dstAt_eq]; simp
  unfold gq yielded
  rw [hd]
  cases dstAt all.toList j with
  | none => exact ⟨fun q h => by simp at h, fun h => by simp at h⟩
  | some t =>
    have ht := hS.tm t
    refine ⟨fun q h => ?_, fun h => ?_⟩
    · simp only at h
      rw [h] at ht
      obtain ⟨e, _⟩ := rep_sc ht
      have : a.tmps[t]? = some (.bool q) := by
        rw [Array.getD_eq_getD_getElem?] at e
        cases hh : a.tmps[t]? with
        | none => rw [hh] at e; simp [undef] at e
        | some u => rw [hh] at e; simp at e; rw [e]
      simp [this]
    · simp only at h
      rw [h] at ht
      obtain ⟨vs, e, hl, _⟩ := ht
      have hvs : vs = [] := List.eq_nil_of_length_eq_zero (by simpa using hl)
      subst hvs
      rw [Array.getD_eq_getD_getElem?] at e
      cases hh : a.tmps[t]? with
      | none => simp [hh]
      | some u => rw [hh] at e; simp at e; subst e; simp [hh]
theorem skip_ok (ha : args.length ≤ np) {s : St} {a : Act} {w : World} {o : Oper} (hI : Inv w0 M R args N s a w) (hd : opDst np N o = true) : Inv w0 M R args N (s.go o.dst ⟨.tu [], []⟩) (a.put o.dst undef) w := by
  obtain ⟨γ, φ, hS, hc, hg, hs⟩ := hI
  exact step_put ha hd hc hg hs (fun _ _ => rfl) hS ⟨[], rfl, rfl, fun j v x hv => by simp at hv⟩
theorem opsW_ok (hT : TOk P E.T) (ha : args.length ≤ np) {id : Nat} {all : Array Oper} {K : St → Prop} {Q : Exit → Act → World → Prop} (hK : ∀ s a w, K s → Inv w0 M R args N s a w → Q .normal a w) :
    ∀ (l : List Oper) (i : Nat) (s : St) (a : Act) (w : World), all.toList.drop i = l → (∀ o ∈ l, opDst np N o = true) → opsW P E id all.toList K i l s → Inv w0 M R args N s a w → wpOps P all Q (List.range' i l.length) a w
  | [], i, s, a, w, _, _, h, hI => hK s a w h hI
  | o :: l, i, s, a, w, hl, hd, h, hI => by
    have hi : all[i]? = some o := by
      have : all.toList[i]? = some o := by
        have h2 := congrArg (fun q => q[0]?) hl
        simpa using h2
      simpa using this
    have hl' : all.toList.drop (i + 1) = l := by
      have h2 := congrArg List.tail hl
      simpa using h2
    have hdo := hd o (by simp)
    have ih := opsW_ok (id := id) (all := all) hT ha hK l (i + 1)
    have hd' : ∀ o ∈ l, opDst np N o = true := fun o ho => hd o (List.mem_cons_of_mem _ ho)
    rw [List.length_cons, List.range'_succ]
    simp only [wpOps, hi]
    have run : ∀ s a w, step1 P E id i o (opsW P E id all.toList K (i + 1) l) s → Inv w0 M R args N s a w → o.wp P a w (wpOps P all Q (List.range' (i + 1) l.length)) Q := fun s a w h hI => step1_ok hT ha h hI hdo fun s a w hk hI => ih s a w hl' hd' hk hI
    simp only [opsW] at h
    cases hgd : o.guard with
    | none =>
      rw [hgd] at h
      rw [if_pos (by simp [Region.wanted, hgd])]
      exact .inl (run s a w h hI)
    | some jw =>
      obtain ⟨j, wt⟩ := jw
      rw [hgd] at h
      simp only at h
      obtain ⟨g1, g2⟩ := gq_ok (all := all) hI j
      have no : opsW P E id all.toList K (i + 1) l (s.go o.dst ⟨.tu [], []⟩) → wpOps P all Q (List.range' (i + 1) l.length) (a.put o.dst undef) w := fun h => ih _ _ _ hl' hd' h (skip_ok ha hI hdo)
      unfold GK at h
      split at h
      · rename_i q hq
        have hy := g1 q hq
        unfold Br at h
        split at h
        · rename_i hqw
          have hqw : q = wt := by simpa using hqw
          rw [if_pos (by simp [Region.wanted, hgd, hy, hqw])]
          exact .inl (run s a w h hI)
        · rename_i hqw
          rw [if_neg (by simp [Region.wanted, hgd, hy]; simpa using hqw)]
          exact no h
      · rename_i hq
        have hy := g2 hq
        rw [if_neg (by simp [Region.wanted, hgd, hy])]
        exact no h
      · exact h.elim
theorem sget_mem : ∀ {s : Sto} {m : Nat} {B : Blk}, sget s m = some B → (m, B) ∈ s
  | [], m, B, h => by cases h
  | (k, C) :: r, m, B, h => by
    rw [sget] at h
    cases hk : k == m with
    | true =>
      rw [hk, cond_true] at h
      cases h
      rw [beq_iff_eq] at hk
      subst hk
      exact List.mem_cons_self ..
    | false => rw [hk, cond_false] at h; exact List.mem_cons_of_mem _ (sget_mem h)
theorem nest_no {rp : List Row} {i j i' j' z : Nat} {r : List Row} (h : nest (rp.set i ((rp.getD i []).set j .no)) i' j' = some (z, r)) : nest rp i' j' = some (z, r) := by
  unfold nest at h ⊢
  rw [List.getElem?_set] at h
  by_cases hi : i = i'
  · subst hi
    rw [if_pos rfl] at h
    by_cases hl : i < rp.length
    · rw [if_pos hl] at h
      rw [List.getD_eq_getElem?_getD, List.getElem?_eq_getElem hl, Option.getD_some] at h
      rw [List.getElem?_eq_getElem hl]
      simp only at h ⊢
      rw [List.getElem?_set] at h
      by_cases hj : j = j'
      · subst hj
        rw [if_pos rfl] at h
        by_cases hjl : j < (rp[i]).length
        · rw [if_pos hjl] at h; simp at h
        · rw [if_neg hjl] at h; simp at h
      · rw [if_neg hj] at h; exact h
    · rw [if_neg hl] at h; simp at h
  · rw [if_neg hi] at h; exact h
theorem unn1_ok {m : Nat} {s : St} {a : Act} {w : World} (hI : Inv w0 M R args N s a w) : Inv w0 M R args N (unn1 s m) a w := by
  unfold unn1
  split
  · rename_i p i j v hm
    split
    · rename_i zp v' rp hp
      split
      · rename_i z r hn
        cases hc : (v == v' && s.sto.all fun e => notSb m e.2) with
        | false => exact hI
        | true =>
          rw [cond_true]
          rw [Bool.and_eq_true] at hc
          obtain ⟨hv, hall⟩ := hc
          have hv : v = v' := beq_iff_eq.1 hv
          subst hv
          obtain ⟨γ, φ, h, h1, h2, h3⟩ := hI
          have hm : s.sv m = some (.sb p i j v) := hm
          have hp : s.sv p = some (.ar zp v rp) := hp
          have hkid : ∀ k i' j' v', s.sv k ≠ some (.sb m i' j' v') := fun k i' j' v' e => by
            have := List.all_eq_true.1 hall _ (sget_mem e)
            simp [notSb] at this
          obtain ⟨_, _, hh⟩ := h.bk m _ hm
          obtain ⟨u0, b', off', len', cap', q1, q2, q3⟩ := (hh zp v rp hp).2 rfl z r hn
          obtain ⟨v0, k1, k2⟩ := h.bk p _ hp
          rw [k1] at q2
          cases q2
          obtain ⟨b1, off1, cap1, G, u, e1, e2, e3, e4, e5, e6⟩ := own_cell k2 hn
          cases e1
          rw [q3] at e2
          cases e2
          have hlp := blk_live hp
          have hmp : m ≠ p := by rintro rfl; rw [hm] at hp; cases hp
          have hsv : sget (supd (supd s.sto p (some (.ar zp v (rp.set i ((rp.getD i []).set j .no))))) m (some (.ar z 0 r))) = updS (updS s.sv p (some (.ar zp v (rp.set i ((rp.getD i []).set j .no))))) m (some (.ar z 0 r)) := by
            rw [sget_supd, sget_supd]; rfl
          refine ⟨γ, fun k => if k = m then G else if k = p then (fun c => φ p c ∧ ¬ G c) else φ k, ?_, h1, h2, h3⟩
          show Sim _ _ _ _ _ s.tv (sget (supd (supd s.sto p (some (.ar zp v (rp.set i ((rp.getD i []).set j .no))))) m (some (.ar z 0 r)))) _ _
          rw [hsv]
          generalize hsv' : updS (updS s.sv p (some (.ar zp v (rp.set i ((rp.getD i []).set j .no))))) m (some (.ar z 0 r)) = sv'
          have sm : sv' m = some (.ar z 0 r) := by rw [← hsv']; exact upd_self
          have sp : sv' p = some (.ar zp v (rp.set i ((rp.getD i []).set j .no))) := by rw [← hsv', upd_ne hmp]; exact upd_self
          have so : ∀ k, k ≠ m → k ≠ p → sv' k = s.sv k := fun k h1 h2 => by rw [← hsv', upd_ne (Ne.symm h1), upd_ne (Ne.symm h2)]
          refine (h.step (γ' := γ) (φ' := fun k => if k = m then G else if k = p then (fun c => φ p c ∧ ¬ G c) else φ k) (sv' := sv') (w' := w) (fun k => k = m ∨ k = p) (fun _ _ h => h)
            (fun k hk => ⟨so k (fun e => hk (.inl e)) (fun e => hk (.inr e)), by show (if _ then _ else _) = _; rw [if_neg (fun e => hk (.inl e)), if_neg (fun e => hk (.inr e))]⟩)
            h.fr (Kp.refl w) (Nat.le_refl _) (fun _ _ _ => rfl)
            (fun k c hk hl hc => by
              rcases hk with rfl | rfl
              · simp only [if_true] at hc
                exact ⟨(h.nw p c hlp (e4 c hc).1).1, .inr ⟨p, .inr rfl, hlp, (e4 c hc).1⟩⟩
              · simp only [if_neg (Ne.symm hmp), if_true] at hc
                exact ⟨(h.nw _ c hlp hc.1).1, .inr ⟨_, .inr rfl, hlp, hc.1⟩⟩)
            (fun k k' hk hk' hl hl' hne c hc hc' => by
              rcases hk with rfl | rfl <;> rcases hk' with rfl | rfl
              · exact hne rfl
              · simp only [if_true] at hc; simp only [if_neg (Ne.symm hmp), if_true] at hc'; exact hc'.2 hc
              · simp only [if_neg (Ne.symm hmp), if_true] at hc; simp only [if_true] at hc'; exact hc.2 hc'
              · exact hne rfl)
            (fun k p' i' j' v'' hk hs hp' => by
              obtain ⟨a0, a1, a2⟩ := h.bk k _ hs
              rcases hp' with rfl | rfl
              · exact (hkid k i' j' v'' hs).elim
              · refine ⟨a0, a1, fun zp' v3 rp' hh' => ?_⟩
                rw [sp] at hh'
                cases hh'
                exact ⟨(a2 zp v rp hp).1, fun e z2 r2 hn2 => (a2 zp v rp hp).2 e z2 r2 (nest_no hn2)⟩)
            (fun k p' v'' seen hk hs hp' => by
              obtain ⟨a0, b2, born, last, a1, a2, _⟩ := h.bk k _ hs
              refine ⟨a0, b2, born, last, a1, by show (if k = m then G else if k = p then (fun c => φ p c ∧ ¬ G c) else φ k) b2; rw [if_neg (fun e => hk (.inl e)), if_neg (fun e => hk (.inr e))]; exact a2, fun v3 es hh' => ?_⟩
              rcases hp' with rfl | rfl
              · rw [sm] at hh'; cases hh'
              · rw [sp] at hh'; cases hh')
            (fun hok k B' hk hB' => by
              rcases hk with rfl | rfl
              · rw [sm] at hB'
                cases hB'
                refine ⟨_, q1, ?_⟩
                simp only [if_true]
                exact e3.mono (fun c hc => hok c hc) _ fun c hc => ⟨hc, rfl⟩
              · rw [sp] at hB'
                cases hB'
                refine ⟨_, k1, ?_⟩
                simp only [if_neg (Ne.symm hmp), if_true]
                refine (e6 w _ (fun _ => False) .no (fun _ h => h.elim) (fun c hc hG => rfl) hok (own_of_rep rfl (.no _))).mono (fun c hc => ⟨hc, rfl⟩) _ fun c hc => ⟨⟨hc.1, fun hG => (hc.2 hG).elim⟩, rfl⟩)).1
      · exact hI
    · exact hI
  · exact hI
theorem unnL_ok {a : Act} {w : World} : ∀ (cs : Row) {s : St}, Inv w0 M R args N s a w → Inv w0 M R args N (unnL cs s) a w
  | [], _, h => h
  | x :: r, s, h => by
    cases x with
    | ow m lo n => exact unnL_ok r (unn1_ok h)
    | _ => exact unnL_ok r h
theorem frz1_ok {t : Nat} {s : St} {a : Act} {w : World} (hI : Inv w0 M R args N s a w) : Inv w0 M R args N (frz1 s t) a w := by
  obtain ⟨γ, φ, hS, h1, h2, h3⟩ := hI
  unfold frz1
  split
  · rename_i m lo n ht
    split
    · rename_i z v rows hm
      have hm : s.sv m = some (.ar z v rows) := hm
      obtain ⟨v0, hg, ho⟩ := hS.bk m _ hm
      have hl : live s.sv m := by unfold live; rw [hm]; rfl
      have hsv : sget (supd s.sto m (some (.fz z rows))) = updS s.sv m (some (.fz z rows)) := sget_supd _ _ _
      refine ⟨γ, fun k b => k ≠ m ∧ φ k b, ?_, h1, h2, h3⟩
      show Sim _ _ _ _ _ s.tv (sget (supd s.sto m (some (.fz z rows)))) _ _
      rw [hsv]
      refine (hS.step (fun k => k = m) (φ' := fun k b => k ≠ m ∧ φ k b) (fun _ _ h => h) (fun k hk => ⟨upd_ne (Ne.symm hk), by funext b; exact propext ⟨fun h => h.2, fun h => ⟨hk, h⟩⟩⟩) hS.fr (Kp.refl w) (Nat.le_refl _) (fun _ _ _ => rfl) ?_ ?_ ?_ ?_ ?_).1
      · rintro k b rfl _ hb; exact (hb.1 rfl).elim
      · rintro k n rfl rfl _ _ hne; exact (hne rfl).elim
      · intro k p i j v hk hs hp
        exact ⟨(hS.bk k _ hs).1, (hS.bk k _ hs).2.1, fun zp v' rp hh => by subst hp; have hh : updS s.sv p (some (Blk.fz z rows)) p = _ := hh; rw [upd_self] at hh; cases hh⟩
      · intro k p v seen hk hs hp
        obtain ⟨h0, b2, born2, last2, g1, g2, g3⟩ := hS.bk k _ hs
        exact ⟨h0, b2, born2, last2, g1, ⟨hk, g2⟩, fun v' es' hh => by subst hp; have hh : updS s.sv p (some (Blk.fz z rows)) p = _ := hh; rw [upd_self] at hh; cases hh⟩
      · rintro hok k B rfl hB
        rw [upd_self] at hB
        cases hB
        refine ⟨v0, hg, (Own.rep (ok' := okOf w0 M R (fun k' b => k' ≠ k ∧ φ k' b) (updS s.sv k (some (.fz z rows))) w) (fun b hb => (hok b hb).1) ho fun b hb => ?_).flag⟩
        refine ⟨(hS.nw k b hl hb).1, .inr (hS.nw k b hl hb).2, fun n' hn' hb' => ?_⟩
        have hn2 : live s.sv n' := by unfold live at hn' ⊢; rwa [upd_ne (Ne.symm hb'.1)] at hn'
        exact hS.dj k n' hl hn2 (Ne.symm hb'.1) b hb hb'.2
    · exact ⟨γ, φ, hS, h1, h2, h3⟩
  · split
    · exact unnL_ok _ ⟨γ, φ, hS, h1, h2, h3⟩
    · exact ⟨γ, φ, hS, h1, h2, h3⟩
  · exact ⟨γ, φ, hS, h1, h2, h3⟩
theorem frz_ok {a : Act} {w : World} : ∀ {ts : List Nat} {s : St}, Inv w0 M R args N s a w → Inv w0 M R args N (frz ts s) a w
  | [], _, h => h
  | t :: r, s, h => frz_ok (ts := r) (s := frz1 s t) (frz1_ok h)
theorem keep_ok {ks : List Nat} {s : St} {a : Act} {w : World} (hI : Inv w0 M R args N s a w) : Inv w0 M R args N (keep ks s) a w := by
  obtain ⟨γ, φ, hS, h1, h2, h3⟩ := hI
  refine ⟨γ, φ, ⟨hS.fr, hS.cl, hS.df, hS.dj, hS.nw, fun t => ?_, hS.bk⟩, h1, h2, h3⟩
  have : ∀ ks : List Nat, tget (ks.map fun t => (t, tget s.tm t)) t = tget s.tm t ∨ tget (ks.map fun t => (t, tget s.tm t)) t = .no := by
    intro ks
    induction ks with
    | nil => exact .inr rfl
    | cons k ks ih =>
      simp only [List.map_cons, tget, cond_eq_ite, beq_iff_eq]
      by_cases hk : k = t
      · rw [if_pos hk, hk]; exact .inl rfl
      · rw [if_neg hk]; exact ih
  rcases this ks with h | h
  · show RepV _ _ _ _ (tget _ t)
    rw [keep, h]
    exact hS.tm t
  · show RepV _ _ _ _ (tget _ t)
    rw [keep, h]
    exact Rep.no _
end
end Go.Proofs.YtkkmgjhfjhcdmaaGreatDoor.Mx

namespace Go.Proofs.YtkkmgjhfjhcdmaaGreatDoor.Mx
open Go Go.RowKit
section
variable {w0 : World} {M R : Nat → Prop} {P : Program} {E : Env} {args : List Value} {np N : Nat}
theorem dedup_nd : ∀ (l acc : List Nat), acc.Nodup → (dedup acc l).Nodup
  | [], acc, h => by
    have : ∀ (l : List Nat), l.Nodup → l.reverse.Nodup := fun l h => by
      induction l with
      | nil => exact h
      | cons x r ih =>
        rw [List.nodup_cons] at h
        rw [List.reverse_cons, List.nodup_append]
        refine ⟨ih h.2, by simp, fun a ha b hb => ?_⟩
        simp at ha hb
        subst hb
        rintro rfl
        exact h.1 ha
    exact this acc h
  | x :: r, acc, h => by
    simp only [dedup, cond_eq_ite]
    split
    · exact dedup_nd r acc h
    · rename_i hx
      refine dedup_nd r _ (List.nodup_cons.2 ⟨by simpa using hx, h⟩)
theorem idx_some : ∀ (L : List Nat) (k m n : Nat), idx L k m = some n → k ≤ n ∧ n < k + L.length ∧ L.getD (n - k) 0 = m
  | [], k, m, n, h => by simp [idx] at h
  | x :: r, k, m, n, h => by
    simp only [idx, cond_eq_ite, beq_iff_eq] at h
    split at h
    · rename_i hx
      cases h
      exact ⟨Nat.le_refl _, by simp, by simp [hx]⟩
    · obtain ⟨h1, h2, h3⟩ := idx_some r (k + 1) m n h
      refine ⟨by omega, by simp only [List.length_cons]; omega, ?_⟩
      rw [show n - k = (n - (k + 1)) + 1 by omega]
      simpa using h3
theorem rnS_get (L : List Nat) (sv : Sv) (n : Nat) : ∀ (L' : List Nat) (k : Nat), sget (rnS L sv k L') n = if k ≤ n ∧ n < k + L'.length then (sv (L'.getD (n - k) 0)).bind (rnB L sv) else none
  | [], k => by
    rw [if_neg (by simp only [List.length_nil]; omega)]
    rfl
  | m :: r, k => by
    have ih := rnS_get L sv n r (k + 1)
    have hsame : k ≠ n → (if k + 1 ≤ n ∧ n < k + 1 + r.length then (sv (r.getD (n - (k + 1)) 0)).bind (rnB L sv) else none) = if k ≤ n ∧ n < k + (m :: r).length then (sv ((m :: r).getD (n - k) 0)).bind (rnB L sv) else none := fun hne => by
      by_cases h : k ≤ n ∧ n < k + (m :: r).length
      · simp only [List.length_cons] at h
        rw [if_pos (by omega), if_pos (by simp only [List.length_cons]; omega), show n - k = (n - (k + 1)) + 1 by omega]
        simp
      · simp only [List.length_cons] at h
        rw [if_neg (by omega), if_neg (by simp only [List.length_cons]; omega)]
    have hhere : k = n → (if k + 1 ≤ n ∧ n < k + 1 + r.length then (sv (r.getD (n - (k + 1)) 0)).bind (rnB L sv) else none) = none := fun e => by rw [if_neg (by omega)]
    simp only [rnS]
    cases hm : sv m with
    | none =>
      simp only []
      rw [ih]
      by_cases hk : k = n
      · rw [hhere hk, if_pos (by simp only [List.length_cons]; omega), hk]; simp [hm]
      · exact hsame hk
    | some B =>
      simp only []
      cases hB : rnB L sv B with
      | none =>
        simp only []
        rw [ih]
        by_cases hk : k = n
        · rw [hhere hk, if_pos (by simp only [List.length_cons]; omega), hk]; simp [hm, hB]
        · exact hsame hk
      | some C =>
        simp only [sget, cond_eq_ite, beq_iff_eq]
        by_cases hk : k = n
        · rw [if_pos hk, if_pos (by simp only [List.length_cons]; omega), hk]; simp [hm, hB]
        · rw [if_neg hk, ih]; exact hsame hk
def γL (L : List Nat) (γ : Gs) : Gs := fun n => if 1 ≤ n ∧ n < 1 + L.length then γ (L.getD (n - 1) 0) else none
def φL (L : List Nat) (φ : Fp) : Fp := fun n b => (1 ≤ n ∧ n < 1 + L.length) ∧ φ (L.getD (n - 1) 0) b
theorem γL_idx {L : List Nat} {γ : Gs} {m k : Nat} (h : idx L 1 m = some k) : γL L γ k = γ m := by
  obtain ⟨h1, h2, h3⟩ := idx_some L 1 m k h
  unfold γL
  rw [if_pos ⟨h1, h2⟩, h3]
theorem rn1_ok {L : List Nat} {w : World} {ok ok' : Nat → Prop} {γ : Gs} {v : Value} {x : AV} (hok : ∀ b, ok b → ok' b) (h : RepC w ok γ v x) : RepC w ok' (γL L γ) v (rn1 L x) := by
  have up : ∀ {x}, Rep w ok v x → Rep w ok' v x := fun r => r.mono fun b hb => ⟨hok b hb, rfl⟩
  cases x with
  | ow m lo n =>
    simp only [rn1]
    cases hi : idx L 1 m with
    | none => exact Rep.no _
    | some k => obtain ⟨v0, z, h1, h2⟩ := h; exact ⟨v0, z, (γL_idx hi).trans h1, h2⟩
  | pt m i j =>
    simp only [rn1]
    cases hi : idx L 1 m with
    | none => exact Rep.no _
    | some k => obtain ⟨v0, z, h1, h2⟩ := h; exact ⟨v0, z, (γL_idx hi).trans h1, h2⟩
  | mv m =>
    simp only [rn1]
    cases hi : idx L 1 m with
    | none => exact Rep.no _
    | some k => obtain ⟨r, z, h1, h2⟩ := h; exact ⟨r, z, h1, (γL_idx hi).trans h2⟩
  | ag cs => exact h.elim
  | tu cs => exact h.elim
  | _ => exact up h
theorem rnA_ok {L : List Nat} {w : World} {ok ok' : Nat → Prop} {γ : Gs} {v : Value} {x : AV} (hok : ∀ b, ok b → ok' b) (h : RepV w ok γ v x) : RepV w ok' (γL L γ) v (rnA L x) := by
  have small : ∀ y, rnA L y = rn1 L y → (∀ cs, rn1 L y ≠ .ag cs) → (∀ cs, rn1 L y ≠ .tu cs) → RepC w ok γ v y → RepV w ok' (γL L γ) v (rnA L y) := by
    intro y h1 h2 h3 hc
    have := rn1_ok (L := L) hok hc
    rw [h1]
    revert this h2 h3
    generalize rn1 L y = q
    intro h2 h3 this
    cases q <;> first | exact this | exact (h2 _ rfl).elim | exact (h3 _ rfl).elim
  cases x with
  | ag cs =>
    obtain ⟨vs, rfl, hl, hr⟩ := h
    refine ⟨vs, rfl, by rw [List.length_map]; exact hl, fun j u y hu hy => ?_⟩
    simp only [List.getElem?_map, Option.map_eq_some_iff] at hy
    obtain ⟨x, hx, rfl⟩ := hy
    exact ⟨rn1_ok hok (hr j u x hu hx).1, (hr j u x hu hx).2⟩
  | tu cs =>
    cases cs with
    | nil => obtain ⟨vs, rfl, hl, _⟩ := h; exact ⟨vs, rfl, hl, fun j u y hu hy => by simp at hy⟩
    | cons => exact Rep.no _
  | ow m lo n => exact small _ rfl (fun cs h => by simp only [rn1] at h; split at h <;> cases h) (fun cs h => by simp only [rn1] at h; split at h <;> cases h) h
  | pt m lo n => exact small _ rfl (fun cs h => by simp only [rn1] at h; split at h <;> cases h) (fun cs h => by simp only [rn1] at h; split at h <;> cases h) h
  | mv m => exact small _ rfl (fun cs h => by simp only [rn1] at h; split at h <;> cases h) (fun cs h => by simp only [rn1] at h; split at h <;> cases h) h
  | _ => exact small _ rfl (fun cs h => by simp [rn1] at h) (fun cs h => by simp [rn1] at h) h
theorem normL_ok {L ks : List Nat} (hL : L.Nodup) {s : St} {a : Act} {w : World} (hI : Inv w0 M R args N s a w) : Inv w0 M R args N (normL L ks s) a w := by
  obtain ⟨γ, φ, hS, hc, hg, hs⟩ := hI
  have hsv : ∀ n, (normL L ks s).sv n = if 1 ≤ n ∧ n < 1 + L.length then (s.sv (L.getD (n - 1) 0)).bind (rnB L s.sv) else none := fun n => rnS_get L s.sv n L 1
  have lv : ∀ n, live (normL L ks s).sv n → (1 ≤ n ∧ n < 1 + L.length) ∧ live s.sv (L.getD (n - 1) 0) := fun n hl => by
    unfold live at hl
    rw [hsv] at hl
    split at hl
    · rename_i hn
      refine ⟨hn, ?_⟩
      unfold live
      cases hh : s.sv (L.getD (n - 1) 0) with
      | none => rw [hh] at hl; simp at hl
      | some B => rfl
    · simp at hl
  have inj : ∀ m n, (1 ≤ m ∧ m < 1 + L.length) → (1 ≤ n ∧ n < 1 + L.length) → L.getD (m - 1) 0 = L.getD (n - 1) 0 → m = n := fun m n hm hn he => by
    have h1 : m - 1 < L.length := by omega
    have h2 : n - 1 < L.length := by omega
    rw [List.getD_eq_getElem?_getD, List.getD_eq_getElem?_getD, List.getElem?_eq_getElem h1, List.getElem?_eq_getElem h2] at he
    simp only [Option.getD_some] at he
    rcases Nat.lt_trichotomy (m - 1) (n - 1) with h | h | h
    · exact ((List.pairwise_iff_getElem.1 hL _ _ h1 h2 h) he).elim
    · omega
    · exact ((List.pairwise_iff_getElem.1 hL _ _ h2 h1 h) he.symm).elim
  have hok : ∀ b, okOf w0 M R φ s.sv w b → okOf w0 M R (φL L φ) (normL L ks s).sv w b := fun b hb => ⟨hb.1, hb.2.1, fun n hl hn => hb.2.2 _ (lv n hl).2 hn.2⟩
  refine ⟨γL L γ, φL L φ, ⟨hS.fr, hS.cl, hS.df, ?_, ?_, ?_, ?_⟩, ?_, hg, hs⟩
  · intro m n hm hn hne b hb hb'
    exact hS.dj _ _ (lv m hm).2 (lv n hn).2 (fun e => hne (inj m n (lv m hm).1 (lv n hn).1 e)) b hb.2 hb'.2
  · intro m b hm hb
    exact hS.nw _ b (lv m hm).2 hb.2
  · intro t
    have : ∀ ks : List Nat, tget (ks.map fun t => (t, rnA L (s.tv t))) t = rnA L (s.tv t) ∨ tget (ks.map fun t => (t, rnA L (s.tv t))) t = .no := by
      intro ks
      induction ks with
      | nil => exact .inr rfl
      | cons k ks ih =>
        simp only [List.map_cons, tget, cond_eq_ite, beq_iff_eq]
        by_cases hk : k = t
        · rw [if_pos hk, hk]; exact .inl rfl
        · rw [if_neg hk]; exact ih
    show RepV _ _ _ _ (tget _ t)
    rcases this ks with h | h
    · simp only [normL]
      rw [h]
      exact rnA_ok hok (hS.tm t)
    · simp only [normL]
      rw [h]
      exact Rep.no _
  · intro n C hC
    rw [hsv] at hC
    split at hC
    · rename_i hn
      have gn : γL L γ n = γ (L.getD (n - 1) 0) := by unfold γL; rw [if_pos hn]
      have pn : ∀ b, φ (L.getD (n - 1) 0) b → φL L φ n b := fun b hb => ⟨hn, hb⟩
      cases hB : s.sv (L.getD (n - 1) 0) with
      | none => rw [hB] at hC; simp at hC
      | some B =>
        rw [hB] at hC
        simp only [Option.bind_some] at hC
        have hk := hS.bk _ B hB
        cases B with
        | bx cs =>
          simp only [rnB] at hC
          cases hC
          obtain ⟨b, cur, e, fr, k1, k2, k3, k4, k5, k6⟩ := hk
          refine ⟨b, cur, e, fr, gn.trans k1, pn b k2, k3, k4, by rw [List.length_map]; exact k5, fun j x hj => ?_⟩
          simp only [List.getElem?_map, Option.map_eq_some_iff] at hj
          obtain ⟨y, hy, rfl⟩ := hj
          exact ⟨rn1_ok hok (k6 j y hy).1, (k6 j y hy).2⟩
        | ar z v r =>
          simp only [rnB] at hC
          cases hC
          obtain ⟨v0, k1, k2⟩ := hk
          exact ⟨v0, gn.trans k1, k2.mono (fun b hb => ⟨hok b hb, rfl⟩) _ fun b hb => ⟨pn b hb, rfl⟩⟩
        | fz z r =>
          simp only [rnB] at hC
          cases hC
          obtain ⟨v0, k1, k2⟩ := hk
          exact ⟨v0, gn.trans k1, k2.mono fun b hb => ⟨hok b hb, rfl⟩⟩
        | sb => simp [rnB] at hC
        | mp v es =>
          simp only [rnB] at hC
          cases hC
          obtain ⟨r, ents, clock, k1, k2, k3⟩ := hk
          exact ⟨r, ents, clock, gn.trans k1, pn r k2, k3⟩
        | im rem last =>
          simp only [rnB] at hC
          cases hC
          obtain ⟨b, r, ents, clock, born, k1, k2, k3, k4, k5⟩ := hk
          exact ⟨b, r, ents, clock, born, gn.trans k1, pn b k2, k3, hok r k4, k5⟩
        | it p v seen =>
          simp only [rnB] at hC
          split at hC
          · rename_i v' es k hp hi
            rw [cond_eq_ite] at hC
            split at hC
            · rename_i hv
              have hv : v = v' := by simpa using hv
              cases hC
              obtain ⟨⟨g, hg'⟩, b, born, last, k1, k2, k3⟩ := hk
              refine ⟨⟨g, (γL_idx hi).trans hg'⟩, b, born, last, gn.trans k1, pn b k2, fun v2 es2 hh => ⟨Nat.zero_le _, fun _ => ?_⟩⟩
              obtain ⟨i1, i2, i3⟩ := idx_some L 1 p k hi
              rw [hsv, if_pos ⟨i1, i2⟩, i3, hp] at hh
              simp only [Option.bind_some, rnB, Option.some.injEq, Blk.mp.injEq] at hh
              obtain ⟨rfl, rfl⟩ := hh
              obtain ⟨r, ents, clock, q1, q2⟩ := (k3 v' _ hp).2 hv
              exact ⟨r, ents, clock, (γL_idx hi).trans q1, q2⟩
            · cases hC
          · cases hC
    · cases hC
  · intro n hn
    have hn : L.length + 1 ≤ n := hn
    unfold γL
    rw [if_neg (by omega)]
theorem norm_ok {ks : List Nat} {s : St} {a : Act} {w : World} (hI : Inv w0 M R args N s a w) : Inv w0 M R args N (norm ks s) a w := normL_ok (dedup_nd _ [] (by simp)) hI
end
end Go.Proofs.YtkkmgjhfjhcdmaaGreatDoor.Mx
