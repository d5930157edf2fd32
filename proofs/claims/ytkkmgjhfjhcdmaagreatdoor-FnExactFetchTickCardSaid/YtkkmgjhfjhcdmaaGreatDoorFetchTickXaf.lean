/- A machine over values for Go functions, proved sound, and functions run on it: texts Q7, M3, W1, W2, D1, D2, D3, D4. -/
import Derived.Orders
import Derived.Test.YtkkmgjhfjhcdmaaGreatDoorFetchTickXad
import Derived.Test.YtkkmgjhfjhcdmaaGreatDoorFetchTickXae
/- One call, in the caller's state. -/
namespace Go.Proofs.YtkkmgjhfjhcdmaaGreatDoor.Mx
set_option linter.all false
open Go Go.RowKit
section
variable {w0 : World} {M R : Nat → Prop} {γ : Gs} {φ : Fp} {tv : Tv} {sv : Sv} {a : Act} {w w' : World} {P : Program} {T : Ty} {ok ok' okc : Nat → Prop}
theorem syncF_in {u : Up} {s : Sv} {m : Nat} {B : Option Blk} (hf : ∀ B B', (m, B) ∈ u → (m, B') ∈ u → B = B') (h : (m, B) ∈ u) : syncF u s m = B := by
  induction u generalizing s with
  | nil => simp at h
  | cons p r ih =>
    obtain ⟨n, C⟩ := p
    simp only [syncF]
    by_cases hr : ∃ B', (m, B') ∈ r
    · obtain ⟨B', hB'⟩ := hr
      have := hf B B' h (List.mem_cons_of_mem _ hB')
      subst this
      exact ih (fun B B' h h' => hf B B' (List.mem_cons_of_mem _ h) (List.mem_cons_of_mem _ h')) hB'
    · have he : (m, B) = (n, C) := by
        rcases List.mem_cons.1 h with h | h
        · exact h
        · exact (hr ⟨B, h⟩).elim
      cases he
      clear ih h hf
      have : ∀ (r : Up) (s : Sv), (¬ ∃ B', (m, B') ∈ r) → syncF r s m = s m := by
        intro r
        induction r with
        | nil => intro s _; rfl
        | cons p r ih =>
          obtain ⟨n, C⟩ := p
          intro s hr
          simp only [syncF]
          rw [ih _ fun ⟨B', hB'⟩ => hr ⟨B', List.mem_cons_of_mem _ hB'⟩]
          exact upd_ne fun e => hr ⟨C, by simp [e]⟩
      rw [this r _ hr, upd_self]
theorem syncF_out {u : Up} {s : Sv} {m : Nat} (h : ∀ B, (m, B) ∉ u) : syncF u s m = s m := by
  induction u generalizing s with
  | nil => rfl
  | cons p r ih =>
    obtain ⟨n, C⟩ := p
    simp only [syncF]
    rw [ih fun B hB => h B (List.mem_cons_of_mem _ hB)]
    exact upd_ne fun e => h C (by simp [e])
theorem BlkOk.up {φ' : Fp} (h : ∀ b, ok b → ok' b) {m : Nat} {B : Blk} (r : BlkOk w ok γ φ sv m B) : BlkOk w ok' γ φ sv m B :=
  r.mono (fun b hb => ⟨h b hb, rfl⟩) (fun _ _ h => h) (fun b hb => ⟨hb, rfl⟩) (fun p i j v zp v' rp _ hs => ⟨hs, fun _ _ _ _ _ _ _ => rfl⟩) (fun p v seen v' es r _ hs => ⟨hs, fun _ => rfl⟩)
/-- one operation or call, its answer, and the state behind it -/
def OpStep (P : Program) (w0 : World) (M R : Nat → Prop) (γ : Gs) (tv : Tv) (sv : Sv) (a : Act) (w : World) (b : Nat) (o : Oper) (d : Dl) : Prop :=
  ∀ (next : Act → World → Prop) (Q : Exit → Act → World → Prop), (∀ (v : Value) (w' : World) (γ' : Gs) (φ' : Fp), (∀ n, ¬ (b ≤ n ∧ n < b + 256) → γ' n = γ n) → Sim w0 M R γ' φ' tv (syncF d.upd sv) a w' →
    RepV w' (okOf w0 M R φ' (syncF d.upd sv) w') γ' v d.val → next (a.put o.dst v) w') → o.wp P a w next Q
theorem OpStep.of_res {b : Nat} {o : Oper} {d : Dl} (h : OpRes P w0 M R γ tv sv a w b (execOp a.eval o) d) : OpStep P w0 M R γ tv sv a w b o d := by
  intro next Q hn
  obtain ⟨v, w', γ', φ', h1, h2, h3, h4⟩ := h
  unfold Oper.wp
  rcases h1 with h1 | ⟨h1, rfl⟩
  · rw [h1]; exact hn v w' γ' φ' h2 h3 h4
  · rw [h1]; exact hn undef w' γ' φ' h2 h3 h4
theorem disjB_spec {a b : List Nat} (h : disjB a b = true) : ∀ n ∈ a, n ∉ b := fun n hn hb => by
  have := List.all_eq_true.1 h n hn
  simp [hb] at this
theorem call_post (h : Sim w0 M R γ φ tv sv a w) {b : Nat} (hf : Fresh γ b) {md : List Nat} {xs l : List AV} {vals : List Value} {r : Ans} {d : Dl} (hlen : vals.length = xs.length)
    (hv : ∀ (i : Nat) (v : Value) (x : AV), vals[i]? = some v → xs[i]? = some x → RepV w (okOf w0 M R φ sv w) γ v x) (hl : argsOk sv md xs = some l) (hd : callOut md b sv xs r = some d) :
    ∃ okc G, ArgsRep w okc G vals l ∧ ∀ v w' H, Post w okc G vals r v w' H → ∃ γ' φ', (∀ n, ¬ (b ≤ n ∧ n < b + 256) → γ' n = γ n) ∧ Sim w0 M R γ' φ' tv (syncF d.upd sv) a w' ∧ RepV w' (okOf w0 M R φ' (syncF d.upd sv) w') γ' v d.val := by
  classical
  unfold argsOk at hl
  split at hl
  case h_2 => cases hl
  rename_i l' N V hargs
  rw [cond_eq_ite] at hl
  split at hl
  case isFalse => cases hl
  rename_i hnd
  cases hl
  simp only [Bool.and_eq_true] at hnd
  obtain ⟨hnd, hdis⟩ := hnd
  have hdis := disjB_spec hdis
  unfold callOut at hd
  rw [hargs] at hd
  split at hd
  case h_2 => cases hd
  rename_i u k' e1 hbk
  cases e1
  rw [cond_eq_ite] at hd
  split at hd
  case isFalse => cases hd
  rename_i hck
  cases hd
  simp only [Bool.and_eq_true, decide_eq_true_eq, Bool.or_eq_true] at hck
  obtain ⟨hk', hown⟩ := hck
  have hvs : ∀ (i : Nat) (x : AV), xs[i]? = some x → vals[i]? = some (vals.getD i undef) := fun i x hx => by
    have := idx_lt hx
    rw [List.getD_eq_getElem?_getD, List.getElem?_eq_getElem (by omega)]; rfl
  obtain ⟨b1, b2, G, b3, b4, b5, b6⟩ := args_ok (okc := fun c => okOf w0 M R φ sv w c ∨ ∃ n ∈ V, live sv n ∧ φ n c) h V (fun c hc => .inl hc) (fun n hn c h1 h2 => .inr ⟨n, hn, h1, h2⟩) xs l md N V (fun i => vals.getD i undef) (fun _ h => h)
    (fun i x hx => hv i _ x (hvs i x hx) hx) hargs hnd
  have gN : ∀ c, (∃ i, G i c) → Nφ φ N c := fun c ⟨i, hc⟩ => (b3 i c hc).2
  have nlt : ∀ c, Nφ φ N c → c < w.heap.size ∧ (w0.heap.size ≤ c ∨ M c) := fun c ⟨n, hn, hc⟩ => h.nw n c (b2 n hn) hc
  have nok : ∀ c, Nφ φ N c → ¬ okOf w0 M R φ sv w c := fun c ⟨n, hn, hc⟩ ho => ho.2.2 n (b2 n hn) hc
  have hA : ArgsRep w (fun c => okOf w0 M R φ sv w c ∨ ∃ n ∈ V, live sv n ∧ φ n c) G vals l := by
    refine ⟨hlen.trans b1.symm, fun i v x hv' hx => ?_, b4, fun i c hc => ⟨by rw [b1]; exact (b3 i c hc).1, (nlt c (b3 i c hc).2).1, ?_⟩, ?_, fun c hc => .inl ?_, GP_mono (fun c hc => h.fr.block c (h.df.2.inn c hc).2.2 (h.df.2.inn c hc).2.1) h.df.2.gp⟩
    · have e : v = vals.getD i undef := by rw [List.getD_eq_getElem?_getD, hv']; rfl
      rw [e]
      exact b5 i x hx
    · rintro (ho | ⟨n, hn, hl, hc'⟩)
      · exact nok c (b3 i c hc).2 ho
      · obtain ⟨n', hn', hc''⟩ := (b3 i c hc).2
        exact h.dj n' n (b2 n' hn') hl (fun e => hdis n' hn' (e ▸ hn)) c hc'' hc'
    · rintro c (ho | ⟨n, hn, hl, hc'⟩)
      · exact ho.1
      · exact (h.nw n c hl hc').1
    · obtain ⟨g1, g2, g3⟩ := h.df.2.inn c hc
      refine ⟨Nat.lt_of_lt_of_le g3 h.fr.size, .inl g1, fun m hm hb => ?_⟩
      rcases (h.nw m c hm hb).2 with h1 | h1
      · omega
      · exact g2 h1
  refine ⟨_, G, hA, fun v w' H he => ?_⟩
  · obtain ⟨pfr, pkp, pdj, pnew, pres, pout⟩ := he
    -- what may be read behind the call
    let okX : Nat → Prop := fun c => c < w'.heap.size ∧ (R c ∨ w0.heap.size ≤ c ∨ M c) ∧ (∀ m, live sv m → m ∉ N → ¬ φ m c) ∧ (∀ i, ¬ H i c) ∧ (Nφ φ N c → ∃ i, G i c)
    have hHG : ∀ i c, H i c → Nφ φ N c → ∃ j, G j c := fun i c hc hN => by
      rcases (pnew i c hc).2 with h1 | h1
      · have := (nlt c hN).1; omega
      · exact h1
    have same : ∀ c, c < w.heap.size → ¬ (∃ i, G i c) → w'.heap[c]? = w.heap[c]? := fun c h1 h2 => pfr.block c h1 h2
    have ok1 : ∀ c, okOf w0 M R φ sv w c → okX c ∧ w'.heap[c]? = w.heap[c]? := fun c hc => by
      have hnN : ¬ Nφ φ N c := fun hN => nok c hN hc
      have hnG : ¬ ∃ i, G i c := fun hG => hnN (gN c hG)
      refine ⟨⟨Nat.lt_of_lt_of_le hc.1 pfr.size, hc.2.1, fun m hl _ => hc.2.2 m hl, fun i hi => ?_, fun hN => (hnN hN).elim⟩, same c hc.1 hnG⟩
      rcases (pnew i c hi).2 with h1 | h1
      · have := hc.1; omega
      · exact hnG h1
    have ok2 : ∀ c, okP w (okOf w0 M R φ sv w) G H w' c → okX c := fun c ⟨h1, h2, h3⟩ => by
      refine ⟨h1, ?_, fun m hl hm' hc => ?_, h3, fun hN => ?_⟩
      · rcases h2 with h2 | h2 | h2
        · exact h2.2.1
        · exact .inr (.inl (Nat.le_trans h.fr.size h2))
        · exact .inr (nlt c (gN c h2)).2
      · rcases h2 with h2 | h2 | h2
        · exact h2.2.2 m hl hc
        · have := (h.nw m c hl hc).1; omega
        · obtain ⟨n, hn, hc'⟩ := gN c h2
          exact h.dj m n hl (b2 n hn) (fun e => hm' (e ▸ hn)) c hc hc'
      · rcases h2 with h2 | h2 | h2
        · exact (nok c hN h2).elim
        · have := (nlt c hN).1; omega
        · exact h2
    have hres : OwnV w' okX (H 0) v r.1 := by
      rcases hown with hV | ⟨ho, _⟩
      · refine pres.mono (fun c hc => ⟨ok2 c ⟨hc.1, hc.2.1.imp (fun hh => hh.elim id ?_) id, hc.2.2⟩, rfl⟩) _ fun c hc => ⟨hc, rfl⟩
        rintro ⟨n, hn, _⟩
        rw [List.isEmpty_iff.1 hV] at hn
        simp at hn
      · exact own_anyV ho pres
    have hout : ∀ (i : Nat) (t : AV), r.2[i]? = some (some t) → OwnA w' okX (H (i + 1)) (vals.getD i undef) t := fun i t ht => by
      obtain ⟨u0, hu0, hO⟩ := pout i t ht
      have e : u0 = vals.getD i undef := by rw [List.getD_eq_getElem?_getD, hu0]; rfl
      rw [← e]
      rcases hown with hV | ⟨_, ho⟩
      · refine hO.mono (fun c hc => ⟨ok2 c ⟨hc.1, hc.2.1.imp (fun hh => hh.elim id ?_) id, hc.2.2⟩, rfl⟩) _ fun c hc => ⟨hc, rfl⟩
        rintro ⟨n, hn, _⟩
        rw [List.isEmpty_iff.1 hV] at hn
        simp at hn
      · exact own_anyA (List.all_eq_true.1 ho (some t) (List.mem_of_getElem? ht)) hO
    obtain ⟨γ1, φ1, A, rv⟩ := thV_ad b hres
    have hn0 : ∀ j, b + wdV r.1 ≤ j → j < k' → γ j = none := fun j h1 h2 => hf j (by omega) (by omega)
    obtain ⟨n, γB, φB, hkn, B⟩ := b6 w' okX (fun i => H (i + 1)) (b + wdV r.1) r.2 u k' hn0 pkp (fun c hN hG => same c (nlt c hN).1 hG) ok1 (fun c ⟨i, hc⟩ hN => hHG _ c hc hN) (fun i j c hc hc' => by have := pdj _ _ c hc hc'; omega) hout hbk
    subst hkn
    have gsome := live_gh h b2
    have nrange : ∀ m ∈ N, ¬ (b ≤ m ∧ m < b + 256) := fun m hm' hh => by
      obtain ⟨g, hg⟩ := gsome m hm'
      rw [hf m hh.1 hh.2] at hg
      cases hg
    let γ' : Gs := fun j => if b ≤ j ∧ j < b + wdV r.1 then γ1 j else if b + wdV r.1 ≤ j ∧ j < b + wdV r.1 + n then γB j else γ j
    let φ' : Fp := fun m c => if m ∈ N ∨ (b ≤ m ∧ m < b + 256) then φB m c ∨ ((b ≤ m ∧ m < b + wdV r.1) ∧ φ1 m c) else φ m c
    have γext : ∀ m g, γ m = some g → γ' m = some g := fun m g hg => by
      have nr : ¬ (b ≤ m ∧ m < b + 256) := fun hh => by rw [hf m hh.1 hh.2] at hg; cases hg
      show (if _ then _ else _) = _
      rw [if_neg (by omega), if_neg (by omega)]
      exact hg
    have γout : ∀ m, ¬ (b ≤ m ∧ m < b + 256) → γ' m = γ m := fun m hh => by
      show (if _ then _ else _) = _
      rw [if_neg (by omega), if_neg (by omega)]
    have γr1 : Agr b (wdV r.1) γ1 γ' := fun j h1 h2 => by
      show (if _ then _ else _) = _
      rw [if_pos ⟨h1, h2⟩]
    have γrB : ∀ j, b + wdV r.1 ≤ j → j < b + wdV r.1 + n → γ' j = γB j := fun j h1 h2 => by
      show (if _ then _ else _) = _
      rw [if_neg (by omega), if_pos ⟨h1, h2⟩]
    have domB : ∀ m c, φB m c → m ∈ N ∨ (b + wdV r.1 ≤ m ∧ m < b + wdV r.1 + n) := B.dom
    have φr1 : ∀ j, b ≤ j → j < b + wdV r.1 → φ' j = φ1 j := fun j h1 h2 => by
      funext c
      show (if _ then _ else _) = _
      rw [if_pos (.inr ⟨h1, by omega⟩)]
      refine propext ⟨?_, fun hh => .inr ⟨⟨h1, h2⟩, hh⟩⟩
      rintro (hh | ⟨_, hh⟩)
      · rcases domB j c hh with hj | hj
        · exact (nrange j hj ⟨h1, by omega⟩).elim
        · omega
      · exact hh
    have φrB : ∀ j, (j ∈ N ∨ (b + wdV r.1 ≤ j ∧ j < b + wdV r.1 + n)) → φ' j = φB j := fun j hj => by
      funext c
      show (if _ then _ else _) = _
      rw [if_pos (hj.imp id fun hj => by omega)]
      refine propext ⟨?_, .inl⟩
      rintro (hh | ⟨hh, _⟩)
      · exact hh
      · rcases hj with hj | hj
        · exact (nrange j hj ⟨hh.1, by omega⟩).elim
        · omega
    have hsync : ∀ m, syncF (kill N ++ (u ++ (thV b r.1).2)) sv m = syncF (u ++ (thV b r.1).2) (syncF (kill N) sv) m := fun m => by rw [syncF_app]
    have hfn : ∀ m B B', (m, B) ∈ u ++ (thV b r.1).2 → (m, B') ∈ u ++ (thV b r.1).2 → B = B' := by
      intro m C C' hC hC'
      have cl : ∀ C C', (m, C) ∈ u → (m, C') ∈ (thV b r.1).2 → False := fun C C' hC hC' => by
        have h1 := (B.rng m C hC).1
        have h2 := A.rng m C' hC'
        rcases h1 with h1 | h1
        · exact nrange m h1 ⟨h2.1, by omega⟩
        · omega
      rcases List.mem_append.1 hC with hC | hC <;> rcases List.mem_append.1 hC' with hC' | hC'
      · exact B.fn m C C' hC hC'
      · exact (cl _ _ hC hC').elim
      · exact (cl _ _ hC' hC).elim
      · exact A.fn m C C' hC hC'
    have killv : ∀ m, syncF (kill N) sv m = if m ∈ N then none else sv m := fun m => by
      by_cases hm' : m ∈ N
      · rw [if_pos hm']
        refine syncF_in (fun B B' hB hB' => ?_) (B := none) (by simp [kill, hm'])
        simp only [kill, List.mem_map, Prod.mk.injEq] at hB hB'
        obtain ⟨_, _, _, rfl⟩ := hB
        obtain ⟨_, _, _, rfl⟩ := hB'
        rfl
      · rw [if_neg hm']
        exact syncF_out fun B hB => by
          simp only [kill, List.mem_map, Prod.mk.injEq] at hB
          obtain ⟨x, hx, rfl, _⟩ := hB
          exact hm' hx
    have svin : ∀ m C, (m, C) ∈ u ++ (thV b r.1).2 → syncF (kill N ++ (u ++ (thV b r.1).2)) sv m = C := fun m C hC => by rw [hsync]; exact syncF_in (hfn m) hC
    have svout : ∀ m, (∀ C, (m, C) ∉ u ++ (thV b r.1).2) → syncF (kill N ++ (u ++ (thV b r.1).2)) sv m = if m ∈ N then none else sv m := fun m hm' => by rw [hsync, syncF_out hm', killv]
    have urng : ∀ m C, (m, C) ∈ u ++ (thV b r.1).2 → m ∈ N ∨ (b ≤ m ∧ m < b + 256) := fun m C hC => by
      rcases List.mem_append.1 hC with hC | hC
      · exact (B.rng m C hC).1.imp id fun hh => by omega
      · have := A.rng m C hC; exact .inr ⟨this.1, by omega⟩
    have φK : ∀ m c, (m ∈ N ∨ (b ≤ m ∧ m < b + 256)) → φ' m c → (∃ i, H i c) ∨ (¬ (∃ i, G i c) ∧ Nφ φ N c) := fun m c hm' hc => by
      have hc : (if _ then _ else _) := hc
      rw [if_pos hm'] at hc
      rcases hc with hc | ⟨_, hc⟩
      · exact (B.sub m c hc).imp (fun ⟨i, hi⟩ => ⟨i + 1, hi⟩) id
      · exact .inl ⟨0, A.sub m c hc⟩
    have hX : ∀ c, okX c → okOf w0 M R φ' (syncF (kill N ++ (u ++ (thV b r.1).2)) sv) w' c := fun c hc => by
      refine ⟨hc.1, hc.2.1, fun m hl hcm => ?_⟩
      by_cases hK : m ∈ N ∨ (b ≤ m ∧ m < b + 256)
      · rcases φK m c hK hcm with ⟨i, hi⟩ | ⟨hG, hN⟩
        · exact hc.2.2.2.1 i hi
        · exact hG (hc.2.2.2.2 hN)
      · have hcm : (if _ then _ else _) := hcm
        rw [if_neg hK] at hcm
        have hls : live sv m := by
          unfold live at hl ⊢
          rw [svout m (fun C hC => hK (urng m C hC)), if_neg (fun hh => hK (.inl hh))] at hl
          exact hl
        exact hc.2.2.1 m hls (fun hh => hK (.inl hh)) hcm
    have fin := h.step (γ' := γ') (φ' := φ') (sv' := syncF (kill N ++ (u ++ (thV b r.1).2)) sv) (w' := w') (fun m => m ∈ N ∨ (b ≤ m ∧ m < b + 256)) γext
      (fun m hK => ⟨by rw [svout m (fun C hC => hK (urng m C hC)), if_neg (fun hh => hK (.inl hh))], by funext c; show (if _ then _ else _) = _; rw [if_neg hK]⟩)
      ⟨pfr.os.trans h.fr.os, pfr.tape.trans h.fr.tape, pfr.output.trans h.fr.output, Nat.le_trans h.fr.size pfr.size, fun k hk hMk => (same k (Nat.lt_of_lt_of_le hk h.fr.size) fun hG => by
        rcases (nlt k (gN k hG)).2 with h1 | h1
        · omega
        · exact hMk h1).trans (h.fr.block k hk hMk)⟩
      pkp pfr.size (fun c hc hn' => same c hc fun hG => by obtain ⟨m, hm', hc'⟩ := gN c hG; exact hn' m (.inl hm') (b2 m hm') hc')
      (fun m c hK hl hc => by
        rcases φK m c hK hc with ⟨i, hi⟩ | ⟨hG, hN⟩
        · refine ⟨(pnew i c hi).1, (pnew i c hi).2.imp id fun hG => ?_⟩
          obtain ⟨m', hm', hc'⟩ := gN c hG
          exact ⟨m', .inl hm', b2 m' hm', hc'⟩
        · obtain ⟨m', hm', hc'⟩ := hN
          exact ⟨Nat.lt_of_lt_of_le (nlt c ⟨m', hm', hc'⟩).1 pfr.size, .inr ⟨m', .inl hm', b2 m' hm', hc'⟩⟩)
      (fun m m' hK hK' hl hl' hne c hc hc' => by
        have hc : (if _ then _ else _) := hc
        have hc' : (if _ then _ else _) := hc'
        rw [if_pos hK] at hc
        rw [if_pos hK'] at hc'
        have cr : ∀ j, φB j c → H 0 c → False := fun j h1 h2 => by
          rcases B.sub j c h1 with ⟨i, hi⟩ | ⟨hG, hN⟩
          · have := pdj _ _ c hi h2; omega
          · exact hG (hHG 0 c h2 hN)
        rcases hc with hc | ⟨_, hc⟩ <;> rcases hc' with hc' | ⟨_, hc'⟩
        · exact hne (B.dj m m' c hc hc')
        · exact cr m hc (A.sub m' c hc')
        · exact cr m' hc' (A.sub m c hc)
        · exact hne (A.dj m m' c hc hc'))
      (fun k p i j v0 hK hk hP => by
        obtain ⟨⟨g1, c1⟩, ⟨g2, c2⟩, c3⟩ := h.bk k _ hk
        rcases hP with hP | hP
        · by_cases he : ∃ C, (p, C) ∈ u ++ (thV b r.1).2
          · obtain ⟨C, hC⟩ := he
            have hCu : (p, C) ∈ u := by
              rcases List.mem_append.1 hC with hC | hC
              · exact hC
              · have := A.rng p C hC; exact (nrange p hP ⟨this.1, by omega⟩).elim
            obtain ⟨C', rfl⟩ := (B.rng p C hCu).2
            exact (B.al p C' hP hCu k i j v0 hk γ' φ' _ γext (svin p _ hC)).up (φ' := φ') hX
          · refine ⟨⟨g1, γext _ _ c1⟩, ⟨g2, γext _ _ c2⟩, fun zp v' rp hh => ?_⟩
            rw [svout p (fun C hC => he ⟨C, hC⟩), if_pos hP] at hh
            cases hh
        · rw [hf p hP.1 hP.2] at c2; cases c2)
      (fun k p v0 seen hK hk hP => by
        obtain ⟨⟨g2, c2⟩, bb, born, last, c3, c4, c5⟩ := h.bk k _ hk
        rcases hP with hP | hP
        · refine ⟨⟨g2, γext _ _ c2⟩, bb, born, last, γext _ _ c3, by show (if _ then _ else _); rw [if_neg hK]; exact c4, fun v' es hh => ?_⟩
          by_cases he : ∃ C, (p, C) ∈ u ++ (thV b r.1).2
          · obtain ⟨C, hC⟩ := he
            have hCu : (p, C) ∈ u := by
              rcases List.mem_append.1 hC with hC | hC
              · exact hC
              · have := A.rng p C hC; exact (nrange p hP ⟨this.1, by omega⟩).elim
            rw [svin p C hC] at hh
            subst hh
            exact (B.nm p _ hP hCu v' es rfl).elim
          · rw [svout p (fun C hC => he ⟨C, hC⟩), if_pos hP] at hh
            cases hh
        · rw [hf p hP.1 hP.2] at c2; cases c2)
      (fun _ m C hK hC => by
        by_cases he : ∃ C, (m, C) ∈ u ++ (thV b r.1).2
        · obtain ⟨C', hC'⟩ := he
          rw [svin m C' hC'] at hC
          subst hC
          rcases List.mem_append.1 hC' with hu | hu
          · exact (B.ok m C hu γ' φ' _ γext γrB (φrB m (B.rng m _ hu).1) fun j h1 h2 => φrB j (.inr ⟨h1, h2⟩)).up (φ' := φ') hX
          · exact (A.ok m C hu γ' φ' _ γr1 φr1).up (φ' := φ') hX
        · rw [svout m (fun C hC => he ⟨C, hC⟩)] at hC
          rcases hK with hK | hK
          · rw [if_pos hK] at hC; cases hC
          · split at hC
            · cases hC
            · obtain ⟨g, hg⟩ := blk_gh h hC
              rw [hf m hK.1 hK.2] at hg
              cases hg)
    exact ⟨γ', φ', γout, fin.1, (rv γ' γr1).mono (fun c hc => ⟨hX c hc, rfl⟩) fun _ _ h => h⟩
/-- one call, as an operation -/
theorem callOp_ok (h : Sim w0 M R γ φ tv sv a w) {b : Nat} (hf : Fresh γ b) {o : Oper} {f : FuncId} {xs : Array Operand} {ats : Array TypeId} (ho : o.op = .call { callee := .value (.func f), args := xs, argTypes := ats })
    {md : List Nat} {l : List AV} {r : Ans} {d : Dl} (hl : argsOk sv md (xs.toList.map (opv tv)) = some l) (hm : Meets P f l r) (hd : callOut md b sv (xs.toList.map (opv tv)) r = some d) : OpStep P w0 M R γ tv sv a w b o d := by
  intro next Q hn
  obtain ⟨okc, G, hA, hP⟩ := call_post h hf (vals := xs.toList.map a.eval) (by simp) (fun i v x hv hx => by
    simp only [List.getElem?_map, Option.map_eq_some_iff] at hv hx
    obtain ⟨y, hy, rfl⟩ := hv
    obtain ⟨y', hy', rfl⟩ := hx
    rw [hy] at hy'
    cases hy'
    exact opv_ok h y) hl hd
  have hex : (execOp a.eval o).run P w = (callFunc f (xs.map a.eval)).run P w := by
    simp [execOp, ho, resolve, Deferred.ofValue, invoke, Act.eval]
  have hxs : (xs.toList.map a.eval).toArray = xs.map a.eval := by rw [← Array.toList_map]
  rw [← hxs] at hex
  unfold Oper.wp
  rw [hex]
  rcases hm w okc G _ hA with ⟨hr, hc⟩ | ⟨v, w', H, hr, hp⟩
  · rw [hr, Oper.upon_enter]
    refine hc.mono fun e w' he => ?_
    cases e with
    | returned v =>
      obtain ⟨H, hp⟩ := he
      obtain ⟨γ', φ', h1, h2, h3⟩ := hP v w' H hp
      exact hn v w' γ' φ' h1 h2 h3
    | _ => exact he.elim
  · rw [hr, Oper.upon_value]
    obtain ⟨γ', φ', h1, h2, h3⟩ := hP v w' H hp
    exact hn v w' γ' φ' h1 h2 h3
end
end Go.Proofs.YtkkmgjhfjhcdmaaGreatDoor.Mx

/- The machine: text. -/
namespace Go.Proofs.YtkkmgjhfjhcdmaaGreatDoor.Mx
set_option linter.all false
open Go Go.RowKit
/-- what goes with a text: types; of each call how its arguments are handed over; of each region the temporaries that are still read -/
structure Env where
  T : Ty
  md : Nat → Nat → List Nat := fun _ _ => []
  kp : Nat → List Nat
  dp : Nat → List (List Nat) := fun _ => []
  fz : Nat → List Nat := fun _ => []
  ex : Nat → Bool := fun _ => false

/-! First this, then that: simp looks at the last argument alone (its type hangs on the others). -/
abbrev OD (_ : Dl → Prop) : Type := Option Dl
def After (f : Dl → Prop) (o : OD f) : Prop := ∃ d, o = some d ∧ f d
abbrev OL (_ : Ans → Prop) : Type := Option (List AV)
def AfterC (P : Program) (h : FuncId) (f : Ans → Prop) (o : OL f) : Prop := ∃ l r, o = some l ∧ Meets P h l r ∧ f r
abbrev BB (_ _ : Prop) : Type := Bool
def Br (A B : Prop) (q : BB A B) : Prop := if q = true then A else B
abbrev BA (_ _ : Prop) : Type := AV
/-- a guard: what stands in a temporary; 'tu []': nothing does -/
def GK (w : Bool) (A B : Prop) (x : BA A B) : Prop := match x with
  | .sc (.bool q) => Br A B (q == w)
  | .tu [] => B
  | _ => False
/-- a branch -/
def CK (A B : Prop) (x : BA A B) : Prop := match x with
  | .sc (.bool q) => Br A B q
  | _ => False
theorem after_some (d : Dl) (f : Dl → Prop) : After f (some d) ↔ f d := by simp [After]
theorem br_true (A B : Prop) : Br A B true ↔ A := by simp [Br]
theorem br_false (A B : Prop) : Br A B false ↔ B := by simp [Br]
theorem gk_bool (q w : Bool) (A B : Prop) : GK w A B (AV.sc (.bool q)) ↔ Br A B (q == w) := Iff.rfl
theorem gk_tu (w : Bool) (A B : Prop) : GK w A B (AV.tu []) ↔ B := Iff.rfl
theorem ck_bool (q : Bool) (A B : Prop) : CK A B (AV.sc (.bool q)) ↔ Br A B q := Iff.rfl
theorem afterC {P : Program} {h : FuncId} {f : Ans → Prop} {l : List AV} {r : Ans} (hm : Meets P h l r) (hf : f r) : AfterC P h f (some l) := ⟨l, r, rfl, hm, hf⟩

def St.go (s : St) (dst : Option Tmp) (d : Dl) : St := ⟨(s.put dst d).tm, (s.put dst d).sto, s.ctr + 256⟩
/-- has a block no inner slice that is named? -/
def notSb (m : Nat) : Blk → Bool
  | .sb p _ _ _ => !(p == m)
  | _ => true
/-- an inner slice is taken out of its array: from here on an array of its own -/
def unn1 (s : St) (m : Nat) : St := match sget s.sto m with
  | some (.sb p i j v) => match sget s.sto p with
    | some (.ar zp v' rp) => match nest rp i j with
      | some (z, r) => bif v == v' && s.sto.all (fun e => notSb m e.2) then ⟨s.tm, supd (supd s.sto p (some (.ar zp (v' + 1) (rp.set i ((rp.getD i []).set j .no))))) m (some (.ar z 0 r)), s.ctr⟩ else s
      | none => s
    | _ => s
  | _ => s
def unnL : Row → St → St
  | [], s => s
  | .ow m _ _ :: r, s => unnL r (unn1 s m)
  | _ :: r, s => unnL r s
/-- an array that is only read from here on; of a box: its inner slices are taken out -/
def frz1 (s : St) (t : Nat) : St := match tget s.tm t with
  | .ow m _ _ => match sget s.sto m with
    | some (.ar z _ rows) => ⟨s.tm, supd s.sto m (some (.fz z rows)), s.ctr⟩
    | _ => s
  | .pt m _ _ => match sget s.sto m with
    | some (.bx cs) => unnL cs s
    | _ => s
  | _ => s
def frz : List Nat → St → St
  | [], s => s
  | t :: r, s => frz r (frz1 s t)
/-- only these temporaries are kept -/
def keep (ks : List Nat) (s : St) : St := ⟨ks.map fun t => (t, tget s.tm t), s.sto, s.ctr⟩
/-! a walk over a map: it is read from here on; whichever entry comes next -/
abbrev AX (_ : Ty) (_ : TypeId) (_ : St) (_ : Option Tmp) (_ : St → Prop) : Type := AV
abbrev BX (_ : St) (_ : Option Tmp) (_ : St → Prop) (_ : Nat) : Type := Option Blk
def isMap (T : Ty) (t : TypeId) : Bool := match T t with | some ti => (match ti.kind with | .map _ _ => true | _ => false) | none => false
def RgB (s : St) (dst : Option Tmp) (K : St → Prop) (m : Nat) (B : BX s dst K m) : Prop := match B with
  | some (.mp _ es) => K (s.go dst ⟨.pt s.ctr 0 0, [(m, none), (s.ctr, some (.im es none))]⟩)
  | _ => False
def RgK (T : Ty) (t : TypeId) (s : St) (dst : Option Tmp) (K : St → Prop) (x : AX T t s dst K) : Prop := isMap T t = true ∧ match x with
  | .mc es => K (s.go dst ⟨.pt s.ctr 0 0, [(s.ctr, some (.im es none))]⟩)
  | .mv m => RgB s dst K m (s.sv m)
  | _ => False
def NxB (s : St) (dst : Option Tmp) (K : St → Prop) (m : Nat) (B : BX s dst K m) : Prop := match B with
  | some (.im rem _) => (rem.all fun e => plain e.1 && plain e.2) = true ∧ (rem = [] → K (s.go dst ⟨.tu [.sc (.bool false)], []⟩)) ∧
      ∀ kv rem', rem.Perm (kv :: rem') → K (s.go dst ⟨.tu [.sc (.bool true), .sc kv.1, .sc kv.2], [(m, some (.im rem' (some kv)))]⟩)
  | _ => False
def NxK (T : Ty) (t : TypeId) (s : St) (dst : Option Tmp) (K : St → Prop) (x : AX T t s dst K) : Prop := match x with
  | .pt m 0 0 => NxB s dst K m (s.sv m)
  | _ => False
def EnB (s : St) (dst : Option Tmp) (K : St → Prop) (m : Nat) (B : BX s dst K m) : Prop := match B with
  | some (.im _ (some kv)) => (plain kv.1 && plain kv.2) = true ∧ K (s.go dst ⟨.tu [.sc kv.1, .sc kv.2], []⟩)
  | _ => False
def EnK (T : Ty) (t : TypeId) (s : St) (dst : Option Tmp) (K : St → Prop) (x : AX T t s dst K) : Prop := match x with
  | .pt m 0 0 => EnB s dst K m (s.sv m)
  | _ => False
/-- one operation -/
abbrev ST (_ : Program) (_ : Env) (_ _ : Nat) (_ : Oper) (_ : St → Prop) : Type := St
def step1 (P : Program) (E : Env) (id i : Nat) (o : Oper) (K : St → Prop) (s : ST P E id i o K) : Prop :=
  match o.op with
  | .call { callee := .value (.func h), args := xs, .. } =>
    AfterC P h (fun r => After (fun d => K (s.go o.dst d)) (callOut (E.md id i) s.ctr s.sv (xs.toList.map (opv s.tv)) r)) (argsOk s.sv (E.md id i) (xs.toList.map (opv s.tv)))
  | .range t x => RgK E.T t s o.dst K (opv s.tv x)
  | .next x false => NxK E.T 0 s o.dst K (opv s.tv x)
  | .entry x => EnK E.T 0 s o.dst K (opv s.tv x)
  | op => After (fun d => K (s.go o.dst d)) (aop E.T op o.type s.ctr s.tv s.sv)
def dstAt : List Oper → Nat → Option Tmp
  | [], _ => none
  | o :: _, 0 => o.dst
  | _ :: l, n + 1 => dstAt l n
def gq (l : List Oper) (s : St) (j : Nat) : AV := match dstAt l j with | some t => s.tv t | none => .no
/-- operations, one behind the other (the dependent type keeps simp away from all but the state) -/
abbrev SO (_ : Program) (_ : Env) (_ : Nat) (_ : List Oper) (_ : St → Prop) (_ : Nat) (_ : List Oper) : Type := St
def opsW (P : Program) (E : Env) (id : Nat) (all : List Oper) (K : St → Prop) : (i : Nat) → (l : List Oper) → SO P E id all K i l → Prop
  | _, [], s => K s
  | i, o :: l, s => match o.guard with
    | none => step1 P E id i o (opsW P E id all K (i + 1) l) s
    | some (j, w) => GK w (step1 P E id i o (opsW P E id all K (i + 1) l) s) (opsW P E id all K (i + 1) l (s.go o.dst ⟨.tu [], []⟩)) (gq all s j)

/-! ### Where ways meet -/
def names1 : AV → List Nat
  | .ow m _ _ | .pt m _ _ | .mv m => [m]
  | _ => []
def namesA : AV → List Nat
  | .ag cs => cs.flatMap names1
  | x => names1 x
def below (sv : Sv) (m : Nat) : List Nat := match sv m with
  | some (.bx cs) => m :: cs.flatMap names1
  | some (.it p _ _) => [p, m]
  | some (.sb _ _ _ _) => []
  | some _ => [m]
  | none => []
def dedup : List Nat → List Nat → List Nat
  | acc, [] => acc.reverse
  | acc, x :: r => bif acc.contains x then dedup acc r else dedup (x :: acc) r
/-- the new number of a name -/
def idx : List Nat → Nat → Nat → Option Nat
  | [], _, _ => none
  | x :: r, k, n => bif x == n then some k else idx r (k + 1) n
def rn1 (L : List Nat) : AV → AV
  | .ow m lo n => match idx L 1 m with | some k => .ow k lo n | none => .no
  | .pt m i j => match idx L 1 m with | some k => .pt k i j | none => .no
  | .mv m => match idx L 1 m with | some k => .mv k | none => .no
  | .ag _ | .tu _ => .no
  | x => x
def rnA (L : List Nat) : AV → AV
  | .ag cs => .ag (cs.map (rn1 L))
  | .tu [] => .tu []
  | x => rn1 L x
def rnB (L : List Nat) (sv : Sv) : Blk → Option Blk
  | .bx cs => some (.bx (cs.map (rn1 L)))
  | .ar z _ r => some (.ar z 0 r)
  | .fz z r => some (.fz z r)
  | .mp _ es => some (.mp 0 es)
  | .it p v seen => match sv p, idx L 1 p with
    | some (.mp v' _), some k => bif v == v' then some (.it k 0 seen) else none
    | _, _ => none
  | .im rem last => some (.im rem last)
  | .sb _ _ _ _ => none
def rnS (L : List Nat) (sv : Sv) : Nat → List Nat → Sto
  | _, [] => []
  | k, m :: r => match sv m with
    | some B => match rnB L sv B with | some C => (k, C) :: rnS L sv (k + 1) r | none => rnS L sv (k + 1) r
    | none => rnS L sv (k + 1) r
def reach (ks : List Nat) (s : St) : List Nat := dedup [] ((ks.flatMap fun t => (namesA (s.tv t)).flatMap fun m => (below s.sv m).flatMap (below s.sv)))
/-- the state at a loop's head: names from 1 on, in order -/
def normL (L ks : List Nat) (s : St) : St := ⟨ks.map fun t => (t, rnA L (s.tv t)), rnS L s.sv 1 L, L.length + 1⟩
def norm (ks : List Nat) (s : St) : St := normL (reach ks s) ks s

/-! ### Text -/
inductive Ex where
  | normal
  | exit (id : Nat)
  | ret
abbrev Po := Ex → St → Prop
def Po.then (K : St → Prop) (Q : Po) : Po
  | .normal, s => K s
  | e, s => Q e s
def Po.inBlock (id : Nat) (Q : Po) : Po
  | .exit id', s => if id' = id then Q .normal s else Q (.exit id') s
  | e, s => Q e s
def headId : Code → Nat
  | .region id _ _ => id
  | .seq x _ => headId x
  | .block _ c => headId c
  | _ => 0
/-- rounds: the least that holds wherever one round more leads to it -/
def Lp (F : Po → St → Prop) (Q : Po) (s : St) : Prop := ∀ I : St → Prop, (∀ s, F (Po.then I Q) s → I s) → I s
/-! ### Regions whose order is drawn: run in program order; what isn't ordered must be apart -/
def rts (sv : Sv) (m : Nat) : List Nat := m :: (match sv m with | some (.sb p _ _ _) => [p] | some (.it p _ _) => [p] | _ => [])
def supA (sv : Sv) (x : AV) : List Nat := (namesA x).flatMap fun m => rts sv m ++ (match sv m with | some (.bx cs) => cs.flatMap fun c => (names1 c).flatMap (rts sv) | _ => [])
/-- names read, names written -/
structure Ac where
  rd : List Nat
  wn : List Nat
def depB (D : List (List Nat)) (i j : Nat) : Bool := (D.getD j []).contains i
def okPair (a b : Ac) : Bool := disjB a.wn b.rd && disjB a.wn b.wn && disjB b.wn a.rd
def chkTo (D : List (List Nat)) (b : Ac) (j : Nat) : Nat → List Ac → Bool
  | _, [] => true
  | i, a :: r => (depB D i j || okPair a b) && chkTo D b j (i + 1) r
def chkAll (D : List (List Nat)) (acs : List Ac) : Nat → List Ac → Bool
  | _, [] => true
  | j, b :: r => chkTo D b j 0 (acs.take j) && chkAll D acs (j + 1) r
/-- names that an operation looks at (a move, a field's address look at none; a load at its own block alone) -/
def rdsO (o : Op) (s : St) : List Nat := match o with
  | .move _ => []
  | .fieldAddr _ _ _ => []
  | .nilCheck _ => []
  | .load _ x => (namesA (opv s.tv x)).flatMap (rts s.sv)
  | o => o.operands.toList.flatMap fun x => supA s.sv (opv s.tv x)
def rdsAll : Op → Bool
  | .move _ => false
  | .fieldAddr _ _ _ => false
  | .nilCheck _ => false
  | .load _ _ => false
  | _ => true
theorem rdsO_of {o : Op} {s : St} (h : rdsAll o = true) : rdsO o s = o.operands.toList.flatMap fun x => supA s.sv (opv s.tv x) := by
  cases o <;> first | rfl | cases h
abbrev SR (_ : Program) (_ : Env) (_ _ : Nat) (_ : Oper) (_ : Ac → St → Prop) : Type := St
def stepR (P : Program) (E : Env) (id i : Nat) (o : Oper) (K : Ac → St → Prop) (s : SR P E id i o K) : Prop :=
  match o.op with
  | .call { callee := .value (.func h), args := xs, .. } =>
    AfterC P h (fun r => After (fun d => K ⟨rdsO o.op s, d.upd.map (·.1)⟩ (s.go o.dst d)) (callOut (E.md id i) s.ctr s.sv (xs.toList.map (opv s.tv)) r)) (argsOk s.sv (E.md id i) (xs.toList.map (opv s.tv)))
  | op => After (fun d => K ⟨rdsO o.op s, d.upd.map (·.1)⟩ (s.go o.dst d)) (aop E.T op o.type s.ctr s.tv s.sv)
abbrev SD (_ : Program) (_ : Env) (_ : Nat) (_ : List (List Nat)) (_ : List Oper) (_ : St → Prop) (_ : Nat) (_ : List Oper) : Type := St
def drW (P : Program) (E : Env) (id : Nat) (D : List (List Nat)) (all : List Oper) (K : St → Prop) : (i : Nat) → (l : List Oper) → (acc : List Ac) → SD P E id D all K i l → Prop
  | _, [], acc, s => chkAll D acc.reverse 0 acc.reverse = true ∧ K s
  | i, o :: l, acc, s => match o.guard with
    | none => stepR P E id i o (fun ac => drW P E id D all K (i + 1) l (ac :: acc)) s
    | some (j, w) => GK w (stepR P E id i o (fun ac => drW P E id D all K (i + 1) l (ac :: acc)) s) (drW P E id D all K (i + 1) l (⟨[], []⟩ :: acc) (s.go o.dst ⟨.tu [], []⟩)) (gq all s j)
def tmpsO (all : List Oper) (o : Oper) : List Nat :=
  (o.op.operands.toList.filterMap fun | .tmp t => some t | _ => none) ++ (match o.guard with | some (j, _) => (dstAt all j).toList | none => [])
def dstL (o : Oper) : List Nat := o.dst.toList
/-- the table of dependences is borne out by the edges; temporaries that are apart -/
def okDj (all : List Oper) (D : List (List Nat)) (j : Nat) (o : Oper) : Bool :=
  ((D.getD j []).all fun i => o.after.toList.any fun e => Region.binds .any e && (e.on == i || (D.getD e.on []).contains i)) &&
  (o.after.toList.all fun e => !Region.binds .any e || decide (e.on < j)) && ((D.getD j []).all fun i => decide (i < j)) &&
  ((List.range j).all fun i => depB D i j || (match all[i]? with | some p => disjB (dstL p) (tmpsO all o ++ dstL o) && disjB (dstL o) (tmpsO all p) | none => true))
def okD (all : List Oper) (D : List (List Nat)) : Bool := (List.range all.length).all fun j => match all[j]? with | some o => okDj all D j o | none => true
/-- a region whose order is drawn -/
def drawW (P : Program) (E : Env) (id : Nat) (all : List Oper) (K : St → Prop) (s : St) : Prop := okD all (E.dp id) = true ∧ drW P E id (E.dp id) all K 0 all [] s
/-- the machine's state fits memory and temporaries -/
def Inv (w0 : World) (M R : Nat → Prop) (args : List Value) (N : Nat) (s : St) (a : Act) (w : World) : Prop :=
  ∃ γ φ, Sim w0 M R γ φ s.tv s.sv a w ∧ (∀ n, s.ctr ≤ n → γ n = none) ∧ (∀ (i : Nat) (v : Value), args[i]? = some v → a.tmps.getD i undef = v) ∧ a.tmps.size = N
/-- no operation writes to a parameter, or beyond -/
def opDst (np N : Nat) (o : Oper) : Bool := match o.dst with | some t => decide (np ≤ t ∧ t < N) | none => true
/-- a region, of which it is known otherwise what state it leaves -/
def RegOk (P : Program) (id : Nat) (all : Array Oper) (s s' : St) : Prop :=
  ∀ (w0 : World) (M R : Nat → Prop) (args : List Value) (np N : Nat) (a : Act) (w : World), args.length ≤ np → (∀ o ∈ all.toList, opDst np N o = true) → Inv w0 M R args N s a w →
    (Code.region id all false).wp P (fun e a w => e = .normal ∧ Inv w0 M R args N s' a w) a w
abbrev BRK (_ : Program) (_ : Env) (_ : Nat) (_ : Array Oper) (_ : Po) (_ : St) : Type := Bool
def RK (P : Program) (E : Env) (id : Nat) (all : Array Oper) (Q : Po) (s : St) (q : BRK P E id all Q s) : Prop := match q with
  | false => opsW P E id all.toList (Q .normal) 0 all.toList (keep (E.kp id) (frz (E.fz id) s))
  | true => ∃ s', RegOk P id all (keep (E.kp id) (frz (E.fz id) s)) s' ∧ Q .normal s'
/-- the dependent type keeps simp away from text and what is behind it -/
abbrev SS (_ : Program) (_ : Env) (_ : Code) (_ : Po) : Type := St
def aw (P : Program) (E : Env) : (c : Code) → (Q : Po) → SS P E c Q → Prop
  | .skip, Q, s => Q .normal s
  | .seq x y, Q, s => aw P E x (Po.then (aw P E y Q) Q) s
  | .cond (.tmp t) x y, Q, s => CK (aw P E x Q s) (aw P E y Q s) (s.tv t)
  | .block id c, Q, s => aw P E c (Q.inBlock id) s
  | .exit id, Q, s => Q (.exit id) s
  | .ret, Q, s => Q .ret s
  | .loop c, Q, s => Lp (fun Q s => aw P E c Q (norm (E.kp (headId c)) s)) Q s
  | .region id all false, Q, s => RK P E id all Q s (E.ex id)
  | .region id all true, Q, s => drawW P E id all.toList (Q .normal) (keep (E.kp id) (frz (E.fz id) s))
  | _, _, _ => False
def dstOk (np N : Nat) : Code → Bool
  | .skip | .exit _ | .ret => true
  | .seq x y | .cond _ x y => dstOk np N x && dstOk np N y
  | .block _ c | .loop c => dstOk np N c
  | .region _ all _ => all.toList.all (opDst np N)
  | _ => false
end Go.Proofs.YtkkmgjhfjhcdmaaGreatDoor.Mx

/- Text, run by the machine: sound. -/
namespace Go.Proofs.YtkkmgjhfjhcdmaaGreatDoor.Mx
set_option linter.all false
open Go Go.RowKit
section
variable {w0 : World} {M R : Nat → Prop} {P : Program} {E : Env} {args : List Value} {np N : Nat}
theorem put_size (a : Act) (d : Option Tmp) (v : Value) : (a.put d v).tmps.size = a.tmps.size := by cases d <;> simp [Act.put]
theorem put_args (ha : args.length ≤ np) {a : Act} {o : Oper} (hd : opDst np N o = true) (hs : a.tmps.size = N) (hg : ∀ (i : Nat) (v : Value), args[i]? = some v → a.tmps.getD i undef = v) (u : Value) :
    (∀ t, o.dst = some t → t < a.tmps.size) ∧ ∀ (i : Nat) (v : Value), args[i]? = some v → (a.put o.dst u).tmps.getD i undef = v := by
  have hlt : ∀ t, o.dst = some t → np ≤ t ∧ t < N := fun t ht => by
    unfold opDst at hd
    rw [ht] at hd
    simpa using hd
  refine ⟨fun t ht => by rw [hs]; exact (hlt t ht).2, fun i v hi => ?_⟩
  rw [put_getD a o.dst u (fun t ht => by rw [hs]; exact (hlt t ht).2), if_neg]
  · exact hg i v hi
  · intro ht
    have := (hlt i ht).1
    have := idx_lt hi
    omega
theorem go_tv (s : St) (dst : Option Tmp) (d : Dl) : (s.go dst d).tv = updT s.tv dst d.val := put_tv s dst d
theorem go_sv (s : St) (dst : Option Tmp) (d : Dl) : (s.go dst d).sv = syncF d.upd s.sv := put_sv s dst d
theorem step_put (ha : args.length ≤ np) {s : St} {a : Act} {o : Oper} (hd : opDst np N o = true) {γ : Gs} (hc : ∀ n, s.ctr ≤ n → γ n = none) (hg : ∀ (i : Nat) (v : Value), args[i]? = some v → a.tmps.getD i undef = v) (hs : a.tmps.size = N)
    {d : Dl} {v : Value} {w' : World} {γ' : Gs} {φ' : Fp} (h1 : ∀ n, ¬ (s.ctr ≤ n ∧ n < s.ctr + 256) → γ' n = γ n) (h2 : Sim w0 M R γ' φ' s.tv (syncF d.upd s.sv) a w') (h3 : RepV w' (okOf w0 M R φ' (syncF d.upd s.sv) w') γ' v d.val) :
    Inv w0 M R args N (s.go o.dst d) (a.put o.dst v) w' := by
  obtain ⟨p1, p2⟩ := put_args ha hd hs hg v
  refine ⟨γ', φ', ?_, fun n hn => ?_, p2, (put_size a _ _).trans hs⟩
  · rw [go_tv, go_sv]
    exact h2.put p1 h3
  · have hn : s.ctr + 256 ≤ n := hn
    rw [h1 n (by omega)]
    exact hc n (by omega)
theorem step1_ok (hT : TOk P E.T) (ha : args.length ≤ np) {id i : Nat} {o : Oper} {K : St → Prop} {s : St} {a : Act} {w : World} (h : step1 P E id i o K s) (hI : Inv w0 M R args N s a w) (hd : opDst np N o = true) {next : Act → World → Prop} {Q : Exit → Act → World → Prop}
    (hK : ∀ s a w, K s → Inv w0 M R args N s a w → next a w) : o.wp P a w next Q := by
  obtain ⟨γ, φ, hS, hc, hg, hs⟩ := hI
  have hf : Fresh γ s.ctr := fun n h1 _ => hc n h1
  unfold step1 at h
  split at h
  · rename_i f xs ats ho
    obtain ⟨l, r, hl, hm, d, hd', hK'⟩ := h
    exact callOp_ok hS hf ho hl hm hd' next Q fun v w' γ' φ' h1 h2 h3 => hK _ _ _ hK' (step_put ha hd hc hg hs h1 h2 h3)
  · rename_i t x ho
    have he : execOp a.eval o = (do pure (.value (← Instr.range t (a.eval x)))) := by unfold execOp; rw [ho]
    have hm := h.1
    obtain ⟨kt, et, hu⟩ : ∃ kt et, P.underlying t = some (.map kt et) := by
      unfold isMap at hm
      split at hm
      · rename_i ti hti
        split at hm
        · rename_i kt et hk
          have := (hT _ _ hti).kd
          rw [hk] at this
          exact ⟨kt, et, this⟩
        · cases hm
      · cases hm
    have hv := opv_ok hS x
    have h := h.2
    revert h hv
    generalize opv s.tv x = y
    intro hv h
    cases y <;> try (exact h.elim)
    · rename_i m
      change RgB _ _ _ _ _ at h
      unfold RgB at h
      split at h
      · rename_i ver es hb
        refine OpStep.of_res ?_ next Q fun v w' γ' φ' h1 h2 h3 => hK _ _ _ h (step_put ha hd hc hg hs h1 h2 h3)
        rw [he]
        exact range_mv hS hf hu hb hv
      · exact h.elim
    · refine OpStep.of_res ?_ next Q fun v w' γ' φ' h1 h2 h3 => hK _ _ _ h (step_put ha hd hc hg hs h1 h2 h3)
      rw [he]
      exact range_ok hS hf hu hv
  · rename_i x ho
    have he : execOp a.eval o = (do pure (.value (← Instr.next (a.eval x) false o.type))) := by unfold execOp; rw [ho]
    have hv := opv_ok hS x
    revert h hv
    generalize opv s.tv x = y
    intro h hv
    unfold NxK at h
    split at h
    · rename_i m
      unfold NxB at h
      split at h
      · rename_i rem last hb
        obtain ⟨hp, hA, hB⟩ := h
        rcases next_ok (b := s.ctr) hS hb hv (ty := o.type) with ⟨hr, hres⟩ | ⟨kv, rem', hr, hres⟩
        · rw [← he] at hres
          exact OpStep.of_res hres next Q fun v w' γ' φ' h1 h2 h3 => hK _ _ _ (hA hr) (step_put ha hd hc hg hs h1 h2 h3)
        · have := List.all_eq_true.1 hp kv (hr.mem_iff.2 (List.mem_cons_self ..))
          rw [Bool.and_eq_true] at this
          have hres := hres this.1 this.2
          rw [← he] at hres
          exact OpStep.of_res hres next Q fun v w' γ' φ' h1 h2 h3 => hK _ _ _ (hB kv rem' hr) (step_put ha hd hc hg hs h1 h2 h3)
      · exact h.elim
    · exact h.elim
  · rename_i x ho
    have he : execOp a.eval o = (do pure (.value (← Instr.entry (a.eval x)))) := by unfold execOp; rw [ho]
    have hv := opv_ok hS x
    revert h hv
    generalize opv s.tv x = y
    intro h hv
    unfold EnK at h
    split at h
    · rename_i m
      unfold EnB at h
      split at h
      · rename_i rem kv hb
        obtain ⟨hp, hA⟩ := h
        rw [Bool.and_eq_true] at hp
        have hres := entry_ok (P := P) (b := s.ctr) hS hb hv hp.1 hp.2
        rw [← he] at hres
        exact OpStep.of_res hres next Q fun v w' γ' φ' h1 h2 h3 => hK _ _ _ hA (step_put ha hd hc hg hs h1 h2 h3)
      · exact h.elim
    · exact h.elim
  · obtain ⟨d, hd', hK'⟩ := h
    exact OpStep.of_res (aop_ok hT hS hf hd') next Q fun v w' γ' φ' h1 h2 h3 => hK _ _ _ hK' (step_put ha hd hc hg hs h1 h2 h3)
theorem dstAt_eq (l : List Oper) (j : Nat) : (l[j]?).bind (·.dst) = dstAt l j := by
  induction l generalizing j with
  | nil => simp [dstAt]
  | cons o l ih => cases j with
    | zero => simp [dstAt]
    | succ j => simpa [dstAt] using ih j
theorem gq_ok {all : Array Oper} {s : St} {a : Act} {w : World} (hI : Inv w0 M R args N s a w) (j : Nat) : (∀ q, gq all.toList s j = .sc (.bool q) → yielded all a.tmps j = some q) ∧ (gq all.toList s j = .tu [] → yielded all a.tmps j = none) := by
  obtain ⟨γ, φ, hS, _⟩ := hI
  have hd : (all[j]?).bind (·.dst) = dstAt all.toList j := by rw [← dstAt_eq]; simp
  unfold gq yielded
  rw [hd]
  cases dstAt all.toList j with
  | none => exact ⟨fun q h => by simp at h, fun h => by simp at h⟩
  | some t =>
    have ht := hS.tm t
    refine ⟨fun q h => ?_, fun h => ?_⟩
    · simp only at h
      rw [h] at ht
      obtain ⟨e, _⟩ := rep_sc ht
      have : a.tmps[t]? = some (.bool q) := by
        rw [Array.getD_eq_getD_getElem?] at e
        cases hh : a.tmps[t]? with
        | none => rw [hh] at e; simp [undef] at e
        | some u => rw [hh] at e; simp at e; rw [e]
      simp [this]
    · simp only at h
      rw [h] at ht
      obtain ⟨vs, e, hl, _⟩ := ht
      have hvs : vs = [] := List.eq_nil_of_length_eq_zero (by simpa using hl)
      subst hvs
      rw [Array.getD_eq_getD_getElem?] at e
      cases hh : a.tmps[t]? with
      | none => simp [hh]
      | some u => rw [hh] at e; simp at e; subst e; simp [hh]
theorem skip_ok (ha : args.length ≤ np) {s : St} {a : Act} {w : World} {o : Oper} (hI : Inv w0 M R args N s a w) (hd : opDst np N o = true) : Inv w0 M R args N (s.go o.dst ⟨.tu [], []⟩) (a.put o.dst undef) w := by
  obtain ⟨γ, φ, hS, hc, hg, hs⟩ := hI
  exact step_put ha hd hc hg hs (fun _ _ => rfl) hS ⟨[], rfl, rfl, fun j v x hv => by simp at hv⟩
theorem opsW_ok (hT : TOk P E.T) (ha : args.length ≤ np) {id : Nat} {all : Array Oper} {K : St → Prop} {Q : Exit → Act → World → Prop} (hK : ∀ s a w, K s → Inv w0 M R args N s a w → Q .normal a w) :
    ∀ (l : List Oper) (i : Nat) (s : St) (a : Act) (w : World), all.toList.drop i = l → (∀ o ∈ l, opDst np N o = true) → opsW P E id all.toList K i l s → Inv w0 M R args N s a w → wpOps P all Q (List.range' i l.length) a w
  | [], i, s, a, w, _, _, h, hI => hK s a w h hI
  | o :: l, i, s, a, w, hl, hd, h, hI => by
    have hi : all[i]? = some o := by
      have : all.toList[i]? = some o := by
        have h2 := congrArg (fun q => q[0]?) hl
        simpa using h2
      simpa using this
    have hl' : all.toList.drop (i + 1) = l := by
      have h2 := congrArg List.tail hl
      simpa using h2
    have hdo := hd o (by simp)
    have ih := opsW_ok (id := id) (all := all) hT ha hK l (i + 1)
    have hd' : ∀ o ∈ l, opDst np N o = true := fun o ho => hd o (List.mem_cons_of_mem _ ho)
    rw [List.length_cons, List.range'_succ]
    simp only [wpOps, hi]
    have run : ∀ s a w, step1 P E id i o (opsW P E id all.toList K (i + 1) l) s → Inv w0 M R args N s a w → o.wp P a w (wpOps P all Q (List.range' (i + 1) l.length)) Q := fun s a w h hI => step1_ok hT ha h hI hdo fun s a w hk hI => ih s a w hl' hd' hk hI
    simp only [opsW] at h
    cases hgd : o.guard with
    | none =>
      rw [hgd] at h
      rw [if_pos (by simp [Region.wanted, hgd])]
      exact .inl (run s a w h hI)
    | some jw =>
      obtain ⟨j, wt⟩ := jw
      rw [hgd] at h
      simp only at h
      obtain ⟨g1, g2⟩ := gq_ok (all := all) hI j
      have no : opsW P E id all.toList K (i + 1) l (s.go o.dst ⟨.tu [], []⟩) → wpOps P all Q (List.range' (i + 1) l.length) (a.put o.dst undef) w := fun h => ih _ _ _ hl' hd' h (skip_ok ha hI hdo)
      unfold GK at h
      split at h
      · rename_i q hq
        have hy := g1 q hq
        unfold Br at h
        split at h
        · rename_i hqw
          have hqw : q = wt := by simpa using hqw
          rw [if_pos (by simp [Region.wanted, hgd, hy, hqw])]
          exact .inl (run s a w h hI)
        · rename_i hqw
          rw [if_neg (by simp [Region.wanted, hgd, hy]; simpa using hqw)]
          exact no h
      · rename_i hq
        have hy := g2 hq
        rw [if_neg (by simp [Region.wanted, hgd, hy])]
        exact no h
      · exact h.elim
theorem sget_mem : ∀ {s : Sto} {m : Nat} {B : Blk}, sget s m = some B → (m, B) ∈ s
  | [], m, B, h => by cases h
  | (k, C) :: r, m, B, h => by
    rw [sget] at h
    cases hk : k == m with
    | true =>
      rw [hk, cond_true] at h
      cases h
      rw [beq_iff_eq] at hk
      subst hk
      exact List.mem_cons_self ..
    | false => rw [hk, cond_false] at h; exact List.mem_cons_of_mem _ (sget_mem h)
theorem unn1_ok {m : Nat} {s : St} {a : Act} {w : World} (hI : Inv w0 M R args N s a w) : Inv w0 M R args N (unn1 s m) a w := by
  unfold unn1
  split
  · rename_i p i j v hm
    split
    · rename_i zp v' rp hp
      split
      · rename_i z r hn
        cases hc : (v == v' && s.sto.all fun e => notSb m e.2) with
        | false => exact hI
        | true =>
          rw [cond_true]
          rw [Bool.and_eq_true] at hc
          obtain ⟨hv, hall⟩ := hc
          have hv : v = v' := beq_iff_eq.1 hv
          subst hv
          obtain ⟨γ, φ, h, h1, h2, h3⟩ := hI
          have hm : s.sv m = some (.sb p i j v) := hm
          have hp : s.sv p = some (.ar zp v rp) := hp
          have hkid : ∀ k i' j' v', s.sv k ≠ some (.sb m i' j' v') := fun k i' j' v' e => by
            have := List.all_eq_true.1 hall _ (sget_mem e)
            simp [notSb] at this
          obtain ⟨_, _, hh⟩ := h.bk m _ hm
          obtain ⟨u0, b', off', len', cap', q1, q2, q3⟩ := (hh zp v rp hp).2 rfl z r hn
          obtain ⟨v0, k1, k2⟩ := h.bk p _ hp
          rw [k1] at q2
          cases q2
          obtain ⟨b1, off1, cap1, G, u, e1, e2, e3, e4, e5, e6⟩ := own_cell k2 hn
          cases e1
          rw [q3] at e2
          cases e2
          have hlp := blk_live hp
          have hmp : m ≠ p := by rintro rfl; rw [hm] at hp; cases hp
          have hsv : sget (supd (supd s.sto p (some (.ar zp (v + 1) (rp.set i ((rp.getD i []).set j .no))))) m (some (.ar z 0 r))) = updS (updS s.sv p (some (.ar zp (v + 1) (rp.set i ((rp.getD i []).set j .no))))) m (some (.ar z 0 r)) := by
            rw [sget_supd, sget_supd]; rfl
          refine ⟨γ, fun k => if k = m then G else if k = p then (fun c => φ p c ∧ ¬ G c) else φ k, ?_, h1, h2, h3⟩
          show Sim _ _ _ _ _ s.tv (sget (supd (supd s.sto p (some (.ar zp (v + 1) (rp.set i ((rp.getD i []).set j .no))))) m (some (.ar z 0 r)))) _ _
          rw [hsv]
          generalize hsv' : updS (updS s.sv p (some (.ar zp (v + 1) (rp.set i ((rp.getD i []).set j .no))))) m (some (.ar z 0 r)) = sv'
          have sm : sv' m = some (.ar z 0 r) := by rw [← hsv']; exact upd_self
          have sp : sv' p = some (.ar zp (v + 1) (rp.set i ((rp.getD i []).set j .no))) := by rw [← hsv', upd_ne hmp]; exact upd_self
          have so : ∀ k, k ≠ m → k ≠ p → sv' k = s.sv k := fun k h1 h2 => by rw [← hsv', upd_ne (Ne.symm h1), upd_ne (Ne.symm h2)]
          refine (h.step (γ' := γ) (φ' := fun k => if k = m then G else if k = p then (fun c => φ p c ∧ ¬ G c) else φ k) (sv' := sv') (w' := w) (fun k => k = m ∨ k = p) (fun _ _ h => h)
            (fun k hk => ⟨so k (fun e => hk (.inl e)) (fun e => hk (.inr e)), by show (if _ then _ else _) = _; rw [if_neg (fun e => hk (.inl e)), if_neg (fun e => hk (.inr e))]⟩)
            h.fr (Kp.refl w) (Nat.le_refl _) (fun _ _ _ => rfl)
            (fun k c hk hl hc => by
              rcases hk with rfl | rfl
              · simp only [if_true] at hc
                exact ⟨(h.nw p c hlp (e4 c hc).1).1, .inr ⟨p, .inr rfl, hlp, (e4 c hc).1⟩⟩
              · simp only [if_neg (Ne.symm hmp), if_true] at hc
                exact ⟨(h.nw _ c hlp hc.1).1, .inr ⟨_, .inr rfl, hlp, hc.1⟩⟩)
            (fun k k' hk hk' hl hl' hne c hc hc' => by
              rcases hk with rfl | rfl <;> rcases hk' with rfl | rfl
              · exact hne rfl
              · simp only [if_true] at hc; simp only [if_neg (Ne.symm hmp), if_true] at hc'; exact hc'.2 hc
              · simp only [if_neg (Ne.symm hmp), if_true] at hc; simp only [if_true] at hc'; exact hc.2 hc'
              · exact hne rfl)
            (fun k p' i' j' v'' hk hs hp' => by
              obtain ⟨a0, a1, a2⟩ := h.bk k _ hs
              rcases hp' with rfl | rfl
              · exact (hkid k i' j' v'' hs).elim
              · refine ⟨a0, a1, fun zp' v3 rp' hh' => ?_⟩
                rw [sp] at hh'
                cases hh'
                have := (a2 zp v rp hp).1
                exact ⟨by omega, fun e => by omega⟩)
            (fun k p' v'' seen hk hs hp' => by
              obtain ⟨a0, b2, born, last, a1, a2, _⟩ := h.bk k _ hs
              refine ⟨a0, b2, born, last, a1, by show (if k = m then G else if k = p then (fun c => φ p c ∧ ¬ G c) else φ k) b2; rw [if_neg (fun e => hk (.inl e)), if_neg (fun e => hk (.inr e))]; exact a2, fun v3 es hh' => ?_⟩
              rcases hp' with rfl | rfl
              · rw [sm] at hh'; cases hh'
              · rw [sp] at hh'; cases hh')
            (fun hok k B' hk hB' => by
              rcases hk with rfl | rfl
              · rw [sm] at hB'
                cases hB'
                refine ⟨_, q1, ?_⟩
                simp only [if_true]
                exact e3.mono (fun c hc => hok c hc) _ fun c hc => ⟨hc, rfl⟩
              · rw [sp] at hB'
                cases hB'
                refine ⟨_, k1, ?_⟩
                simp only [if_neg (Ne.symm hmp), if_true]
                refine (e6 w _ (fun _ => False) .no (fun _ h => h.elim) (fun c hc hG => rfl) hok (own_of_rep rfl (.no _))).mono (fun c hc => ⟨hc, rfl⟩) _ fun c hc => ⟨⟨hc.1, fun hG => (hc.2 hG).elim⟩, rfl⟩)).1
      · exact hI
    · exact hI
  · exact hI
theorem unnL_ok {a : Act} {w : World} : ∀ (cs : Row) {s : St}, Inv w0 M R args N s a w → Inv w0 M R args N (unnL cs s) a w
  | [], _, h => h
  | x :: r, s, h => by
    cases x with
    | ow m lo n => exact unnL_ok r (unn1_ok h)
    | _ => exact unnL_ok r h
theorem frz1_ok {t : Nat} {s : St} {a : Act} {w : World} (hI : Inv w0 M R args N s a w) : Inv w0 M R args N (frz1 s t) a w := by
  obtain ⟨γ, φ, hS, h1, h2, h3⟩ := hI
  unfold frz1
  split
  · rename_i m lo n ht
    split
    · rename_i z v rows hm
      have hm : s.sv m = some (.ar z v rows) := hm
      obtain ⟨v0, hg, ho⟩ := hS.bk m _ hm
      have hl : live s.sv m := by unfold live; rw [hm]; rfl
      have hsv : sget (supd s.sto m (some (.fz z rows))) = updS s.sv m (some (.fz z rows)) := sget_supd _ _ _
      refine ⟨γ, fun k b => k ≠ m ∧ φ k b, ?_, h1, h2, h3⟩
      show Sim _ _ _ _ _ s.tv (sget (supd s.sto m (some (.fz z rows)))) _ _
      rw [hsv]
      refine (hS.step (fun k => k = m) (φ' := fun k b => k ≠ m ∧ φ k b) (fun _ _ h => h) (fun k hk => ⟨upd_ne (Ne.symm hk), by funext b; exact propext ⟨fun h => h.2, fun h => ⟨hk, h⟩⟩⟩) hS.fr (Kp.refl w) (Nat.le_refl _) (fun _ _ _ => rfl) ?_ ?_ ?_ ?_ ?_).1
      · rintro k b rfl _ hb; exact (hb.1 rfl).elim
      · rintro k n rfl rfl _ _ hne; exact (hne rfl).elim
      · intro k p i j v hk hs hp
        exact ⟨(hS.bk k _ hs).1, (hS.bk k _ hs).2.1, fun zp v' rp hh => by subst hp; have hh : updS s.sv p (some (Blk.fz z rows)) p = _ := hh; rw [upd_self] at hh; cases hh⟩
      · intro k p v seen hk hs hp
        obtain ⟨h0, b2, born2, last2, g1, g2, g3⟩ := hS.bk k _ hs
        exact ⟨h0, b2, born2, last2, g1, ⟨hk, g2⟩, fun v' es' hh => by subst hp; have hh : updS s.sv p (some (Blk.fz z rows)) p = _ := hh; rw [upd_self] at hh; cases hh⟩
      · rintro hok k B rfl hB
        rw [upd_self] at hB
        cases hB
        refine ⟨v0, hg, (Own.rep (ok' := okOf w0 M R (fun k' b => k' ≠ k ∧ φ k' b) (updS s.sv k (some (.fz z rows))) w) (fun b hb => (hok b hb).1) ho fun b hb => ?_).flag⟩
        refine ⟨(hS.nw k b hl hb).1, .inr (hS.nw k b hl hb).2, fun n' hn' hb' => ?_⟩
        have hn2 : live s.sv n' := by unfold live at hn' ⊢; rwa [upd_ne (Ne.symm hb'.1)] at hn'
        exact hS.dj k n' hl hn2 (Ne.symm hb'.1) b hb hb'.2
    · exact ⟨γ, φ, hS, h1, h2, h3⟩
  · split
    · exact unnL_ok _ ⟨γ, φ, hS, h1, h2, h3⟩
    · exact ⟨γ, φ, hS, h1, h2, h3⟩
  · exact ⟨γ, φ, hS, h1, h2, h3⟩
theorem frz_ok {a : Act} {w : World} : ∀ {ts : List Nat} {s : St}, Inv w0 M R args N s a w → Inv w0 M R args N (frz ts s) a w
  | [], _, h => h
  | t :: r, s, h => frz_ok (ts := r) (s := frz1 s t) (frz1_ok h)
theorem keep_ok {ks : List Nat} {s : St} {a : Act} {w : World} (hI : Inv w0 M R args N s a w) : Inv w0 M R args N (keep ks s) a w := by
  obtain ⟨γ, φ, hS, h1, h2, h3⟩ := hI
  refine ⟨γ, φ, ⟨hS.fr, hS.cl, hS.df, hS.dj, hS.nw, fun t => ?_, hS.bk⟩, h1, h2, h3⟩
  have : ∀ ks : List Nat, tget (ks.map fun t => (t, tget s.tm t)) t = tget s.tm t ∨ tget (ks.map fun t => (t, tget s.tm t)) t = .no := by
    intro ks
    induction ks with
    | nil => exact .inr rfl
    | cons k ks ih =>
      simp only [List.map_cons, tget, cond_eq_ite, beq_iff_eq]
      by_cases hk : k = t
      · rw [if_pos hk, hk]; exact .inl rfl
      · rw [if_neg hk]; exact ih
  rcases this ks with h | h
  · show RepV _ _ _ _ (tget _ t)
    rw [keep, h]
    exact hS.tm t
  · show RepV _ _ _ _ (tget _ t)
    rw [keep, h]
    exact Rep.no _
end
end Go.Proofs.YtkkmgjhfjhcdmaaGreatDoor.Mx

/- A loop's head: names anew. -/
namespace Go.Proofs.YtkkmgjhfjhcdmaaGreatDoor.Mx
set_option linter.all false
open Go Go.RowKit
section
variable {w0 : World} {M R : Nat → Prop} {P : Program} {E : Env} {args : List Value} {np N : Nat}
theorem dedup_nd : ∀ (l acc : List Nat), acc.Nodup → (dedup acc l).Nodup
  | [], acc, h => by
    have : ∀ (l : List Nat), l.Nodup → l.reverse.Nodup := fun l h => by
      induction l with
      | nil => exact h
      | cons x r ih =>
        rw [List.nodup_cons] at h
        rw [List.reverse_cons, List.nodup_append]
        refine ⟨ih h.2, by simp, fun a ha b hb => ?_⟩
        simp at ha hb
        subst hb
        rintro rfl
        exact h.1 ha
    exact this acc h
  | x :: r, acc, h => by
    simp only [dedup, cond_eq_ite]
    split
    · exact dedup_nd r acc h
    · rename_i hx
      refine dedup_nd r _ (List.nodup_cons.2 ⟨by simpa using hx, h⟩)
theorem idx_some : ∀ (L : List Nat) (k m n : Nat), idx L k m = some n → k ≤ n ∧ n < k + L.length ∧ L.getD (n - k) 0 = m
  | [], k, m, n, h => by simp [idx] at h
  | x :: r, k, m, n, h => by
    simp only [idx, cond_eq_ite, beq_iff_eq] at h
    split at h
    · rename_i hx
      cases h
      exact ⟨Nat.le_refl _, by simp, by simp [hx]⟩
    · obtain ⟨h1, h2, h3⟩ := idx_some r (k + 1) m n h
      refine ⟨by omega, by simp only [List.length_cons]; omega, ?_⟩
      rw [show n - k = (n - (k + 1)) + 1 by omega]
      simpa using h3
theorem rnS_get (L : List Nat) (sv : Sv) (n : Nat) : ∀ (L' : List Nat) (k : Nat), sget (rnS L sv k L') n = if k ≤ n ∧ n < k + L'.length then (sv (L'.getD (n - k) 0)).bind (rnB L sv) else none
  | [], k => by
    rw [if_neg (by simp only [List.length_nil]; omega)]
    rfl
  | m :: r, k => by
    have ih := rnS_get L sv n r (k + 1)
    have hsame : k ≠ n → (if k + 1 ≤ n ∧ n < k + 1 + r.length then (sv (r.getD (n - (k + 1)) 0)).bind (rnB L sv) else none) = if k ≤ n ∧ n < k + (m :: r).length then (sv ((m :: r).getD (n - k) 0)).bind (rnB L sv) else none := fun hne => by
      by_cases h : k ≤ n ∧ n < k + (m :: r).length
      · simp only [List.length_cons] at h
        rw [if_pos (by omega), if_pos (by simp only [List.length_cons]; omega), show n - k = (n - (k + 1)) + 1 by omega]
        simp
      · simp only [List.length_cons] at h
        rw [if_neg (by omega), if_neg (by simp only [List.length_cons]; omega)]
    have hhere : k = n → (if k + 1 ≤ n ∧ n < k + 1 + r.length then (sv (r.getD (n - (k + 1)) 0)).bind (rnB L sv) else none) = none := fun e => by rw [if_neg (by omega)]
    simp only [rnS]
    cases hm : sv m with
    | none =>
      simp only []
      rw [ih]
      by_cases hk : k = n
      · rw [hhere hk, if_pos (by simp only [List.length_cons]; omega), hk]; simp [hm]
      · exact hsame hk
    | some B =>
      simp only []
      cases hB : rnB L sv B with
      | none =>
        simp only []
        rw [ih]
        by_cases hk : k = n
        · rw [hhere hk, if_pos (by simp only [List.length_cons]; omega), hk]; simp [hm, hB]
        · exact hsame hk
      | some C =>
        simp only [sget, cond_eq_ite, beq_iff_eq]
        by_cases hk : k = n
        · rw [if_pos hk, if_pos (by simp only [List.length_cons]; omega), hk]; simp [hm, hB]
        · rw [if_neg hk, ih]; exact hsame hk
def γL (L : List Nat) (γ : Gs) : Gs := fun n => if 1 ≤ n ∧ n < 1 + L.length then γ (L.getD (n - 1) 0) else none
def φL (L : List Nat) (φ : Fp) : Fp := fun n b => (1 ≤ n ∧ n < 1 + L.length) ∧ φ (L.getD (n - 1) 0) b
theorem γL_idx {L : List Nat} {γ : Gs} {m k : Nat} (h : idx L 1 m = some k) : γL L γ k = γ m := by
  obtain ⟨h1, h2, h3⟩ := idx_some L 1 m k h
  unfold γL
  rw [if_pos ⟨h1, h2⟩, h3]
theorem rn1_ok {L : List Nat} {w : World} {ok ok' : Nat → Prop} {γ : Gs} {v : Value} {x : AV} (hok : ∀ b, ok b → ok' b) (h : RepC w ok γ v x) : RepC w ok' (γL L γ) v (rn1 L x) := by
  have up : ∀ {x}, Rep w ok v x → Rep w ok' v x := fun r => r.mono fun b hb => ⟨hok b hb, rfl⟩
  cases x with
  | ow m lo n =>
    simp only [rn1]
    cases hi : idx L 1 m with
    | none => exact Rep.no _
    | some k => obtain ⟨v0, z, h1, h2⟩ := h; exact ⟨v0, z, (γL_idx hi).trans h1, h2⟩
  | pt m i j =>
    simp only [rn1]
    cases hi : idx L 1 m with
    | none => exact Rep.no _
    | some k => obtain ⟨v0, z, h1, h2⟩ := h; exact ⟨v0, z, (γL_idx hi).trans h1, h2⟩
  | mv m =>
    simp only [rn1]
    cases hi : idx L 1 m with
    | none => exact Rep.no _
    | some k => obtain ⟨r, z, h1, h2⟩ := h; exact ⟨r, z, h1, (γL_idx hi).trans h2⟩
  | ag cs => exact h.elim
  | tu cs => exact h.elim
  | _ => exact up h
theorem rnA_ok {L : List Nat} {w : World} {ok ok' : Nat → Prop} {γ : Gs} {v : Value} {x : AV} (hok : ∀ b, ok b → ok' b) (h : RepV w ok γ v x) : RepV w ok' (γL L γ) v (rnA L x) := by
  have small : ∀ y, rnA L y = rn1 L y → (∀ cs, rn1 L y ≠ .ag cs) → (∀ cs, rn1 L y ≠ .tu cs) → RepC w ok γ v y → RepV w ok' (γL L γ) v (rnA L y) := by
    intro y h1 h2 h3 hc
    have := rn1_ok (L := L) hok hc
    rw [h1]
    revert this h2 h3
    generalize rn1 L y = q
    intro h2 h3 this
    cases q <;> first | exact this | exact (h2 _ rfl).elim | exact (h3 _ rfl).elim
  cases x with
  | ag cs =>
    obtain ⟨vs, rfl, hl, hr⟩ := h
    refine ⟨vs, rfl, by rw [List.length_map]; exact hl, fun j u y hu hy => ?_⟩
    simp only [List.getElem?_map, Option.map_eq_some_iff] at hy
    obtain ⟨x, hx, rfl⟩ := hy
    exact ⟨rn1_ok hok (hr j u x hu hx).1, (hr j u x hu hx).2⟩
  | tu cs =>
    cases cs with
    | nil => obtain ⟨vs, rfl, hl, _⟩ := h; exact ⟨vs, rfl, hl, fun j u y hu hy => by simp at hy⟩
    | cons => exact Rep.no _
  | ow m lo n => exact small _ rfl (fun cs h => by simp only [rn1] at h; split at h <;> cases h) (fun cs h => by simp only [rn1] at h; split at h <;> cases h) h
  | pt m lo n => exact small _ rfl (fun cs h => by simp only [rn1] at h; split at h <;> cases h) (fun cs h => by simp only [rn1] at h; split at h <;> cases h) h
  | mv m => exact small _ rfl (fun cs h => by simp only [rn1] at h; split at h <;> cases h) (fun cs h => by simp only [rn1] at h; split at h <;> cases h) h
  | _ => exact small _ rfl (fun cs h => by simp [rn1] at h) (fun cs h => by simp [rn1] at h) h
theorem normL_ok {L ks : List Nat} (hL : L.Nodup) {s : St} {a : Act} {w : World} (hI : Inv w0 M R args N s a w) : Inv w0 M R args N (normL L ks s) a w := by
  obtain ⟨γ, φ, hS, hc, hg, hs⟩ := hI
  have hsv : ∀ n, (normL L ks s).sv n = if 1 ≤ n ∧ n < 1 + L.length then (s.sv (L.getD (n - 1) 0)).bind (rnB L s.sv) else none := fun n => rnS_get L s.sv n L 1
  have lv : ∀ n, live (normL L ks s).sv n → (1 ≤ n ∧ n < 1 + L.length) ∧ live s.sv (L.getD (n - 1) 0) := fun n hl => by
    unfold live at hl
    rw [hsv] at hl
    split at hl
    · rename_i hn
      refine ⟨hn, ?_⟩
      unfold live
      cases hh : s.sv (L.getD (n - 1) 0) with
      | none => rw [hh] at hl; simp at hl
      | some B => rfl
    · simp at hl
  have inj : ∀ m n, (1 ≤ m ∧ m < 1 + L.length) → (1 ≤ n ∧ n < 1 + L.length) → L.getD (m - 1) 0 = L.getD (n - 1) 0 → m = n := fun m n hm hn he => by
    have h1 : m - 1 < L.length := by omega
    have h2 : n - 1 < L.length := by omega
    rw [List.getD_eq_getElem?_getD, List.getD_eq_getElem?_getD, List.getElem?_eq_getElem h1, List.getElem?_eq_getElem h2] at he
    simp only [Option.getD_some] at he
    rcases Nat.lt_trichotomy (m - 1) (n - 1) with h | h | h
    · exact ((List.pairwise_iff_getElem.1 hL _ _ h1 h2 h) he).elim
    · omega
    · exact ((List.pairwise_iff_getElem.1 hL _ _ h2 h1 h) he.symm).elim
  have hok : ∀ b, okOf w0 M R φ s.sv w b → okOf w0 M R (φL L φ) (normL L ks s).sv w b := fun b hb => ⟨hb.1, hb.2.1, fun n hl hn => hb.2.2 _ (lv n hl).2 hn.2⟩
  refine ⟨γL L γ, φL L φ, ⟨hS.fr, hS.cl, hS.df, ?_, ?_, ?_, ?_⟩, ?_, hg, hs⟩
  · intro m n hm hn hne b hb hb'
    exact hS.dj _ _ (lv m hm).2 (lv n hn).2 (fun e => hne (inj m n (lv m hm).1 (lv n hn).1 e)) b hb.2 hb'.2
  · intro m b hm hb
    exact hS.nw _ b (lv m hm).2 hb.2
  · intro t
    have : ∀ ks : List Nat, tget (ks.map fun t => (t, rnA L (s.tv t))) t = rnA L (s.tv t) ∨ tget (ks.map fun t => (t, rnA L (s.tv t))) t = .no := by
      intro ks
      induction ks with
      | nil => exact .inr rfl
      | cons k ks ih =>
        simp only [List.map_cons, tget, cond_eq_ite, beq_iff_eq]
        by_cases hk : k = t
        · rw [if_pos hk, hk]; exact .inl rfl
        · rw [if_neg hk]; exact ih
    show RepV _ _ _ _ (tget _ t)
    rcases this ks with h | h
    · simp only [normL]
      rw [h]
      exact rnA_ok hok (hS.tm t)
    · simp only [normL]
      rw [h]
      exact Rep.no _
  · intro n C hC
    rw [hsv] at hC
    split at hC
    · rename_i hn
      have gn : γL L γ n = γ (L.getD (n - 1) 0) := by unfold γL; rw [if_pos hn]
      have pn : ∀ b, φ (L.getD (n - 1) 0) b → φL L φ n b := fun b hb => ⟨hn, hb⟩
      cases hB : s.sv (L.getD (n - 1) 0) with
      | none => rw [hB] at hC; simp at hC
      | some B =>
        rw [hB] at hC
        simp only [Option.bind_some] at hC
        have hk := hS.bk _ B hB
        cases B with
        | bx cs =>
          simp only [rnB] at hC
          cases hC
          obtain ⟨b, cur, e, fr, k1, k2, k3, k4, k5, k6⟩ := hk
          refine ⟨b, cur, e, fr, gn.trans k1, pn b k2, k3, k4, by rw [List.length_map]; exact k5, fun j x hj => ?_⟩
          simp only [List.getElem?_map, Option.map_eq_some_iff] at hj
          obtain ⟨y, hy, rfl⟩ := hj
          exact ⟨rn1_ok hok (k6 j y hy).1, (k6 j y hy).2⟩
        | ar z v r =>
          simp only [rnB] at hC
          cases hC
          obtain ⟨v0, k1, k2⟩ := hk
          exact ⟨v0, gn.trans k1, k2.mono (fun b hb => ⟨hok b hb, rfl⟩) _ fun b hb => ⟨pn b hb, rfl⟩⟩
        | fz z r =>
          simp only [rnB] at hC
          cases hC
          obtain ⟨v0, k1, k2⟩ := hk
          exact ⟨v0, gn.trans k1, k2.mono fun b hb => ⟨hok b hb, rfl⟩⟩
        | sb => simp [rnB] at hC
        | mp v es =>
          simp only [rnB] at hC
          cases hC
          obtain ⟨r, ents, clock, k1, k2, k3⟩ := hk
          exact ⟨r, ents, clock, gn.trans k1, pn r k2, k3⟩
        | im rem last =>
          simp only [rnB] at hC
          cases hC
          obtain ⟨b, r, ents, clock, born, k1, k2, k3, k4, k5⟩ := hk
          exact ⟨b, r, ents, clock, born, gn.trans k1, pn b k2, k3, hok r k4, k5⟩
        | it p v seen =>
          simp only [rnB] at hC
          split at hC
          · rename_i v' es k hp hi
            rw [cond_eq_ite] at hC
            split at hC
            · rename_i hv
              have hv : v = v' := by simpa using hv
              cases hC
              obtain ⟨⟨g, hg'⟩, b, born, last, k1, k2, k3⟩ := hk
              refine ⟨⟨g, (γL_idx hi).trans hg'⟩, b, born, last, gn.trans k1, pn b k2, fun v2 es2 hh => ⟨Nat.zero_le _, fun _ => ?_⟩⟩
              obtain ⟨i1, i2, i3⟩ := idx_some L 1 p k hi
              rw [hsv, if_pos ⟨i1, i2⟩, i3, hp] at hh
              simp only [Option.bind_some, rnB, Option.some.injEq, Blk.mp.injEq] at hh
              obtain ⟨rfl, rfl⟩ := hh
              obtain ⟨r, ents, clock, q1, q2⟩ := (k3 v' _ hp).2 hv
              exact ⟨r, ents, clock, (γL_idx hi).trans q1, q2⟩
            · cases hC
          · cases hC
    · cases hC
  · intro n hn
    have hn : L.length + 1 ≤ n := hn
    unfold γL
    rw [if_neg (by omega)]
theorem norm_ok {ks : List Nat} {s : St} {a : Act} {w : World} (hI : Inv w0 M R args N s a w) : Inv w0 M R args N (norm ks s) a w := normL_ok (dedup_nd _ [] (by simp)) hI
end
end Go.Proofs.YtkkmgjhfjhcdmaaGreatDoor.Mx

/- Orders: what is apart may be done in any order (plain). -/
namespace Go.Proofs.YtkkmgjhfjhcdmaaGreatDoor.Mx
set_option linter.all false
section
variable {Loc X : Type} [DecidableEq Loc]
def setF : List (Loc × X) → (Loc → X) → Loc → X
  | [], s => s
  | (l, x) :: r, s => setF r (fun k => if l = k then x else s k)
theorem setF_out : ∀ (u : List (Loc × X)) (s : Loc → X) (k : Loc), (∀ x, (k, x) ∉ u) → setF u s k = s k
  | [], _, _, _ => rfl
  | (l, x) :: r, s, k, h => by
    simp only [setF]
    rw [setF_out r _ k fun x hx => h x (List.mem_cons_of_mem _ hx), if_neg]
    rintro rfl
    exact h x (by simp)
theorem setF_in : ∀ (u : List (Loc × X)) (s s' : Loc → X) (k : Loc), (∃ x, (k, x) ∈ u) → setF u s k = setF u s' k
  | [], _, _, _, h => by obtain ⟨x, hx⟩ := h; simp at hx
  | (l, x) :: r, s, s', k, h => by
    simp only [setF]
    by_cases hr : ∃ y, (k, y) ∈ r
    · exact setF_in r _ _ k hr
    · rw [setF_out r _ k fun y hy => hr ⟨y, hy⟩, setF_out r _ k fun y hy => hr ⟨y, hy⟩]
      obtain ⟨y, hy⟩ := h
      rcases List.mem_cons.1 hy with hy | hy
      · cases hy; simp
      · exact (hr ⟨y, hy⟩).elim
/-- the writes of those in L, in order -/
def foldW (W : Nat → List (Loc × X)) (L : Nat → Prop) [DecidablePred L] (s : Loc → X) : Nat → Loc → X
  | 0 => s
  | n + 1 => if L n then setF (W n) (foldW W L s n) else foldW W L s n
def Wr (W : Nat → List (Loc × X)) (i : Nat) (k : Loc) : Prop := ∃ x, (k, x) ∈ W i
theorem foldW_eq {W : Nat → List (Loc × X)} {L L' : Nat → Prop} [DecidablePred L] [DecidablePred L'] {s : Loc → X} {k : Loc} : ∀ (n : Nat), (∀ i, i < n → Wr W i k → (L i ↔ L' i)) → foldW W L s n k = foldW W L' s n k
  | 0, _ => rfl
  | n + 1, h => by
    have ih := foldW_eq (W := W) (L := L) (L' := L') (s := s) (k := k) n fun i hi => h i (by omega)
    simp only [foldW]
    by_cases hw : Wr W n k
    · have hn := h n (by omega) hw
      by_cases hL : L n
      · rw [if_pos hL, if_pos (hn.1 hL)]; exact setF_in _ _ _ _ hw
      · rw [if_neg hL, if_neg fun h' => hL (hn.2 h')]; exact ih
    · have ho : ∀ t : Loc → X, setF (W n) t k = t k := fun t => setF_out _ _ _ fun x hx => hw ⟨x, hx⟩
      by_cases hL : L n <;> by_cases hL' : L' n <;> simp only [hL, hL', if_true, if_false, ho] <;> exact ih
/-- what comes behind does not write there -/
theorem foldW_last {W : Nat → List (Loc × X)} {L : Nat → Prop} [DecidablePred L] {s : Loc → X} {k : Loc} {j : Nat} (hj : L j) (hw : Wr W j k) : ∀ (n : Nat), j < n → (∀ i, j < i → i < n → L i → ¬ Wr W i k) → ∀ t, foldW W L s n k = setF (W j) t k
  | 0, h, _, _ => by omega
  | n + 1, h, hn, t => by
    simp only [foldW]
    by_cases e : j = n
    · subst e
      rw [if_pos hj]
      exact setF_in _ _ _ _ hw
    · have ih := foldW_last (s := s) hj hw n (by omega) (fun i h1 h2 => hn i h1 (by omega)) t
      by_cases hL : L n
      · rw [if_pos hL, setF_out _ _ _ fun x hx => hn n (by omega) (by omega) hL ⟨x, hx⟩]; exact ih
      · rw [if_neg hL]; exact ih
/-- things that are apart: none writes what the other reads or writes -/
structure Apart (n : Nat) (W : Nat → List (Loc × X)) (rd : Nat → Loc → Prop) (dep : Nat → Nat → Prop) : Prop where
  lt : ∀ i j, j < n → dep i j → i < j
  wr : ∀ i j k, i < j → j < n → ¬ dep i j → Wr W i k → ¬ rd j k ∧ ¬ Wr W j k
  rw : ∀ i j k, i < j → j < n → ¬ dep i j → Wr W j k → ¬ rd i k
variable {n : Nat} {W : Nat → List (Loc × X)} {rd : Nat → Loc → Prop} {dep : Nat → Nat → Prop} {L : Nat → Prop} [DecidablePred L] {s : Loc → X}
theorem fold_reads (hA : Apart n W rd dep) (hL : ∀ i j, j < n → L j → dep i j → L i) {j : Nat} (hj : j < n) (hn : ¬ L j) (hd : ∀ i, dep i j → L i) {k : Loc} (hk : rd j k) : foldW W L s n k = foldW W (fun _ => True) s j k := by
  have e : foldW W (fun _ => True) s j k = foldW W (fun i => i < j) s n k := by
    have : ∀ m, j ≤ m → foldW W (fun i => i < j) s m k = foldW W (fun _ => True) s j k := by
      intro m hm
      induction m with
      | zero => have : j = 0 := by omega
                subst this; rfl
      | succ m ih =>
        by_cases h : j = m + 1
        · subst h
          exact foldW_eq _ fun i hi _ => ⟨fun _ => trivial, fun _ => hi⟩
        · simp only [foldW]
          rw [if_neg (by omega)]
          exact ih (by omega)
    exact (this n (by omega)).symm
  rw [e]
  refine foldW_eq n fun i hi hw => ⟨fun hLi => ?_, fun hij => ?_⟩
  · rcases Nat.lt_trichotomy i j with h | h | h
    · exact h
    · subst h; exact (hn hLi).elim
    · by_cases hd' : dep j i
      · exact (hn (hL j i hi hLi hd')).elim
      · exact (hA.rw j i k h hi hd' hw hk).elim
  · by_cases hd' : dep i j
    · exact hd i hd'
    · exact ((hA.wr i j k hij hj hd' hw).1 hk).elim
theorem fold_add (hA : Apart n W rd dep) (hL : ∀ i j, j < n → L j → dep i j → L i) {j : Nat} (hj : j < n) (hn : ¬ L j) : foldW W (fun i => L i ∨ i = j) s n = setF (W j) (foldW W L s n) := by
  funext k
  by_cases hw : Wr W j k
  · refine foldW_last (.inr rfl) hw n hj (fun i h1 h2 hLi hwi => ?_) _
    have hLi : L i := hLi.resolve_right (by omega)
    by_cases hd' : dep j i
    · exact hn (hL j i h2 hLi hd')
    · exact (hA.wr j i k h1 h2 hd' hw).2 hwi
  · rw [setF_out _ _ _ fun x hx => hw ⟨x, hx⟩]
    exact foldW_eq n fun i hi hwi => ⟨fun h => h.resolve_right fun e => hw (e ▸ hwi), .inl⟩
end
end Go.Proofs.YtkkmgjhfjhcdmaaGreatDoor.Mx

/- What an operation looks at. -/
namespace Go.Proofs.YtkkmgjhfjhcdmaaGreatDoor.Mx
set_option linter.all false
open Go Go.RowKit
section
variable {sv sv' : Sv} {T : Ty}
theorem blkRows_congr {m : Nat} (h : ∀ k ∈ rts sv m, sv k = sv' k) : blkRows sv m = blkRows sv' m := by
  have h0 := h m (by simp [rts])
  unfold blkRows
  rw [← h0]
  cases hm : sv m with
  | none => rfl
  | some B =>
    cases B with
    | sb p i j v =>
      have h1 := h p (by simp [rts, hm])
      simp only [← h1]
    | _ => rfl
theorem supA_name {x : AV} {m : Nat} (hm : m ∈ namesA x) (h : ∀ k ∈ supA sv x, sv k = sv' k) : ∀ k ∈ rts sv m, sv k = sv' k := fun k hk => h k (List.mem_flatMap.2 ⟨m, hm, List.mem_append_left _ hk⟩)
theorem rowsOf_congr {x : AV} (h : ∀ k ∈ supA sv x, sv k = sv' k) : rowsOf sv x = rowsOf sv' x := by
  cases x with
  | ow m lo n => simp only [rowsOf, blkRows_congr (supA_name (m := m) (by simp [namesA, names1]) h)]
  | _ => rfl
theorem pIndexAddr_congr {z : Nat} {x : AV} {i : Int} (h : ∀ k ∈ supA sv x, sv k = sv' k) : pIndexAddr z x i sv = pIndexAddr z x i sv' := by
  cases x with
  | ow m lo n =>
    have hn := supA_name (m := m) (by simp [namesA, names1]) h
    have h0 := hn m (by simp [rts])
    simp only [pIndexAddr, blkRows_congr hn, ← h0]
  | _ => rfl
theorem pSlice_congr {z : Nat} {x : AV} {lo hi mx : Option Int} (h : ∀ k ∈ supA sv x, sv k = sv' k) : pSlice z x lo hi mx sv = pSlice z x lo hi mx sv' := by
  cases x with
  | ow m l0 n0 => simp only [pSlice, blkZ, blkRows_congr (supA_name (m := m) (by simp [namesA, names1]) h)]
  | _ => rfl
theorem srcOf_congr {fl : Bool} {x : AV} (h : ∀ k ∈ supA sv x, sv k = sv' k) : srcOf fl x sv = srcOf fl x sv' := by
  cases x with
  | ow m lo n =>
    have hn := supA_name (m := m) (by simp [namesA, names1]) h
    have h0 := hn m (by simp [rts])
    simp only [srcOf, blkRows_congr hn, ← h0]
  | sc v => cases v <;> rfl
  | _ => rfl
theorem pAppend_congr {z bytes b : Nat} {fl nil : Bool} {s x : AV} (hs : ∀ k ∈ supA sv s, sv k = sv' k) (hx : ∀ k ∈ supA sv x, sv k = sv' k) : pAppend z bytes b fl nil s x sv = pAppend z bytes b fl nil s x sv' := by
  simp only [pAppend, ← srcOf_congr hx]
  cases s with
  | ow m lo n =>
    have hn := supA_name (m := m) (by simp [namesA, names1]) hs
    have h0 := hn m (by simp [rts])
    simp only [blkRows_congr hn, ← h0]
    cases hm : sv m with
    | none => rfl
    | some B =>
      cases B with
      | sb p i j v =>
        have h1 := hn p (by simp [rts, hm])
        simp only [← h1]
      | _ => rfl
  | _ => rfl
theorem putRows_congr {m : Nat} {bp : Bool} {f : List Row → Option (List Row)} (h : ∀ k ∈ rts sv m, sv k = sv' k) : putRows sv m bp f = putRows sv' m bp f := by
  have h0 := h m (by simp [rts])
  unfold putRows
  rw [← h0]
  cases hm : sv m with
  | none => rfl
  | some B =>
    cases B with
    | sb p i j v =>
      have h1 := h p (by simp [rts, hm])
      simp only [← h1]
    | _ => rfl
theorem pCopy_congr {z : Nat} {d x : AV} (hd : ∀ k ∈ supA sv d, sv k = sv' k) (hx : ∀ k ∈ supA sv x, sv k = sv' k) : pCopy z d x sv = pCopy z d x sv' := by
  simp only [pCopy, ← rowsOf_congr hx]
  cases rowsOf sv x with
  | none => rfl
  | some q =>
    obtain ⟨y, B⟩ := q
    cases d with
    | ow m lo n =>
      have hn := supA_name (m := m) (by simp [namesA, names1]) hd
      simp only [blkRows_congr hn, putRows_congr hn]
    | _ => rfl
theorem cnv_congr {m i ver : Nat} {old : Row} : ∀ (cs : Row) (j : Nat), (∀ x ∈ cs, ∀ k ∈ names1 x, sv k = sv' k) → cnv sv m i ver old j cs = cnv sv' m i ver old j cs
  | [], _, _ => rfl
  | x :: q, j, h => by
    simp only [cnv, cnv_congr q (j + 1) fun y hy => h y (List.mem_cons_of_mem _ hy)]
    cases x with
    | ow k lo n => simp only [h _ (List.mem_cons_self ..) k (by simp [names1])]
    | _ => rfl
theorem cells_names {x : AV} {cs : Row} (hc : cellsOf x = some cs) : ∀ y ∈ cs, ∀ k ∈ names1 y, k ∈ namesA x := by
  intro y hy k hk
  cases x <;> simp only [cellsOf, Option.some.injEq, reduceCtorEq] at hc <;> subst hc <;> first | exact List.mem_flatMap.2 ⟨y, hy, hk⟩ | (simp only [List.mem_singleton] at hy; subst hy; exact hk)
theorem self_sup {x : AV} {m : Nat} (hm : m ∈ namesA x) : m ∈ supA sv x := List.mem_flatMap.2 ⟨m, hm, List.mem_append_left _ (by simp [rts])⟩
theorem pStore_congr {ti : TI} {p x : AV} (hp : ∀ k ∈ supA sv p, sv k = sv' k) (hx : ∀ k ∈ supA sv x, sv k = sv' k) : pStore ti p x sv = pStore ti p x sv' := by
  unfold pStore
  cases p with
  | pt m i j =>
    have hn := supA_name (m := m) (by simp [namesA, names1]) hp
    have h0 := hn m (by simp [rts])
    cases hc : cellsOf x with
    | none => rfl
    | some cs =>
      have hcn : ∀ (m i ver : Nat) (old : Row) (j : Nat), cnv sv m i ver old j cs = cnv sv' m i ver old j cs := fun m i ver old j => cnv_congr cs j fun y hy k hk => hx k (self_sup (cells_names hc y hy k hk))
      simp only [blkRows_congr hn, putRows_congr hn, hcn, ← h0]
  | _ => rfl
theorem fillS_congr {z : Nat} : ∀ (ps : List (Nat × AV)) (rs : List Row), (∀ p ∈ ps, ∀ k ∈ supA sv p.2, sv k = sv' k) → fillS sv z rs ps = fillS sv' z rs ps
  | [], _, _ => rfl
  | (i, x) :: r, rs, h => by
    simp only [fillS]
    cases hc : cellsOf x with
    | none => rfl
    | some cs =>
      have hcn : cnv sv 0 0 0 [] 0 cs = cnv sv' 0 0 0 [] 0 cs := cnv_congr cs 0 fun y hy k hk => h (i, x) (by simp) k (self_sup (cells_names hc y hy k hk))
      have ih : ∀ rs, fillS sv z rs r = fillS sv' z rs r := fun rs => fillS_congr r rs fun p hp => h p (List.mem_cons_of_mem _ hp)
      simp only [hcn, ih]
theorem entries_congr {x : AV} (h : ∀ k ∈ supA sv x, sv k = sv' k) : entries sv x = entries sv' x := by
  cases x with
  | mv m => simp only [entries, h m (self_sup (by simp [namesA, names1]))]
  | _ => rfl
theorem pMapSet_congr {t : TypeId} {x k v : AV} (h : ∀ k ∈ supA sv x, sv k = sv' k) : pMapSet T t x k v sv = pMapSet T t x k v sv' := by
  unfold pMapSet
  cases x with
  | mv m =>
    have h0 := h m (self_sup (by simp [namesA, names1]))
    cases k <;> cases v <;> simp only [h0]
  | _ => rfl
theorem pConvert_congr {src dst : TypeId} {b : Nat} {x : AV} (h : ∀ k ∈ supA sv x, sv k = sv' k) : pConvert T src dst b x sv = pConvert T src dst b x sv' := by
  unfold pConvert
  simp only [rowsOf_congr h]
end
end Go.Proofs.YtkkmgjhfjhcdmaaGreatDoor.Mx

/- What an operation looks at: all operations. -/
namespace Go.Proofs.YtkkmgjhfjhcdmaaGreatDoor.Mx
set_option linter.all false
open Go Go.RowKit
section
variable {sv sv' : Sv} {tv tv' : Tv} {T : Ty}
theorem pLookup_congr {t : TypeId} {x k : AV} {ok : Bool} (h : ∀ k ∈ supA sv x, sv k = sv' k) : pLookup T t x k ok sv = pLookup T t x k ok sv' := by
  unfold pLookup
  simp only [entries_congr h]
theorem getP_congr {ps : Array (Nat × Operand)} (h : ∀ p ∈ ps.toList, opv tv p.2 = opv tv' p.2) : getP tv ps = getP tv' ps := by
  unfold getP
  exact List.map_congr_left fun p hp => by rw [h p hp]
theorem optI_congr {x : Option Operand} (h : ∀ y, x = some y → opv tv y = opv tv' y) : optI tv x = optI tv' x := by
  cases x with
  | none => rfl
  | some y => simp only [optI, h y rfl]
theorem pBuiltin_congr {bi : Builtin} {ats : List TypeId} {b : Nat} {xs : List Operand} (hv : ∀ x ∈ xs, opv tv x = opv tv' x) (hs : ∀ x ∈ xs, ∀ k ∈ supA sv (opv tv x), sv k = sv' k) : pBuiltin T bi ats b xs tv sv = pBuiltin T bi ats b xs tv' sv' := by
  unfold pBuiltin
  split
  · rename_i x t
    simp only [← hv x (by simp)]
  · rename_i s x t u
    simp only [← hv x (by simp), ← hv s (by simp), pAppend_congr (hs s (by simp)) (hs x (by simp))]
  · rename_i d x t u
    simp only [← hv x (by simp), ← hv d (by simp), pCopy_congr (hs d (by simp)) (hs x (by simp))]
  · rename_i _ x y
    simp only [← hv x (by simp), ← hv y (by simp)]
  · rename_i _ x y
    simp only [← hv x (by simp), ← hv y (by simp)]
  · rfl
theorem aop_congr {o : Op} {ty : TypeId} {b : Nat} (hv : ∀ x ∈ o.operands.toList, opv tv x = opv tv' x) (hs : ∀ x ∈ o.operands.toList, ∀ k ∈ supA sv (opv tv x), sv k = sv' k) : aop T o ty b tv sv = aop T o ty b tv' sv' := by
  cases o with
  | move x => simp only [aop, hv x (by simp [Op.operands])]
  | assign x => simp only [aop, hv x (by simp [Op.operands])]
  | pick c x y => simp only [aop, hv x (by simp [Op.operands]), hv y (by simp [Op.operands]), hv c (by simp [Op.operands])]
  | alloc e => rfl
  | box e x => simp only [aop, hv x (by simp [Op.operands])]
  | load t p =>
    have h1 := hv p (by simp [Op.operands])
    have h2 := hs p (by simp [Op.operands])
    simp only [aop, ← h1]
    cases hp : opv tv p with
    | pt m i j =>
      rw [hp] at h2
      have hn := supA_name (m := m) (by simp [namesA, names1]) h2
      have h0 := hn m (by simp [rts])
      simp only [blkRows_congr hn, ← h0]
    | _ => rfl
  | store t p x => simp only [aop, ← hv p (by simp [Op.operands]), ← hv x (by simp [Op.operands]), pStore_congr (hs p (by simp [Op.operands])) (hs x (by simp [Op.operands]))]
  | nilCheck x => simp only [aop, hv x (by simp [Op.operands])]
  | binOp op t x y u => simp only [aop, hv x (by simp [Op.operands]), hv y (by simp [Op.operands])]
  | unOp op t x => simp only [aop, hv x (by simp [Op.operands])]
  | convert s d x => simp only [aop, ← hv x (by simp [Op.operands]), pConvert_congr (hs x (by simp [Op.operands]))]
  | makeSlice t l c => simp only [aop, hv l (by simp [Op.operands]), hv c (by simp [Op.operands])]
  | slice t x lo hi mx =>
    have e1 := optI_congr (tv := tv) (tv' := tv') (x := lo) fun y hy => hv y (by simp [Op.operands, hy])
    have e2 := optI_congr (tv := tv) (tv' := tv') (x := hi) fun y hy => hv y (by simp [Op.operands, hy])
    have e3 := optI_congr (tv := tv) (tv' := tv') (x := mx) fun y hy => hv y (by simp [Op.operands, hy])
    have h2 := hs x (by simp [Op.operands])
    simp only [aop, ← e1, ← e2, ← e3, ← hv x (by simp [Op.operands])]
    generalize opv tv x = y at h2
    cases optI tv lo with
    | none => rfl
    | some l =>
      cases optI tv hi with
      | none => rfl
      | some h =>
        cases optI tv mx with
        | none => rfl
        | some m =>
          cases T t with
          | none => rfl
          | some ti =>
            simp only []
            split
            · rfl
            · cases ti.kind with
              | slice e =>
                have := fun (te : TI) => pSlice_congr (z := te.size) (lo := l) (hi := h) (mx := m) h2
                cases y <;> simp only [this]
              | str =>
                cases y with
                | sc v => cases v <;> rfl
                | _ => rfl
              | _ => cases y <;> rfl
  | fieldAddr t x f => simp only [aop, hv x (by simp [Op.operands])]
  | indexAddr t x i => simp only [aop, ← hv x (by simp [Op.operands]), ← hv i (by simp [Op.operands]), pIndexAddr_congr (hs x (by simp [Op.operands]))]
  | index t x i => simp only [aop, hv x (by simp [Op.operands]), hv i (by simp [Op.operands])]
  | extract x i => simp only [aop, hv x (by simp [Op.operands])]
  | build t ps => simp only [aop, getP_congr (tv := tv) (tv' := tv') (ps := ps) fun p hp => hv p.2 (by simp [Op.operands]; exact ⟨p.1, by simpa using hp⟩)]
  | buildSlice t n ps =>
    have hp : ∀ p ∈ ps.toList, p.2 ∈ (Op.buildSlice t n ps).operands.toList := fun p hp => by simp [Op.operands]; exact ⟨p.1, by simpa using hp⟩
    have e := getP_congr (tv := tv) (tv' := tv') (ps := ps) fun p h => hv p.2 (hp p h)
    have e2 : ∀ z rs, fillS sv z rs (getP tv ps) = fillS sv' z rs (getP tv ps) := fun z rs => fillS_congr _ rs fun q hq => by
      simp only [getP, List.mem_map] at hq
      obtain ⟨p, h, rfl⟩ := hq
      exact hs p.2 (hp p h)
    simp only [aop, ← e, e2]
  | makeMap t r => cases r <;> rfl
  | lookup t x k ok => simp only [aop, ← hv x (by simp [Op.operands]), ← hv k (by simp [Op.operands]), pLookup_congr (hs x (by simp [Op.operands]))]
  | mapUpdate t m k v => simp only [aop, ← hv m (by simp [Op.operands]), ← hv k (by simp [Op.operands]), ← hv v (by simp [Op.operands]), pMapSet_congr (hs m (by simp [Op.operands]))]
  | insert t m k v => simp only [aop, ← hv m (by simp [Op.operands]), ← hv k (by simp [Op.operands]), ← hv v (by simp [Op.operands]), pMapSet_congr (hs m (by simp [Op.operands]))]
  | call c =>
    obtain ⟨callee, xs, ats⟩ := c
    cases callee with
    | builtin bi =>
      simp only [aop]
      exact pBuiltin_congr (fun x hx => hv x (by simp only [Op.operands, Call.operands]; simpa using hx)) fun x hx => hs x (by simp only [Op.operands, Call.operands]; simpa using hx)
    | value f => rfl
    | invoke r m => rfl
  | _ => rfl
theorem aop_congr0 {o : Op} {ty : TypeId} {b : Nat} {S : St} (hv : ∀ x ∈ o.operands.toList, opv S.tv x = opv tv' x) (hs : ∀ k ∈ rdsO o S, S.sv k = sv' k) (h : rdsAll o = false) : aop T o ty b S.tv S.sv = aop T o ty b tv' sv' := by
  cases o with
  | move x => simp only [aop, hv x (by simp [Op.operands])]
  | fieldAddr t x f => simp only [aop, hv x (by simp [Op.operands])]
  | nilCheck x => simp only [aop, hv x (by simp [Op.operands])]
  | load t p =>
    have h1 := hv p (by simp [Op.operands])
    simp only [aop, ← h1]
    cases hp : opv S.tv p with
    | pt m i j =>
      have hn : ∀ k ∈ rts S.sv m, S.sv k = sv' k := fun k hk => hs k (by simp only [rdsO, hp]; exact List.mem_flatMap.2 ⟨m, by simp [namesA, names1], hk⟩)
      have h0 := hn m (by simp [rts])
      simp only [blkRows_congr hn, ← h0]
    | _ => rfl
  | _ => cases h
end
end Go.Proofs.YtkkmgjhfjhcdmaaGreatDoor.Mx

/- What a call looks at. -/
namespace Go.Proofs.YtkkmgjhfjhcdmaaGreatDoor.Mx
set_option linter.all false
open Go Go.RowKit
section
variable {sv sv' : Sv}
def CC (sv sv' : Sv) (c : AV) : Prop := ∀ m ∈ names1 c, ∀ k ∈ rts sv m, sv k = sv' k
theorem CC.ow {m lo n : Nat} (h : CC sv sv' (.ow m lo n)) : ∀ k ∈ rts sv m, sv k = sv' k := h m (by simp [names1])
theorem rt_congr {m : Nat} (h : sv m = sv' m) : rt sv m = rt sv' m := by unfold rt; rw [h]
theorem vw1_congr {c : AV} (h : CC sv sv' c) : vw1 sv c = vw1 sv' c := by
  cases c with
  | ow m lo n => simp only [vw1, rowsOf, blkRows_congr h.ow]
  | mv m => simp only [vw1, h m (by simp [names1]) m (by simp [rts])]
  | _ => rfl
theorem vn1_congr {c : AV} (h : CC sv sv' c) : vn1 sv c = vn1 sv' c := by
  cases c with
  | ow m lo n => exact rt_congr (h.ow m (by simp [rts]))
  | mv m => exact rt_congr (h m (by simp [names1]) m (by simp [rts]))
  | _ => rfl
theorem ex1_congr {c : AV} (h : CC sv sv' c) : ex1 sv c = ex1 sv' c := by
  cases c with
  | ow m lo n => simp only [ex1, h.ow m (by simp [rts])]
  | _ => rfl
theorem ln1_congr {c : AV} (h : CC sv sv' c) : ln1 sv c = ln1 sv' c := by
  cases c with
  | ow m lo n => simp only [ln1, blkRows_congr h.ow, h.ow m (by simp [rts])]
  | _ => rfl
theorem exL_congr {f g : AV → Option (AV × List Nat)} : ∀ (cs : Row), (∀ c ∈ cs, f c = g c) → exL f cs = exL g cs
  | [], _ => rfl
  | x :: r, h => by simp only [exL, h x (by simp), exL_congr r fun c hc => h c (List.mem_cons_of_mem _ hc)]
theorem flatMap_congr' {f g : AV → List Nat} : ∀ (cs : Row), (∀ c ∈ cs, f c = g c) → cs.flatMap f = cs.flatMap g
  | [], _ => rfl
  | x :: r, h => by simp only [List.flatMap_cons, h x (by simp), flatMap_congr' r fun c hc => h c (List.mem_cons_of_mem _ hc)]
theorem ag_cc {cs : Row} (h : ∀ k ∈ supA sv (.ag cs), sv k = sv' k) : ∀ c ∈ cs, CC sv sv' c := fun c hc m hm => supA_name (x := .ag cs) (show m ∈ cs.flatMap names1 from List.mem_flatMap.2 ⟨c, hc, hm⟩) h
theorem one_cc {x : AV} (h : ∀ k ∈ supA sv x, sv k = sv' k) (hx : ∀ cs, x ≠ .ag cs) : CC sv sv' x := fun m hm => supA_name (by cases x <;> first | exact hm | exact (hx _ rfl).elim) h
theorem pt_cc {m i j : Nat} (h : ∀ k ∈ supA sv (.pt m i j), sv k = sv' k) : sv m = sv' m ∧ ∀ cs, sv m = some (.bx cs) → ∀ c ∈ cs, CC sv sv' c :=
  ⟨h m (self_sup (by simp [namesA, names1])), fun cs hm c hc n hn k hk => h k (List.mem_flatMap.2 ⟨m, by simp [namesA, names1], List.mem_append_right _ (by rw [hm]; exact List.mem_flatMap.2 ⟨c, hc, List.mem_flatMap.2 ⟨n, hn, hk⟩⟩)⟩)⟩
theorem vwA_congr {x : AV} (h : ∀ k ∈ supA sv x, sv k = sv' k) : vwA sv x = vwA sv' x ∧ vnA sv x = vnA sv' x := by
  cases x with
  | ag cs =>
    have := ag_cc h
    exact ⟨by simp only [vwA]; rw [List.map_congr_left fun c hc => vw1_congr (this c hc)], flatMap_congr' cs fun c hc => vn1_congr (this c hc)⟩
  | pt m i j =>
    obtain ⟨h1, h2⟩ := pt_cc h
    simp only [vwA, vnA, ← h1]
    cases hm : sv m with
    | none => exact ⟨rfl, rfl⟩
    | some B =>
      cases B with
      | bx cs =>
        have := h2 cs hm
        refine ⟨?_, by simp only [flatMap_congr' cs fun c hc => vn1_congr (this c hc)]⟩
        simp only []
        rw [List.map_congr_left fun c hc => vw1_congr (this c (List.mem_of_mem_drop hc))]
      | _ => exact ⟨rfl, rfl⟩
  | ow m lo n => exact ⟨vw1_congr (one_cc h (by simp)), vn1_congr (one_cc h (by simp))⟩
  | mv m => exact ⟨vw1_congr (one_cc h (by simp)), vn1_congr (one_cc h (by simp))⟩
  | _ => exact ⟨rfl, rfl⟩
theorem exA_congr {x : AV} (h : ∀ k ∈ supA sv x, sv k = sv' k) : exA sv x = exA sv' x := by
  cases x with
  | ag cs => simp only [exA, exL_congr cs fun c hc => ex1_congr (ag_cc h c hc)]
  | pt m i j =>
    obtain ⟨h1, h2⟩ := pt_cc h
    unfold exA
    split
    · rename_i hh; cases hh
    · rename_i hh
      cases hh
      rw [← h1]
      cases hm : sv m with
      | none => rfl
      | some B =>
        cases B with
        | bx cs => simp only [exL_congr cs fun c hc => ex1_congr (h2 cs hm c hc)]
        | _ => rfl
    · rfl
  | ow m lo n => exact ex1_congr (c := .ow m lo n) (one_cc h (by simp))
  | _ => rfl
theorem lnA_congr {x : AV} (h : ∀ k ∈ supA sv x, sv k = sv' k) : lnA sv x = lnA sv' x := by
  cases x with
  | ag cs => simp only [lnA, exL_congr cs fun c hc => ln1_congr (ag_cc h c hc)]
  | pt m i j =>
    unfold lnA
    split
    · rename_i hh; cases hh
    · rename_i hh; cases hh; exact exA_congr h
    · rfl
  | ow m lo n => exact ln1_congr (c := .ow m lo n) (one_cc h (by simp))
  | _ => rfl
theorem argI_congr {md : Nat} {x : AV} (h : ∀ k ∈ supA sv x, sv k = sv' k) : argI sv md x = argI sv' md x := by
  unfold argI
  split
  · rw [(vwA_congr h).1, (vwA_congr h).2]
  · rw [lnA_congr h]
  · rw [exA_congr h]
theorem argsI_congr : ∀ (xs : List AV) (md : List Nat), (∀ x ∈ xs, ∀ k ∈ supA sv x, sv k = sv' k) → argsI sv md xs = argsI sv' md xs
  | [], _, _ => rfl
  | x :: r, md, h => by simp only [argsI, argI_congr (h x (by simp)), argsI_congr r md.tail fun y hy => h y (List.mem_cons_of_mem _ hy)]
theorem bk1_congr {x t : AV} (h : CC sv sv' x) : bk1 sv x t = bk1 sv' x t := by
  cases x with
  | ow m lo n =>
    have h0 := h.ow m (by simp [rts])
    have hb := blkRows_congr h.ow
    cases t with
    | sl o z r =>
      cases o with
      | true =>
        simp only [bk1, hb, ← h0]
        cases hm : sv m with
        | none => rfl
        | some B =>
          cases B with
          | sb p i j v => simp only [h.ow p (by simp [rts, hm])]
          | _ => rfl
      | false => simp only [bk1, h0]
    | _ => rfl
  | _ => rfl
theorem bkL_congr : ∀ (cs q : Row), (∀ c ∈ cs, CC sv sv' c) → bkL sv cs q = bkL sv' cs q
  | [], [], _ => rfl
  | [], _ :: _, _ => rfl
  | _ :: _, [], _ => rfl
  | x :: r, t :: q, h => by simp only [bkL, bk1_congr (h x (by simp)), bkL_congr r q fun c hc => h c (List.mem_cons_of_mem _ hc)]
theorem bkA_congr {k : Nat} {x t : AV} (h : ∀ k ∈ supA sv x, sv k = sv' k) : bkA sv k x t = bkA sv' k x t := by
  cases x with
  | ag cs => cases t <;> first | exact bkL_congr _ _ (ag_cc h) | rfl
  | pt m i j =>
    cases t with
    | pb o q => cases o <;> rfl
    | _ => rfl
  | ow m lo n =>
    have e := bk1_congr (x := .ow m lo n) (t := t) (one_cc h (by simp))
    have : ∀ sv : Sv, bkA sv k (.ow m lo n) t = bk1 sv (.ow m lo n) t := fun sv => by cases t <;> rfl
    rw [this, this, e]
  | _ => cases t <;> rfl
theorem bkS_congr : ∀ (xs : List AV) (k : Nat) (md : List Nat) (ts : List (Option AV)), (∀ x ∈ xs, ∀ k ∈ supA sv x, sv k = sv' k) → bkS sv k md xs ts = bkS sv' k md xs ts
  | [], _, _, _, _ => rfl
  | x :: r, k, md, ts, h => by
    simp only [bkS, bkA_congr (h x (by simp)), fun k md ts => bkS_congr r k md ts fun y hy => h y (List.mem_cons_of_mem _ hy)]
theorem callOut_congr {md : List Nat} {b : Nat} {xs : List AV} {r : Ans} (h : ∀ x ∈ xs, ∀ k ∈ supA sv x, sv k = sv' k) : callOut md b sv xs r = callOut md b sv' xs r ∧ argsOk sv md xs = argsOk sv' md xs := by
  unfold callOut argsOk
  rw [argsI_congr xs md h, bkS_congr xs _ md r.2 h]
  exact ⟨rfl, rfl⟩
end
end Go.Proofs.YtkkmgjhfjhcdmaaGreatDoor.Mx
