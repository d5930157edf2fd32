/- A machine over values for Go functions, proved sound, and functions run on it: texts O6, O7, O8. -/
import Derived.Laws.MakeOwn
import Derived.Laws.BytesString
import Derived.Test.YtkkmgjhfjhcdmaaGreatDoorFnFetchXab
set_option linter.all false
namespace Go.Proofs.YtkkmgjhfjhcdmaaGreatDoor.Mx
open Go Go.RowKit
theorem setR_get {row cs : Row} {j k : Nat} (h : j + cs.length ≤ row.length) : (setR row j cs)[k]? = if j ≤ k ∧ k < j + cs.length then cs[k - j]? else row[k]? := by
  unfold setR
  have hj : (row.take j).length = j := by rw [List.length_take]; omega
  by_cases h1 : k < j
  · rw [if_neg (by omega), List.append_assoc, List.getElem?_append_left (by omega), List.getElem?_take_of_lt h1]
  · by_cases h2 : k < j + cs.length
    · rw [if_pos (by omega), List.append_assoc, List.getElem?_append_right (by omega), hj, List.getElem?_append_left (by omega)]
    · rw [if_neg (by omega), List.getElem?_append_right (by rw [List.length_append, hj]; omega), List.length_append, hj, List.getElem?_drop]
      congr 1; omega
theorem setR_len {row cs : Row} {j : Nat} (h : j + cs.length ≤ row.length) : (setR row j cs).length = row.length := by
  unfold setR
  simp only [List.length_append, List.length_take, List.length_drop]
  omega
section
variable {w0 : World} {M R : Nat → Prop} {γ : Gs} {φ : Fp} {tv : Tv} {sv : Sv} {a : Act} {w w' : World} {P : Program} {T : Ty} {ok ok' : Nat → Prop}
theorem Own.sub {F : Nat → Prop} {v0 v : Value} {z lo n : Nat} {rows : List Row} (r : Own w ok F v0 (.sl true z rows)) (hs : Sub v0 z lo n v) : Own w ok F v (.sl true z (seg rows lo n)) := by
  cases r with
  | rd _ _ _ h1 => exact (h1 _ _ rfl).elim
  | nil =>
    obtain ⟨rfl, rfl, rfl⟩ := hs
    exact .nil _ _
  | emp =>
    obtain ⟨p, cap', rfl, hle, hc, ho⟩ := hs
    have : n = 0 := by omega
    subst this
    have : cap' = 0 := by omega
    subst this
    rw [show seg ([] : List Row) lo 0 = [] by simp [seg]]
    exact .emp _ _ _ _
  | sl _ _ b off cap _ cur e fr Fs h1 h2 h3 h4 h5 h6 h7 h8 h9 h10 h11 =>
    obtain ⟨p, cap', rfl, hle, hc, ho⟩ := hs
    have hl := seg_len (r := rows) hle
    by_cases hn : cap' = 0
    · subst hn
      have : n = 0 := by omega
      subst this
      have : seg rows lo 0 = [] := List.eq_nil_of_length_eq_zero hl
      rw [this]
      exact .emp _ _ _ _
    · obtain ⟨hp, hcc⟩ : p = off + lo * z ∧ lo + cap' ≤ cap := by
        rcases ho with h | h
        · exact h
        · omega
      have key : ∀ i row, (seg rows lo n)[i]? = some row → rows[lo + i]? = some row := fun i row hi => by
        have := idx_lt hi
        rw [seg_get (by omega)] at hi
        exact hi
      have hcap : (lo + cap') * z ≤ cap * z := Nat.mul_le_mul_right _ hcc
      rw [Nat.add_mul] at hcap
      have e1 : ∀ i j, p + (i * z + j) = off + ((lo + i) * z + j) := fun i j => by rw [hp, Nat.add_mul]; omega
      have hR := Own.sl (w := w) (ok := ok) F z b p cap' (seg rows lo n) cur e fr (fun i j => Fs (lo + i) j) h1 h2 h3 (by omega) (by rw [hp]; omega) (by omega) (fun i j x hx => h7 _ _ _ hx)
        (fun i j i' j' x hx hx' => by have := h8 _ _ _ _ x hx hx'; exact ⟨by omega, this.2⟩) (fun i row hi => h9 _ _ (key i row hi)) (fun i row j x hi hj => by rw [e1]; exact h10 _ _ j x (key i row hi) hj)
        (fun i row j x hi hj => by rw [e1]; exact h11 _ _ j x (key i row hi) hj)
      rw [hl] at hR
      exact hR
theorem own_set {Fn : Nat → Prop} {z b off cap : Nat} {rows : List Row} {cur cur' : Array Value} {e : TypeId} {fr : Nat × Nat} {Fs : Nat → Nat → Nat → Prop} (hFb : Fn b) (ht : Thawed cur fr) (hc : rows.length ≤ cap)
    (hsz : off + cap * z ≤ cur.size) (hm : cap ≤ maxLen) (hin : ∀ i j x, Fs i j x → Fn x ∧ x ≠ b) (hdj : ∀ i j i' j' x, Fs i j x → Fs i' j' x → i = i' ∧ j = j') (hl : ∀ (i : Nat) (row : Row), rows[i]? = some row → row.length = z)
    (h1 : ∀ (i : Nat) (row : Row) (j : Nat) (x : AV), rows[i]? = some row → row[j]? = some x → (cur.getD (off + (i * z + j)) undef).oneCell' = true)
    (hO : ∀ (i : Nat) (row : Row) (j : Nat) (x : AV), rows[i]? = some row → row[j]? = some x → Own w ok (Fs i j) (cur.getD (off + (i * z + j)) undef) x)
    {i j : Nat} {row : Row} (hrow : rows[i]? = some row) {vs : List Value} {l : Row} (hvl : vs.length = l.length) (hj : j + l.length ≤ z) (hv1 : ∀ v ∈ vs, v.oneCell' = true)
    (F' : Nat → Nat → Prop) (hF' : ∀ q x, F' q x → Fn x ∧ x ≠ b) (hFd : ∀ q q' x, F' q x → F' q' x → q = q') (hFs : ∀ q i' j' x, F' q x → Fs i' j' x → i' = i ∧ j ≤ j' ∧ j' < j + l.length)
    (hl' : ∀ (q : Nat) (y : AV), l[q]? = some y → Own w ok (F' q) (vs.getD q undef) y)
    (hw : ∀ k, k ≠ b → w'.heap[k]? = w.heap[k]?) (hb' : w'.heap[b]? = some (.cells cur' e fr)) (hcs : cur'.size = cur.size)
    (hcur : ∀ k, cur'.getD k undef = if off + (i * z + j) ≤ k ∧ k < off + (i * z + j) + vs.length then vs.getD (k - (off + (i * z + j))) undef else cur.getD k undef)
    (hok : ∀ c, ok c → ok' c ∧ w'.heap[c]? = w.heap[c]?) : Own w' ok' Fn (.slice (some ⟨b, off, none⟩) rows.length cap) (.sl true z (rows.set i (setR row j l))) := by
  have hrl := hl i row hrow
  have hi := idx_lt hrow
  have getR : ∀ i' row', (rows.set i (setR row j l))[i']? = some row' → (i' = i ∧ row' = setR row j l) ∨ (i' ≠ i ∧ rows[i']? = some row') := fun i' row' h => by
    rw [List.getElem?_set] at h
    by_cases hii : i = i'
    · subst hii
      simp [hi] at h
      exact .inl ⟨rfl, h.symm⟩
    · rw [if_neg hii] at h
      exact .inr ⟨Ne.symm hii, h⟩
  -- where the cells of another place lie
  have away : ∀ i' j', i' < rows.length → j' < z → ¬ (i' = i ∧ j ≤ j' ∧ j' < j + l.length) → cur'.getD (off + (i' * z + j')) undef = cur.getD (off + (i' * z + j')) undef := fun i' j' hi' hj' hne => by
    rw [hcur, if_neg]
    intro hh
    rcases Nat.lt_trichotomy i' i with hlt | rfl | hlt
    · have : (i' + 1) * z ≤ i * z := Nat.mul_le_mul_right _ (by omega)
      rw [Nat.add_mul] at this
      omega
    · omega
    · have : (i + 1) * z ≤ i' * z := Nat.mul_le_mul_right _ (by omega)
      rw [Nat.add_mul] at this
      omega
  have here : ∀ q, q < l.length → cur'.getD (off + (i * z + (j + q))) undef = vs.getD q undef := fun q hq => by
    rw [hcur, if_pos (by omega)]
    congr 1; omega
  have hlen : (rows.set i (setR row j l)).length = rows.length := List.length_set
  have keep : ∀ (i' j' : Nat), i' < rows.length → j' < z → ∀ F v x, (∀ c, F c → c ≠ b) → Own w ok F v x → Own w' ok' F v x := fun i' j' _ _ F v x hF ho => ho.mono hok F fun c hc => ⟨hc, hw c (hF c hc)⟩
  have hR := Own.sl (w := w') (ok := ok') Fn z b off cap (rows.set i (setR row j l)) cur' e fr (fun i' j' x => if i' = i ∧ j ≤ j' ∧ j' < j + l.length then F' (j' - j) x else Fs i' j' x) hFb hb' (fun o ho => ht o (by rw [← hcs]; exact ho)) (by rw [hlen]; exact hc) (by rw [hcs]; exact hsz) hm
    (fun i' j' x hx => by split at hx; exact hF' _ _ hx; exact hin _ _ _ hx)
    (fun i1 j1 i2 j2 x hx hy => by
      split at hx <;> split at hy
      · rename_i c1 c2
        have := hFd _ _ _ hx hy
        omega
      · rename_i c1 c2
        exact (c2 (hFs _ _ _ _ hx hy)).elim
      · rename_i c1 c2
        exact (c1 (hFs _ _ _ _ hy hx)).elim
      · exact hdj _ _ _ _ _ hx hy)
    (fun i' row' h => by
      rcases getR i' row' h with ⟨_, rfl⟩ | ⟨_, h⟩
      · rw [setR_len (by omega)]; exact hrl
      · exact hl _ _ h)
    (fun i' row' j' x h hx => by
      rcases getR i' row' h with ⟨rfl, rfl⟩ | ⟨hne, h⟩
      · rw [setR_get (by omega)] at hx
        split at hx
        · rename_i hc
          have hq := idx_lt hx
          have := here (j' - j) hq
          rw [show j + (j' - j) = j' by omega] at this
          rw [this]
          exact hv1 _ (by rw [List.getD_eq_getElem?_getD, List.getElem?_eq_getElem (by omega)]; exact List.getElem_mem _)
        · rename_i hc
          rw [away i' j' hi (by rw [← hrl]; exact idx_lt hx) (by omega)]
          exact h1 _ _ _ _ hrow hx
      · rw [away i' j' (idx_lt h) (by rw [← hl _ _ h]; exact idx_lt hx) (by omega)]
        exact h1 _ _ _ _ h hx)
    (fun i' row' j' x h hx => by
      rcases getR i' row' h with ⟨rfl, rfl⟩ | ⟨hne, h⟩
      · rw [setR_get (by omega)] at hx
        split at hx
        · rename_i hc
          have hq := idx_lt hx
          have := here (j' - j) hq
          rw [show j + (j' - j) = j' by omega] at this
          rw [this]
          exact (hl' _ _ hx).mono hok _ fun c hcc => ⟨by show (if _ then _ else _); rw [if_pos ⟨rfl, hc⟩]; exact hcc, hw c (hF' _ _ hcc).2⟩
        · rename_i hc
          rw [away i' j' hi (by rw [← hrl]; exact idx_lt hx) (by omega)]
          exact (hO _ _ _ _ hrow hx).mono hok _ fun c hcc => ⟨by show (if _ then _ else _); rw [if_neg (by omega)]; exact hcc, hw c (hin _ _ _ hcc).2⟩
      · rw [away i' j' (idx_lt h) (by rw [← hl _ _ h]; exact idx_lt hx) (by omega)]
        exact (hO _ _ _ _ h hx).mono hok _ fun c hcc => ⟨by show (if _ then _ else _); rw [if_neg (by omega)]; exact hcc, hw c (hin _ _ _ hcc).2⟩)
  rw [hlen] at hR
  exact hR
theorem own_cellN {F : Nat → Prop} {v0 : Value} {zp : Nat} {rp : List Row} {i j z : Nat} {r : List Row} (ho : Own w ok F v0 (.sl true zp rp)) (hn : nest rp i j = some (z, r)) :
    ∃ b off cap G u, v0 = .slice (some ⟨b, off, none⟩) rp.length cap ∧ w.cell? ⟨b, off + (i * zp + j), none⟩ = some u ∧ Own w ok G u (.sl true z r) ∧ (∀ c, G c → F c ∧ c ≠ b) ∧ F b ∧
      ∀ (w' : World) (ok' G' : Nat → Prop) (y : AV), (∀ c, G' c → G c ∨ ¬ F c) → (∀ c, F c → ¬ G c → w'.heap[c]? = w.heap[c]?) → (∀ c, ok c → ok' c ∧ w'.heap[c]? = w.heap[c]?) → Own w' ok' G' u y → Own w' ok' (fun c => (F c ∧ (G c → G' c)) ∨ G' c) v0 (.sl true zp (rp.set i ((rp.getD i []).set j y))) := by
  obtain ⟨row, hrow, hj⟩ := nest_some hn
  cases ho with
  | rd _ _ _ h1 => exact (h1 _ _ rfl).elim
  | nil => simp at hrow
  | emp => simp at hrow
  | sl _ _ b off cap _ cur e fr Fs h1 h2 h3 h4 h5 h6 h7 h8 h9 h10 h11 =>
    have hrl := h9 i row hrow
    have hjz : j < zp := by rw [← hrl]; exact idx_lt hj
    refine ⟨b, off, cap, Fs i j, cur.getD (off + (i * zp + j)) undef, rfl, cell_some h2 (in_row (idx_lt hrow) hjz h4 h5), h11 i row j _ hrow hj, fun c hc => h7 i j c hc, h1, fun w' ok' G' y hG hw hok hO => ?_⟩
    have hD : rp.getD i [] = row := by rw [List.getD_eq_getElem?_getD, hrow]; rfl
    rw [hD]
    have hb : w'.heap[b]? = w.heap[b]? := hw b h1 fun hb => (h7 i j b hb).2 rfl
    have hi := idx_lt hrow
    have hlen : (rp.set i (row.set j y)).length = rp.length := List.length_set
    have getR : ∀ i' row', (rp.set i (row.set j y))[i']? = some row' → (i' = i ∧ row' = row.set j y) ∨ (i' ≠ i ∧ rp[i']? = some row') := fun i' row' h => by
      rw [List.getElem?_set] at h
      by_cases hii : i = i'
      · subst hii
        simp [hi] at h
        exact .inl ⟨rfl, h.symm⟩
      · rw [if_neg hii] at h
        exact .inr ⟨Ne.symm hii, h⟩
    have getC : ∀ j' x, (row.set j y)[j']? = some x → (j' = j ∧ x = y) ∨ (j' ≠ j ∧ row[j']? = some x) := fun j' x h => by
      rw [List.getElem?_set] at h
      by_cases hjj : j = j'
      · subst hjj
        simp [idx_lt hj] at h
        exact .inl ⟨rfl, h.symm⟩
      · rw [if_neg hjj] at h
        exact .inr ⟨Ne.symm hjj, h⟩
    have oth : ∀ i' j' x u, ¬ (i' = i ∧ j' = j) → Own w ok (Fs i' j') u x → Own w' ok' (fun c => if i' = i ∧ j' = j then G' c else Fs i' j' c) u x := fun i' j' x u hne ho => ho.mono hok _ fun c hc => ⟨by rw [if_neg hne]; exact hc, hw c (h7 _ _ _ hc).1 fun hG => hne (h8 _ _ _ _ c hc hG)⟩
    have hR := Own.sl (w := w') (ok := ok') (fun c => (F c ∧ (Fs i j c → G' c)) ∨ G' c) zp b off cap (rp.set i (row.set j y)) cur e fr (fun i' j' c => if i' = i ∧ j' = j then G' c else Fs i' j' c) (.inl ⟨h1, fun h => ((h7 _ _ _ h).2 rfl).elim⟩) (hb.trans h2) h3 (by rw [hlen]; exact h4) h5 h6
      (fun i' j' c hc => by
        split at hc
        · refine ⟨.inr hc, ?_⟩
          rcases hG c hc with hg | hg
          · exact (h7 _ _ _ hg).2
          · rintro rfl; exact hg h1
        · rename_i hne; have := h7 _ _ _ hc; exact ⟨.inl ⟨this.1, fun h => (hne (h8 _ _ _ _ _ hc h)).elim⟩, this.2⟩)
      (fun i1 j1 i2 j2 c hc hc' => by
        split at hc <;> split at hc'
        · omega
        · rename_i c1 c2; rcases hG c hc with hg | hg
          · exact (c2 (h8 _ _ _ _ _ hc' hg)).elim
          · exact (hg (h7 _ _ _ hc').1).elim
        · rename_i c1 c2; rcases hG c hc' with hg | hg
          · exact (c1 (h8 _ _ _ _ _ hc hg)).elim
          · exact (hg (h7 _ _ _ hc).1).elim
        · exact h8 _ _ _ _ _ hc hc')
      (fun i' row' h => by
        rcases getR i' row' h with ⟨rfl, rfl⟩ | ⟨_, h⟩
        · rw [List.length_set]; exact hrl
        · exact h9 _ _ h)
      (fun i' row' j' x h hx => by
        rcases getR i' row' h with ⟨rfl, rfl⟩ | ⟨_, h⟩
        · rcases getC j' x hx with ⟨rfl, rfl⟩ | ⟨_, hx⟩
          · exact h10 _ _ _ _ hrow hj
          · exact h10 _ _ _ _ hrow hx
        · exact h10 _ _ _ _ h hx)
      (fun i' row' j' x h hx => by
        rcases getR i' row' h with ⟨rfl, rfl⟩ | ⟨hne, h⟩
        · rcases getC j' x hx with ⟨rfl, rfl⟩ | ⟨hne, hx⟩
          · exact hO.mono (fun c hc => ⟨hc, rfl⟩) (fun c => if i' = i' ∧ j' = j' then G' c else Fs i' j' c) fun c hc => ⟨by rw [if_pos ⟨rfl, rfl⟩]; exact hc, rfl⟩
          · exact oth _ _ _ _ (fun e => hne e.2) (h11 _ _ _ _ hrow hx)
        · exact oth _ _ _ _ (fun e => hne e.1) (h11 _ _ _ _ h hx))
    rw [hlen] at hR
    exact hR
theorem own_cell {F : Nat → Prop} {v0 : Value} {zp : Nat} {rp : List Row} {i j z : Nat} {r : List Row} (ho : Own w ok F v0 (.sl true zp rp)) (hn : nest rp i j = some (z, r)) :
    ∃ b off cap G u, v0 = .slice (some ⟨b, off, none⟩) rp.length cap ∧ w.cell? ⟨b, off + (i * zp + j), none⟩ = some u ∧ Own w ok G u (.sl true z r) ∧ (∀ c, G c → F c ∧ c ≠ b) ∧ F b ∧
      ∀ (w' : World) (ok' G' : Nat → Prop) (y : AV), (∀ c, G' c → G c) → (∀ c, F c → ¬ G c → w'.heap[c]? = w.heap[c]?) → (∀ c, ok c → ok' c ∧ w'.heap[c]? = w.heap[c]?) → Own w' ok' G' u y → Own w' ok' (fun c => F c ∧ (G c → G' c)) v0 (.sl true zp (rp.set i ((rp.getD i []).set j y))) := by
  obtain ⟨b, off, cap, G, u, h1, h2, h3, h4, h5, h6⟩ := own_cellN ho hn
  exact ⟨b, off, cap, G, u, h1, h2, h3, h4, h5, fun w' ok' G' y hG hw hok hO => (h6 w' ok' G' y (fun c hc => .inl (hG c hc)) hw hok hO).mono (fun c hc => ⟨hc, rfl⟩) _ fun c hc => ⟨hc.elim id fun hg => ⟨(h4 c (hG c hg)).1, fun _ => hg⟩, rfl⟩⟩
theorem own_nest {F : Nat → Prop} {v0 : Value} {zp : Nat} {rp : List Row} {i j z : Nat} {r : List Row} (ho : Own w ok F v0 (.sl true zp rp)) (hn : nest rp i j = some (z, r)) :
    ∃ b off cap G u, v0 = .slice (some ⟨b, off, none⟩) rp.length cap ∧ w.cell? ⟨b, off + (i * zp + j), none⟩ = some u ∧ Own w ok G u (.sl true z r) ∧ (∀ c, G c → F c ∧ c ≠ b) ∧ F b ∧
      ∀ (w' : World) (ok' : Nat → Prop) (r' : List Row), (∀ c, ¬ G c → w'.heap[c]? = w.heap[c]?) → (∀ c, ok c → ok' c ∧ w'.heap[c]? = w.heap[c]?) → Own w' ok' G u (.sl true z r') → Own w' ok' F v0 (.sl true zp (rp.set i ((rp.getD i []).set j (.sl true z r')))) := by
  obtain ⟨b, off, cap, G, u, h1, h2, h3, h4, h5, h6⟩ := own_cell ho hn
  exact ⟨b, off, cap, G, u, h1, h2, h3, h4, h5, fun w' ok' r' hw hok hO => (h6 w' ok' G _ (fun _ h => h) (fun c _ => hw c) hok hO).mono (fun c hc => ⟨hc, rfl⟩) _ fun c hc => ⟨hc.1, rfl⟩⟩
theorem own_flat {F : Nat → Prop} {z b off cap : Nat} {rows : List Row} {cur : Array Value} {e : TypeId} {fr : Nat × Nat} (hF : F b) (hb : w.heap[b]? = some (.cells cur e fr)) (ht : Thawed cur fr) (hc : rows.length ≤ cap) (hsz : off + cap * z ≤ cur.size) (hm : cap ≤ maxLen)
    (hfl : flatR rows = true) (hl : ∀ (i : Nat) (row : Row), rows[i]? = some row → row.length = z)
    (hr : ∀ (i : Nat) (row : Row) (j : Nat) (x : AV), rows[i]? = some row → row[j]? = some x → (cur.getD (off + (i * z + j)) undef).oneCell' = true ∧ ∃ w1 ok1, Rep w1 ok1 (cur.getD (off + (i * z + j)) undef) x) : Own w ok F (.slice (some ⟨b, off, none⟩) rows.length cap) (.sl true z rows) := by
  have sc : ∀ (i : Nat) (row : Row) (j : Nat) (x : AV), rows[i]? = some row → row[j]? = some x → isSc x = true := fun i row j x hi hj => List.all_eq_true.1 (List.all_eq_true.1 hfl row (List.mem_of_getElem? hi)) x (List.mem_of_getElem? hj)
  exact .sl F z b off cap rows cur e fr (fun _ _ _ => False) hF hb ht hc hsz hm (fun _ _ _ h => h.elim) (fun _ _ _ _ _ h => h.elim) hl (fun i row j x hi hj => (hr i row j x hi hj).1)
    (fun i row j x hi hj => by obtain ⟨_, w1, ok1, h⟩ := hr i row j x hi hj; exact own_of_rep (sc i row j x hi hj) (isSc_rep (sc i row j x hi hj) h))
theorem cnv_ok (h : Sim w0 M R γ φ tv sv a w) {m i ver : Nat} {old : Row} (G : Nat → Nat → Prop) (hG : ∀ j c, G j c → live sv m ∧ φ m c) (hGd : ∀ j j' c, G j c → G j' c → j = j')
    (hold : ∀ k j z r, sv k = some (.sb m i j ver) → old[j]? = some (.sl true z r) → ∃ u0, γ k = some (u0, z) ∧ Own w (okOf w0 M R φ sv w) (G j) u0 (.sl true z r)) :
    ∀ (cs : Row) (j0 : Nat) (l : Row) (ns : List Nat) (vs : Nat → Value), cnv sv m i ver old j0 cs = some (l, ns) → (∀ q x, cs[q]? = some x → RepC w (okOf w0 M R φ sv w) γ (vs q) x) →
    l.length = cs.length ∧ m ∉ ns ∧ (∀ k ∈ ns, live sv k) ∧ ∃ F : Nat → Nat → Prop, (∀ q y, l[q]? = some y → Own w (okOf w0 M R φ sv w) (F q) (vs q) y) ∧ (∀ q c, F q c → q < l.length ∧ ((∃ k ∈ ns, φ k c) ∨ G (j0 + q) c)) ∧ ∀ q q' c, F q c → F q' c → q = q'
  | [], j0, l, ns, vs, hc, hv => by
    simp only [cnv] at hc
    cases hc
    exact ⟨rfl, by simp, (fun k hk => by cases hk), (fun _ _ => False), (fun q y hq => by simp at hq), (fun _ _ h => h.elim), (fun _ _ _ h => h.elim)⟩
  | x :: cs, j0, l, ns, vs, hc, hv => by
    simp only [cnv] at hc
    split at hc
    · cases hc
    · rename_i l' ns' hc'
      obtain ⟨i1, i2, i3, F, i4, i5, i6⟩ := cnv_ok h G hG hGd hold cs (j0 + 1) l' ns' (fun q => vs (q + 1)) hc' (fun q x hq => hv (q + 1) x (by simpa using hq))
      have hv0 := hv 0 x rfl
      -- a cell that is only read
      have plainC : ∀ y, l = y :: l' → ns = ns' → Rep w (okOf w0 M R φ sv w) (vs 0) y → (∀ z r, y ≠ .sl true z r) → (∀ cs, y ≠ .pb true cs) →
          l.length = (x :: cs).length ∧ m ∉ ns ∧ (∀ k ∈ ns, live sv k) ∧ ∃ F : Nat → Nat → Prop, (∀ q y, l[q]? = some y → Own w (okOf w0 M R φ sv w) (F q) (vs q) y) ∧ (∀ q c, F q c → q < l.length ∧ ((∃ k ∈ ns, φ k c) ∨ G (j0 + q) c)) ∧ ∀ q q' c, F q c → F q' c → q = q' := by
        rintro y rfl rfl hy n1 n2
        refine ⟨by simp [i1], i2, i3, fun q c => match q with | 0 => False | q + 1 => F q c, fun q y' hq => ?_, fun q c hq => ?_, fun q q' c hq hq' => ?_⟩
        · cases q with
          | zero => simp at hq; subst hq; exact .rd _ _ _ n1 n2 hy
          | succ q => exact i4 q y' (by simpa using hq)
        · cases q with
          | zero => exact hq.elim
          | succ q => have := i5 q c hq; rw [show j0 + 1 + q = j0 + (q + 1) by omega] at this; exact ⟨by simp; exact this.1, this.2⟩
        · cases q with
          | zero => exact hq.elim
          | succ q => cases q' with
            | zero => exact hq'.elim
            | succ q' => rw [i6 q q' c hq hq']
      -- a cell with blocks of its own
      have ownC : ∀ y k0 H, l = y :: l' → (ns = ns' ∨ (ns = k0 :: ns' ∧ k0 ∉ ns' ∧ k0 ≠ m ∧ live sv k0)) → Own w (okOf w0 M R φ sv w) H (vs 0) y → (∀ c, H c → (ns = k0 :: ns' ∧ k0 ∉ ns' ∧ k0 ≠ m ∧ live sv k0 ∧ φ k0 c) ∨ G j0 c) →
          l.length = (x :: cs).length ∧ m ∉ ns ∧ (∀ k ∈ ns, live sv k) ∧ ∃ F : Nat → Nat → Prop, (∀ q y, l[q]? = some y → Own w (okOf w0 M R φ sv w) (F q) (vs q) y) ∧ (∀ q c, F q c → q < l.length ∧ ((∃ k ∈ ns, φ k c) ∨ G (j0 + q) c)) ∧ ∀ q q' c, F q c → F q' c → q = q' := by
        rintro y k0 H rfl hns hy hH
        have sub : ∀ k ∈ ns', k ∈ ns := fun k hk => by rcases hns with rfl | ⟨rfl, _⟩; exact hk; exact List.mem_cons_of_mem _ hk
        have apart : ∀ q c, H c → F q c → False := fun q c hc hf => by
          rcases (i5 q c hf).2 with ⟨k, hk, hkc⟩ | hg
          · have hlk := i3 k hk
            have hkm : k ≠ m := fun e => i2 (e ▸ hk)
            rcases hH c hc with ⟨_, hn, _, hl0, h0⟩ | hg0
            · exact h.dj k0 k hl0 hlk (fun e => hn (e ▸ hk)) c h0 hkc
            · obtain ⟨hl1, h1⟩ := hG _ _ hg0
              exact h.dj k m hlk hl1 hkm c hkc h1
          · obtain ⟨hl1, h1⟩ := hG _ _ hg
            rcases hH c hc with ⟨_, hn, hne, hl0, h0⟩ | hg0
            · exact h.dj k0 m hl0 hl1 hne c h0 h1
            · have := hGd _ _ _ hg0 hg; omega
        refine ⟨by simp [i1], ?_, ?_, fun q c => match q with | 0 => H c | q + 1 => F q c, fun q y' hq => ?_, fun q c hq => ?_, fun q q' c hq hq' => ?_⟩
        · rcases hns with rfl | ⟨rfl, _, hne, _⟩
          · exact i2
          · intro hmem; rcases List.mem_cons.1 hmem with e | e; exact hne e.symm; exact i2 e
        · intro k hk
          rcases hns with rfl | ⟨rfl, _, _, hl0⟩
          · exact i3 k hk
          · rcases List.mem_cons.1 hk with rfl | e; exact hl0; exact i3 k e
        · cases q with
          | zero => simp at hq; subst hq; exact hy
          | succ q => exact i4 q y' (by simpa using hq)
        · cases q with
          | zero =>
            refine ⟨by simp, ?_⟩
            rcases hH c hq with ⟨e, _, _, _, h0⟩ | hg
            · exact .inl ⟨k0, by rw [e]; simp, h0⟩
            · exact .inr hg
          | succ q =>
            have := i5 q c hq
            rw [show j0 + 1 + q = j0 + (q + 1) by omega] at this
            exact ⟨by simp; exact this.1, this.2.imp (fun ⟨k, hk, hkc⟩ => ⟨k, sub k hk, hkc⟩) id⟩
        · cases q with
          | zero => cases q' with
            | zero => rfl
            | succ q' => exact (apart q' c hq hq').elim
          | succ q => cases q' with
            | zero => exact (apart q c hq' hq).elim
            | succ q' => rw [i6 q q' c hq hq']
      split at hc
      · cases hc; exact plainC _ rfl rfl hv0 (by simp) (by simp)
      · cases hc; exact plainC _ rfl rfl hv0 (by simp) (by simp)
      · cases hc; exact plainC _ rfl rfl (Rep.flag hv0) (by simp) (by simp)
      · rename_i k lo n
        obtain ⟨v0, z0, g1, g2⟩ := hv0
        split at hc
        · rename_i z vr r hk
          rw [cond_eq_ite] at hc
          split at hc
          · rename_i hcc
            simp at hcc
            cases hc
            obtain ⟨v0', k1, k2⟩ := h.bk k _ hk
            rw [g1] at k1
            cases k1
            have hlk : live sv k := by unfold live; rw [hk]; rfl
            exact ownC _ k (φ k) rfl (.inr ⟨rfl, hcc.2, hcc.1, hlk⟩) (k2.sub g2) (fun c hc => .inl ⟨rfl, hcc.2, hcc.1, hlk, hc⟩)
          · cases hc
        · rename_i z r hk
          cases hc
          obtain ⟨v0', k1, k2⟩ := h.bk k _ hk
          rw [g1] at k1
          cases k1
          exact plainC _ rfl rfl (k2.sub (o' := false) g2) (by simp) (by simp)
        · rename_i p i' j' v' hk
          split at hc
          · rename_i hcc
            obtain ⟨rfl, rfl, rfl, rfl, rfl⟩ := hcc
            split at hc
            · rename_i z r hold'
              split at hc
              · rename_i hlen
                cases hc
                obtain ⟨u0, k1, k2⟩ := hold k j' z r hk hold'
                rw [g1] at k1
                cases k1
                have := k2.sub g2
                rw [← hlen, show seg r 0 r.length = r by simp [seg]] at this
                exact ownC _ 0 (G j') rfl (.inl rfl) this (fun c hc => .inr hc)
              · cases hc
            · cases hc
          · cases hc
        · cases hc
      · cases hc
end
end Go.Proofs.YtkkmgjhfjhcdmaaGreatDoor.Mx

namespace Go.Proofs.YtkkmgjhfjhcdmaaGreatDoor.Mx
open Go Go.RowKit
section
variable {w0 : World} {M R : Nat → Prop} {γ : Gs} {φ : Fp} {tv : Tv} {sv : Sv} {a : Act} {w w' : World} {P : Program} {T : Ty} {ok ok' : Nat → Prop}
theorem kill_sv : ∀ (l : List Nat) (s : Sv) (m : Nat), syncF (Mx.kill l) s m = if m ∈ l then none else s m := by
  intro l
  induction l with
  | nil => intro s m; simp [Mx.kill, syncF]
  | cons k l ih =>
    intro s m
    simp only [Mx.kill, List.map_cons, syncF]
    have := ih (updS s k none) m
    simp only [Mx.kill] at this
    rw [this]
    by_cases h1 : m ∈ l
    · simp [h1]
    · by_cases h2 : k = m
      · subst h2; simp [updS]
      · simp [h1, updS, h2, Ne.symm h2]
theorem storeAt_run {t : TypeId} {ti : TI} (ht : TyOk P t ti) {b o : Nat} {cur : Array Value} {e : TypeId} {fr : Nat × Nat} {u : Value} (hb : w.heap[b]? = some (.cells cur e fr)) (hth : Thawed cur fr) (hu : u.cells.size = ti.size)
    (hle : o + ti.size ≤ cur.size) (h1 : ∀ (j : Nat) (v : Value), u.cells[j]? = some v → v.oneCell' = true) :
    ∃ w' cur', (Instr.storeAt t (.pointer (some ⟨b, o, none⟩)) u).run P w = .ok () w' ∧ w'.os = w.os ∧ w'.tape = w.tape ∧ w'.output = w.output ∧ w'.heap.size = w.heap.size ∧ (∀ k, k ≠ b → w'.heap[k]? = w.heap[k]?) ∧
      w'.heap[b]? = some (.cells cur' e fr) ∧ cur'.size = cur.size ∧ ∀ k, cur'.getD k undef = if o ≤ k ∧ k < o + u.cells.toList.length then u.cells.toList.getD (k - o) undef else cur.getD k undef := by
  obtain ⟨w', cur', r1, r2, r3, r4, r5, r6, r7, r8, r9⟩ := store_cells (P := P) b o e fr u.cells.toList 0 cur w hb hth (by simp; omega) (fun v hv => by
    obtain ⟨j, hj⟩ := List.getElem?_of_mem hv
    exact h1 j v (by simpa using hj))
  refine ⟨w', cur', ?_, r2, r3, r4, r5, r6, r7, r8, by simpa using r9⟩
  simp only [Instr.storeAt, Instr.sureAddr, Sem.run_bind, Sem.run_pure, Result.andThen_ok, storeVar, sizeOf_run ht, hu, ne_eq, not_true, if_false, r1]
theorem opres_skip {b : Nat} {act : Sem Unit} {d : Dl} {γ' : Gs} {φ' : Fp} (hr : act.run P w = .ok () w') (hγ : ∀ n, ¬ (b ≤ n ∧ n < b + 256) → γ' n = γ n) (hs : Sim w0 M R γ' φ' tv (syncF d.upd sv) a w') (hd : d.val = .tu []) :
    OpRes P w0 M R γ tv sv a w b (do act; pure .skip) d :=
  ⟨undef, w', γ', φ', .inr ⟨by simp [hr], rfl⟩, hγ, hs, by rw [hd]; exact ⟨[], rfl, rfl, fun j v x hv => by simp at hv⟩⟩
theorem blk_live {sv : Sv} {m : Nat} {B : Blk} (h : sv m = some B) : live sv m := by unfold live; rw [h]; rfl
theorem store_box (h : Sim w0 M R γ φ tv sv a w) {b : Nat} {t : TypeId} {ti : TI} (ht : TyOk P t ti) {m j : Nat} {c cs : Row} {p u : Value} {x : AV} (hp : RepV w (okOf w0 M R φ sv w) γ p (.pt m 0 j)) (hu : RepV w (okOf w0 M R φ sv w) γ u x) (hc : cellsOf x = some cs)
    (hm : sv m = some (.bx c)) (hsz : cs.length = ti.size) (hle : j + cs.length ≤ c.length) : OpRes P w0 M R γ tv sv a w b (do Instr.storeAt t p u; pure .skip) ⟨.tu [], [(m, some (.bx (setR c j cs)))]⟩ := by
  obtain ⟨c1, c2, c3⟩ := cells_rep hu hc
  obtain ⟨pb, cur, e, fr, k1, k2, k3, k4, k5, k6⟩ := h.bk m _ hm
  obtain ⟨v0, z, g1, g2⟩ := hp
  rw [g1] at k1
  cases k1
  obtain ⟨_, rfl⟩ := g2
  rw [Nat.zero_add]
  obtain ⟨w', cur', r1, r2, r3, r4, r5, r6, r7, r8, r9⟩ := storeAt_run (P := P) ht (o := j) k3 k4 (by omega) (by omega) c2
  have hs := h.set (blk_live hm) (B := .bx (setR c j cs)) r2 r3 r4 (Kp.cell r6 k3 r7 r8) r5 (fun k hk => r6 k fun e => hk (e ▸ k2))
    (fun k p i j v hk hs hp => ⟨(h.bk k _ hs).1, (h.bk k _ hs).2.1, fun zp v' rp hh => by subst hp; rw [upd_self] at hh; cases hh⟩)
    (fun k p v seen hk hs hp => by
      obtain ⟨h0, b, born, last, h1, h2, _⟩ := h.bk k _ hs
      exact ⟨h0, b, born, last, h1, h2, fun v' es hh => by subst hp; rw [upd_self] at hh; cases hh⟩)
    (fun hok => by
      refine ⟨pb, cur', e, fr, g1, k2, r7, fun o ho => k4 o (by rw [← r8]; exact ho), by rw [setR_len hle, r8]; exact k5, fun q y hq => ?_⟩
      rw [setR_get hle] at hq
      rw [r9]
      have hlen : u.cells.toList.length = cs.length := by simpa using c1
      rw [hlen]
      split at hq
      · rename_i hc
        rw [if_pos hc]
        have hq' := idx_lt hq
        have hcell : u.cells[q - j]? = some (u.cells.toList.getD (q - j) undef) := by
          rw [List.getD_eq_getElem?_getD, List.getElem?_eq_getElem (by omega)]
          simp [c1, hq']
        exact ⟨(c3 _ _ y hcell hq).mono hok (fun _ _ h => h), c2 _ _ hcell⟩
      · rename_i hc
        rw [if_neg hc]
        obtain ⟨a1, a2⟩ := k6 q y hq
        exact ⟨a1.mono hok (fun _ _ h => h), a2⟩)
  exact opres_skip r1 (fun _ _ => rfl) hs.1 rfl
theorem store_ar (h : Sim w0 M R γ φ tv sv a w) {b : Nat} {t : TypeId} {ti : TI} (ht : TyOk P t ti) {m i j z ver : Nat} {r : List Row} {row cs l : Row} {ns : List Nat} {p u : Value} {x : AV} (hp : RepV w (okOf w0 M R φ sv w) γ p (.pt m i j))
    (hu : RepV w (okOf w0 M R φ sv w) γ u x) (hc : cellsOf x = some cs) (hm : sv m = some (.ar z ver r)) (hrow : r[i]? = some row) (hcnv : cnv sv m i ver row j cs = some (l, ns)) (hsz : cs.length = ti.size) (hle : j + cs.length ≤ z)
    (hfl : (bif flatT ti then l.all isSc else true) = true) : OpRes P w0 M R γ tv sv a w b (do Instr.storeAt t p u; pure .skip) ⟨.tu [], Mx.kill ns ++ [(m, some (.ar z (bif flatT ti then ver else ver + 1) (r.set i (setR row j l))))]⟩ := by
  obtain ⟨c1, c2, c3⟩ := cells_rep hu hc
  obtain ⟨v0', k1, k2⟩ := h.bk m _ hm
  obtain ⟨v0, z', g1, g2⟩ := hp
  rw [g1] at k1
  cases k1
  have hlm := blk_live hm
  cases k2 with
  | rd _ _ _ n1 => exact (n1 _ _ rfl).elim
  | nil => simp at hrow
  | emp => simp at hrow
  | sl _ _ pb off cap _ cur e fr Fs a1 a2 a3 a4 a5 a6 a7 a8 a9 a10 a11 =>
    obtain ⟨_, rfl⟩ := g2
    have hrl := a9 i row hrow
    have hvs : ∀ q y, cs[q]? = some y → RepC w (okOf w0 M R φ sv w) γ (u.cells.toList.getD q undef) y := fun q y hq => by
      have hq' := idx_lt hq
      exact c3 q _ y (by rw [List.getD_eq_getElem?_getD, List.getElem?_eq_getElem (by simp; omega)]; simp [c1, hq']) hq
    obtain ⟨l1, l2, l3, F, f1, f2, f3⟩ := cnv_ok h (m := m) (i := i) (ver := ver) (old := row) (fun j' c => Fs i j' c) (fun j' c hc => ⟨hlm, (a7 _ _ _ hc).1⟩) (fun j1 j2 c hc hc' => (a8 _ _ _ _ _ hc hc').2)
      (fun k j' z' r' hk ho => by
        obtain ⟨_, _, hh⟩ := h.bk k _ hk
        have hn : nest r i j' = some (z', r') := by simp [nest, hrow, ho]
        obtain ⟨u0, b', off', len', cap', q1, q2, q3⟩ := (hh z ver r hm).2 rfl z' r' hn
        rw [g1] at q2
        cases q2
        refine ⟨u0, q1, ?_⟩
        have := a11 i row j' _ hrow ho
        have hcl := cell_some a2 (in_row (idx_lt hrow) (by rw [← hrl]; exact idx_lt ho) a4 a5)
        rw [q3] at hcl
        cases hcl
        exact this) cs j l ns (fun q => u.cells.toList.getD q undef) hcnv hvs
    have hcl : u.cells.toList.length = l.length := by rw [l1]; simpa using c1
    have hfit : off + (i * z + j) + ti.size ≤ cur.size := by
      have h1 : (i + 1) * z ≤ cap * z := Nat.mul_le_mul_right _ (by have := idx_lt hrow; omega)
      rw [Nat.add_mul] at h1
      omega
    obtain ⟨w', cur', r1, r2, r3, r4, r5, r6, r7, r8, r9⟩ := storeAt_run (P := P) ht (o := off + (i * z + j)) a2 a3 (by omega) hfit c2
    have hsv : syncF (Mx.kill ns ++ [(m, some (.ar z (bif flatT ti then ver else ver + 1) (r.set i (setR row j l))))]) sv = updS (syncF (Mx.kill ns) sv) m (some (.ar z (bif flatT ti then ver else ver + 1) (r.set i (setR row j l)))) := by
      rw [syncF_app]; rfl
    have sv_ne : ∀ n, n ≠ m → n ∉ ns → updS (syncF (Mx.kill ns) sv) m (some (.ar z (bif flatT ti then ver else ver + 1) (r.set i (setR row j l)))) n = sv n := fun n h1 h2 => by rw [upd_ne (Ne.symm h1), kill_sv, if_neg h2]
    have sv_k : ∀ n, n ≠ m → n ∈ ns → updS (syncF (Mx.kill ns) sv) m (some (.ar z (bif flatT ti then ver else ver + 1) (r.set i (setR row j l)))) n = none := fun n h1 h2 => by rw [upd_ne (Ne.symm h1), kill_sv, if_pos h2]
    have only : ∀ n, (n = m ∨ n ∈ ns) → live (updS (syncF (Mx.kill ns) sv) m (some (.ar z (bif flatT ti then ver else ver + 1) (r.set i (setR row j l))))) n → n = m := fun n hn hl => by
      rcases hn with rfl | hn
      · rfl
      · by_cases e : n = m
        · exact e
        · unfold live at hl; rw [sv_k n e hn] at hl; cases hl
    have hst := h.step (γ' := γ) (φ' := fun n => if n = m then (fun c => φ m c ∨ ∃ k ∈ ns, φ k c) else φ n) (sv' := updS (syncF (Mx.kill ns) sv) m (some (.ar z (bif flatT ti then ver else ver + 1) (r.set i (setR row j l))))) (w' := w')
      (fun n => n = m ∨ n ∈ ns) (fun _ _ h => h) (fun n hn => ⟨sv_ne n (fun e => hn (.inl e)) (fun e => hn (.inr e)), if_neg (fun e => hn (.inl e))⟩)
      ⟨r2.trans h.fr.os, r3.trans h.fr.tape, r4.trans h.fr.output, by rw [r5]; exact h.fr.size, fun k hk hM => by
        rw [r6 k fun e => ?_]
        · exact h.fr.block k hk hM
        · subst e
          rcases (h.nw m k hlm a1).2 with h1 | h1
          · omega
          · exact hM h1⟩
      (Kp.cell r6 a2 r7 r8) (by omega) (fun k _ hk => r6 k fun e => hk m (.inl rfl) hlm (e ▸ a1))
      (fun n c hn hl hc => by
        obtain rfl := only n hn hl
        simp only [if_true] at hc
        rw [r5]
        rcases hc with hc | ⟨k, hk, hc⟩
        · exact ⟨(h.nw n c hlm hc).1, .inr ⟨n, .inl rfl, hlm, hc⟩⟩
        · exact ⟨(h.nw k c (l3 k hk) hc).1, .inr ⟨k, .inr hk, l3 k hk, hc⟩⟩)
      (fun n n' hn hn' hl hl' hne => (hne ((only n hn hl).trans (only n' hn' hl').symm)).elim)
      (fun k p i' j' v hk hs hp => by
        obtain ⟨h0, h1, h2⟩ := h.bk k _ hs
        refine ⟨h0, h1, fun zp v' rp hh => ?_⟩
        by_cases hpm : p = m
        · subst hpm
          rw [upd_self] at hh
          cases hh
          obtain ⟨hle', heq⟩ := h2 z ver r hm
          cases hft : flatT ti with
          | false => exact ⟨by simp; omega, fun e => by simp at e; omega⟩
          | true =>
            rw [hft] at hfl
            simp only [cond_true] at hfl ⊢
            refine ⟨hle', fun e z1 r1 hn => ?_⟩
            obtain ⟨row', hr', hj'⟩ := nest_some hn
            rw [List.getElem?_set] at hr'
            have hold : nest r i' j' = some (z1, r1) ∧ ¬ (i' = i ∧ j ≤ j' ∧ j' < j + l.length) := by
              by_cases hii : i = i'
              · subst hii
                simp [idx_lt hrow] at hr'
                subst hr'
                rw [setR_get (by omega)] at hj'
                split at hj'
                · have := List.all_eq_true.1 hfl _ (List.mem_of_getElem? hj')
                  simp [isSc] at this
                · rename_i hcc
                  exact ⟨by simp [nest, hrow, hj'], fun hh => hcc hh.2⟩
              · rw [if_neg hii] at hr'
                exact ⟨by simp [nest, hr', hj'], fun hh => hii hh.1.symm⟩
            obtain ⟨u0, b', off', len', cap', q1, q2, q3⟩ := heq e z1 r1 hold.1
            refine ⟨u0, b', off', len', cap', q1, q2, ?_⟩
            rw [g1] at q2
            cases q2
            obtain ⟨row0, hr0, hj0⟩ := nest_some hold.1
            have hjz : j' < z := by rw [← a9 _ _ hr0]; exact idx_lt hj0
            have hlt := in_row (idx_lt hr0) hjz a4 a5
            have hnew := cell_some r7 (o := off + (i' * z + j')) (by omega)
            rw [hnew, r9, if_neg, ← cell_some a2 hlt, q3]
            intro hh
            rcases Nat.lt_trichotomy i' i with hlt | rfl | hlt
            · have : (i' + 1) * z ≤ i * z := Nat.mul_le_mul_right _ (by omega)
              rw [Nat.add_mul] at this
              omega
            · have := hold.2; omega
            · have : (i + 1) * z ≤ i' * z := Nat.mul_le_mul_right _ (by omega)
              rw [Nat.add_mul] at this
              omega
        · rcases hp with rfl | hp
          · exact (hpm rfl).elim
          · rw [sv_k p hpm hp] at hh; cases hh)
      (fun k p v seen hk hs hp => by
        obtain ⟨h0, b, born, last, h1, h2, _⟩ := h.bk k _ hs
        refine ⟨h0, b, born, last, h1, by show (if k = m then (fun c => φ m c ∨ ∃ k ∈ ns, φ k c) else φ k) b; rw [if_neg (fun e => hk (.inl e))]; exact h2, fun v' es hh => ?_⟩
        by_cases hpm : p = m
        · subst hpm; rw [upd_self] at hh; cases hh
        · rcases hp with rfl | hp
          · exact (hpm rfl).elim
          · rw [sv_k p hpm hp] at hh; cases hh)
      (fun hok n B hn hB => by
        have hnm : n = m := only n hn (blk_live hB)
        subst hnm
        rw [upd_self] at hB
        cases hB
        refine ⟨_, g1, ?_⟩
        simp only [if_true]
        have hap : ∀ q x, F q x → x ≠ pb := fun q x hx e => by
          subst e
          rcases (f2 q x hx).2 with ⟨k, hk, hkc⟩ | hg
          · exact h.dj k n (l3 k hk) hlm (fun e => l2 (e ▸ hk)) x hkc a1
          · exact (a7 _ _ _ hg).2 rfl
        exact own_set (w := w) (w' := w') (.inl a1) a3 a4 a5 a6 (fun i j x hx => ⟨.inl (a7 i j x hx).1, (a7 i j x hx).2⟩) a8 a9 a10 a11 hrow hcl (by omega)
          (fun v hv => by obtain ⟨q, hq⟩ := List.getElem?_of_mem hv; exact c2 q v (by simpa using hq)) F
          (fun q x hx => ⟨(f2 q x hx).2.symm.imp (fun hg => (a7 _ _ _ hg).1) id, hap q x hx⟩) f3
          (fun q i' j' x hx hf => by
            rcases (f2 q x hx).2 with ⟨k, hk, hkc⟩ | hg
            · exact (h.dj k n (l3 k hk) hlm (fun e => l2 (e ▸ hk)) x hkc (a7 _ _ _ hf).1).elim
            · have := a8 _ _ _ _ _ hg hf
              have := (f2 q x hx).1
              omega) f1 r6 r7 r8 r9 hok)
    have hst1 := hst.1
    rw [← hsv] at hst1
    exact opres_skip r1 (fun _ _ => rfl) hst1 rfl
theorem Sim.nest (h : Sim w0 M R γ φ tv sv a w) {m p i j v zp z : Nat} {rp r : List Row} (hm : sv m = some (.sb p i j v)) (hp : sv p = some (.ar zp v rp)) (hn : nest rp i j = some (z, r)) :
    ∃ G u, γ m = some (u, z) ∧ Own w (okOf w0 M R φ sv w) G u (.sl true z r) ∧ (∀ c, G c → φ p c) ∧ ∀ (w' : World) (r' : List Row), w'.os = w.os → w'.tape = w.tape → w'.output = w.output → w'.heap.size = w.heap.size → Kp w w' → (∀ c, ¬ G c → w'.heap[c]? = w.heap[c]?) →
      (∀ ok' : Nat → Prop, (∀ c, okOf w0 M R φ sv w c → ok' c ∧ w'.heap[c]? = w.heap[c]?) → Own w' ok' G u (.sl true z r')) → Sim w0 M R γ φ tv (updS sv p (some (.ar zp v (rp.set i ((rp.getD i []).set j (.sl true z r')))))) a w' := by
  obtain ⟨_, _, hh⟩ := h.bk m _ hm
  obtain ⟨u0, b', off', len', cap', q1, q2, q3⟩ := (hh zp v rp hp).2 rfl z r hn
  obtain ⟨v0, k1, k2⟩ := h.bk p _ hp
  rw [k1] at q2
  cases q2
  obtain ⟨b, off, cap, G, u, e1, e2, e3, e4, e5, e6⟩ := own_nest k2 hn
  cases e1
  rw [q3] at e2
  cases e2
  refine ⟨G, u0, q1, e3, fun c hc => (e4 c hc).1, fun w' r' r1 r2 r3 r4 rk r5 r6 => ?_⟩
  have hsame : ∀ o, w'.cell? ⟨b', o, none⟩ = w.cell? ⟨b', o, none⟩ := fun o => World.cell?_of_block (a := ⟨b', o, none⟩) (r5 b' fun hG => (e4 _ hG).2 rfl)
  refine (h.set (blk_live hp) r1 r2 r3 rk r4 (fun c hc => r5 c fun hG => hc (e4 c hG).1) ?_ ?_ ?_).1
  · intro k p' i' j' v' hk hs hpp
    subst hpp
    obtain ⟨a0, a1, a2⟩ := h.bk k _ hs
    refine ⟨a0, a1, fun zp' v'' rp' hh' => ?_⟩
    rw [upd_self] at hh'
    cases hh'
    obtain ⟨a3, a4⟩ := a2 zp v rp hp
    refine ⟨a3, fun he z1 r1' hn' => ?_⟩
    obtain ⟨row, hrow, hj⟩ := nest_some hn
    have hD : rp.getD i [] = row := by rw [List.getD_eq_getElem?_getD, hrow]; rfl
    rw [hD] at hn'
    obtain ⟨row', hr', hj'⟩ := nest_some hn'
    have hex : ∃ r2, Mx.nest rp i' j' = some (z1, r2) := by
      rw [List.getElem?_set] at hr'
      by_cases hii : i = i'
      · subst hii
        simp [idx_lt hrow] at hr'
        subst hr'
        rw [List.getElem?_set] at hj'
        by_cases hjj : j = j'
        · subst hjj
          simp [idx_lt hj] at hj'
          obtain ⟨rfl, rfl⟩ := hj'
          exact ⟨r, hn⟩
        · rw [if_neg hjj] at hj'
          exact ⟨r1', by simp [Mx.nest, hrow, hj']⟩
      · rw [if_neg hii] at hr'
        exact ⟨r1', by simp [Mx.nest, hr', hj']⟩
    obtain ⟨r2, hr2⟩ := hex
    obtain ⟨u1, b1, off1, len1, cap1, p1, p2, p3⟩ := a4 he z1 r2 hr2
    rw [k1] at p2
    cases p2
    exact ⟨u1, b', off', _, _, p1, k1, (hsame _).trans p3⟩
  · intro k p' v' seen hk hs hpp
    obtain ⟨h0, b, born, last, h1, h2, _⟩ := h.bk k _ hs
    exact ⟨h0, b, born, last, h1, h2, fun v' es hh => by subst hpp; rw [upd_self] at hh; cases hh⟩
  · intro hok
    exact ⟨_, k1, e6 w' _ r' r5 hok (r6 _ hok)⟩
theorem putRows_sb {m : Nat} {f : List Row → Option (List Row)} {upd : List (Nat × Option Blk)} {p i j v : Nat} (hm : sv m = some (.sb p i j v)) (hu : putRows sv m false f = some upd) :
    ∃ zp rp z r r', sv p = some (.ar zp v rp) ∧ nest rp i j = some (z, r) ∧ f r = some r' ∧ upd = [(p, some (.ar zp v (rp.set i ((rp.getD i []).set j (.sl true z r')))))] := by
  unfold putRows at hu
  rw [hm] at hu
  simp only [] at hu
  split at hu
  · rename_i zp vp rp hp
    rw [cond_eq_ite] at hu
    split at hu
    · rename_i hv
      have hv : v = vp := by simpa using hv
      subst hv
      split at hu
      · rename_i z r hn
        split at hu
        · rename_i r' hf
          cases hu
          exact ⟨zp, rp, z, r, r', hp, hn, hf, rfl⟩
        · cases hu
      · cases hu
    · cases hu
  · cases hu
theorem own_store {F : Nat → Prop} {v0 : Value} {z : Nat} {rows : List Row} (ho : Own w ok F v0 (.sl true z rows)) {t : TypeId} {ti : TI} (ht : TyOk P t ti) {i j : Nat} {row cs : Row} (hrow : rows[i]? = some row) (hle : j + cs.length ≤ z) (hsz : cs.length = ti.size)
    (hcs : cs.all isSc = true) {p u : Value} (hp : PtAt v0 z i j p) (c1 : u.cells.size = cs.length) (c2 : ∀ (j : Nat) (u' : Value), u.cells[j]? = some u' → u'.oneCell' = true) (c3 : ∀ (j : Nat) (u' : Value) (y : AV), u.cells[j]? = some u' → cs[j]? = some y → ∃ ok1, Rep w ok1 u' y) :
    ∃ w', (Instr.storeAt t p u).run P w = .ok () w' ∧ w'.os = w.os ∧ w'.tape = w.tape ∧ w'.output = w.output ∧ w'.heap.size = w.heap.size ∧ Kp w w' ∧ (∀ c, ¬ F c → w'.heap[c]? = w.heap[c]?) ∧
      ∀ ok' : Nat → Prop, (∀ c, ok c → ok' c ∧ w'.heap[c]? = w.heap[c]?) → Own w' ok' F v0 (.sl true z (rows.set i (setR row j cs))) := by
  cases ho with
  | rd _ _ _ n1 => exact (n1 _ _ rfl).elim
  | nil => simp at hrow
  | emp => simp at hrow
  | sl _ _ pb off cap _ cur e fr Fs a1 a2 a3 a4 a5 a6 a7 a8 a9 a10 a11 =>
    obtain ⟨_, rfl⟩ := hp
    have hrl := a9 i row hrow
    have hfit : off + (i * z + j) + ti.size ≤ cur.size := by
      have h1 : (i + 1) * z ≤ cap * z := Nat.mul_le_mul_right _ (by have := idx_lt hrow; omega)
      rw [Nat.add_mul] at h1
      omega
    obtain ⟨w', cur', r1, r2, r3, r4, r5, r6, r7, r8, r9⟩ := storeAt_run (P := P) ht (o := off + (i * z + j)) a2 a3 (by omega) hfit c2
    refine ⟨w', r1, r2, r3, r4, r5, Kp.cell r6 a2 r7 r8, fun c hc => r6 c fun e => hc (e ▸ a1), fun ok' hok => ?_⟩
    have hcl : u.cells.toList.length = cs.length := by simpa using c1
    exact own_set (w := w) (w' := w') a1 a3 a4 a5 a6 a7 a8 a9 a10 a11 hrow hcl hle (fun v hv => by obtain ⟨q, hq⟩ := List.getElem?_of_mem hv; exact c2 q v (by simpa using hq)) (fun _ _ => False) (fun _ _ h => h.elim) (fun _ _ _ h => h.elim)
      (fun _ _ _ _ h => h.elim) (fun q y hq => by
        have hq' := idx_lt hq
        have hsc := List.all_eq_true.1 hcs y (List.mem_of_getElem? hq)
        have hcell : u.cells[q]? = some (u.cells.toList.getD q undef) := by
          rw [List.getD_eq_getElem?_getD, List.getElem?_eq_getElem (by omega)]
          simp [c1, hq']
        obtain ⟨ok1, hr⟩ := c3 q _ y hcell hq
        exact own_of_rep hsc (isSc_rep hsc hr)) r6 r7 r8 r9 hok
theorem store_ok (hT : TOk P T) (h : Sim w0 M R γ φ tv sv a w) {b : Nat} {t : TypeId} {ti : TI} (hti : T t = some ti) {p x : Operand} {d : Dl} (hd : pStore ti (opv tv p) (opv tv x) sv = some d) :
    OpRes P w0 M R γ tv sv a w b (do Instr.storeAt t (a.eval p) (a.eval x); pure .skip) d := by
  have ht := hT t ti hti
  have hp := opv_ok h p
  have hx := opv_ok h x
  generalize opv tv p = y at hd hp
  generalize opv tv x = z at hd hx
  generalize a.eval p = pv at hp
  generalize a.eval x = u at hx
  unfold pStore at hd
  split at hd
  · rename_i m i j cs hcs
    split at hd
    · rename_i c hm
      split at hd
      · rename_i hc
        obtain ⟨rfl, h1, h2⟩ := hc
        cases hd
        exact store_box h ht hp hx hcs hm h1 h2
      · cases hd
    · rename_i z' v r hm
      split at hd
      · rename_i row hrow
        split at hd
        · rename_i l ns hcnv
          split at hd
          · rename_i hc
            cases hd
            exact store_ar h ht hp hx hcs hm hrow hcnv hc.1 hc.2.1 hc.2.2
          · cases hd
        · cases hd
      · cases hd
    · rename_i p' i' j' v' hm
      split at hd
      · rename_i z' r hb
        split at hd
        · rename_i row hrow
          split at hd
          · rename_i hc
            split at hd
            · rename_i upd hu
              cases hd
              obtain ⟨zp, rp, z1, r1, r2, k1, k2, k3, rfl⟩ := putRows_sb hm hu
              cases k3
              obtain ⟨G, u0, g1, g2, g3, g4⟩ := h.nest hm k1 k2
              have hbr : blkRows sv m = some (z1, r1) := by simp [blkRows, hm, k1, k2]
              rw [hbr] at hb
              cases hb
              obtain ⟨v0, z2, q1, q2⟩ := hp
              rw [g1] at q1
              cases q1
              obtain ⟨c1, c2, c3⟩ := cells_rep hx hcs
              obtain ⟨w', r1, r2, r3, r4, r5, rk, r6, r7⟩ := own_store (P := P) g2 ht hrow hc.2.2.2 hc.2.2.1 hc.2.1 q2 c1 c2 (fun j u' y h1 h2 => by
                have hsc := List.all_eq_true.1 hc.2.1 y (List.mem_of_getElem? h2)
                have := c3 j u' y h1 h2
                exact ⟨okOf w0 M R φ sv w, by cases y <;> first | exact this | (simp [isSc] at hsc; done)⟩)
              exact opres_skip r1 (fun _ _ => rfl) (g4 w' _ r2 r3 r4 r5 rk r6 r7) rfl
            · cases hd
          · cases hd
        · cases hd
      · cases hd
    · cases hd
  · cases hd
end
end Go.Proofs.YtkkmgjhfjhcdmaaGreatDoor.Mx

namespace Go.Proofs.YtkkmgjhfjhcdmaaGreatDoor.Mx
open Go Go.RowKit
section
variable {w0 : World} {M R : Nat → Prop} {γ : Gs} {φ : Fp} {tv : Tv} {sv : Sv} {a : Act} {w w' : World} {P : Program} {T : Ty} {ok ok' : Nat → Prop}
structure More (w w' : World) (o : Obj) : Prop where
  os : w'.os = w.os
  tape : w'.tape = w.tape
  output : w'.output = w.output
  size : w'.heap.size = w.heap.size + 1
  heap : ∀ k, w'.heap[k]? = if k = w.heap.size then some o else w.heap[k]?
theorem More.alloc {w1 : World} (hs : SameW w w1) (o : Obj) : More w (w1.alloc o) o :=
  ⟨hs.os, hs.tape, hs.output, by rw [alloc_size, hs.heap], fun k => by rw [alloc_heap, hs.heap]⟩
theorem Sim.newAr (h : Sim w0 M R γ φ tv sv a w) {n : Nat} (hn : γ n = none) (ks : List Nat) (hks : ∀ k ∈ ks, live sv k ∧ k ≠ n) {z cap : Nat} {rows : List Row} {cur : Array Value} {e : TypeId} {fr : Nat × Nat} (hm : More w w' (.cells cur e fr)) (ht : Thawed cur fr)
    (hc : rows.length ≤ cap) (hsz : cap * z ≤ cur.size) (hml : cap ≤ maxLen) (Fs : Nat → Nat → Nat → Prop) (hF : ∀ i j c, Fs i j c → ∃ k ∈ ks, φ k c) (hdj : ∀ i j i' j' x, Fs i j x → Fs i' j' x → i = i' ∧ j = j') (hl : ∀ (i : Nat) (row : Row), rows[i]? = some row → row.length = z)
    (h1 : ∀ (i : Nat) (row : Row) (j : Nat) (x : AV), rows[i]? = some row → row[j]? = some x → (cur.getD (i * z + j) undef).oneCell' = true)
    (hO : ∀ (i : Nat) (row : Row) (j : Nat) (x : AV), rows[i]? = some row → row[j]? = some x → Own w (okOf w0 M R φ sv w) (Fs i j) (cur.getD (i * z + j) undef) x) :
    ∃ φ', Sim w0 M R (γN γ n (.slice (some ⟨w.heap.size, 0, none⟩) rows.length cap, z)) φ' tv (updS (syncF (Mx.kill ks) sv) n (some (.ar z 0 rows))) a w' := by
  refine ⟨_, (h.new hn ks (fun k hk => (hks k hk).2) (w' := w') (g := (.slice (some ⟨w.heap.size, 0, none⟩) rows.length cap, z)) (F := fun c => c = w.heap.size ∨ ∃ k ∈ ks, φ k c) (B := .ar z 0 rows) hm.os hm.tape hm.output (Kp.old fun k hk => by rw [hm.heap, if_neg (by omega)]) (by rw [hm.size]; omega)
    (fun c hc _ => by rw [hm.heap, if_neg (by omega)]) ?_ ?_).1⟩
  · rintro c (rfl | ⟨k, hk, hc⟩)
    · rw [hm.size]; exact ⟨by omega, .inl (Nat.le_refl _)⟩
    · have := (h.nw k c (hks k hk).1 hc).1
      rw [hm.size]; exact ⟨by omega, .inr ⟨k, hk, (hks k hk).1, hc⟩⟩
  · intro hok
    refine ⟨_, γN_self, ?_⟩
    rw [φN_self]
    have lt : ∀ i j c, Fs i j c → c < w.heap.size := fun i j c hc => by obtain ⟨k, hk, hkc⟩ := hF i j c hc; exact (h.nw k c (hks k hk).1 hkc).1
    have e0 : ∀ i j, 0 + (i * z + j) = i * z + j := fun i j => Nat.zero_add _
    exact .sl _ z w.heap.size 0 cap rows cur e fr Fs (.inl rfl) (by rw [hm.heap, if_pos rfl]) ht hc (by omega) hml (fun i j c hc => ⟨.inr (hF i j c hc), by have := lt i j c hc; omega⟩) hdj hl (fun i row j x hi hj => by rw [e0]; exact h1 i row j x hi hj)
      (fun i row j x hi hj => by rw [e0]; exact (hO i row j x hi hj).mono hok _ fun c hc => ⟨hc, by rw [hm.heap, if_neg (by have := lt i j c hc; omega)]⟩)
theorem ow_rep {m n cap z : Nat} {b : Nat} (h : γ m = some (.slice (some ⟨b, 0, none⟩) n cap, z)) (hc : n ≤ cap) : RepV w ok γ (.slice (some ⟨b, 0, none⟩) n cap) (.ow m 0 n) :=
  ⟨_, z, h, 0, cap, rfl, by omega, hc, .inl ⟨by omega, by omega⟩⟩
theorem madeCells_get {z : Array Value} {n k : Nat} (hk : k < n) (hz : k % z.size < z.size) : (madeCells z n).getD k undef = z.getD (k % z.size) undef := by
  have : (madeCells z n)[k]? = some (z.getD (k % z.size) undef) := by
    simp [madeCells, hk, hz]
  rw [Array.getD_eq_getD_getElem?, this]; rfl
theorem zrow_ok {F : Nat → Prop} : ∀ (vs : List Value) (cz : List (Option Nat)), (∀ (k z : Nat), cz[k]? = some (some z) → vs[k]? = some (.slice none 0 0)) → (zrow vs cz).length = vs.length ∧ ∀ (j : Nat) (v : Value) (x : AV), vs[j]? = some v → (zrow vs cz)[j]? = some x → Own w ok F v x
  | [], cz, _ => by simp [zrow]
  | v :: vs, [], _ => by
    obtain ⟨h1, h2⟩ := zrow_ok vs [] (fun k z hk => by simp at hk)
    refine ⟨by simp [zrow, h1], fun j u x hu hx => ?_⟩
    cases j with
    | zero =>
      simp [zrow] at hu hx
      subst hu hx
      unfold scp
      cases hp : plain v
      · exact own_of_rep rfl (.no _)
      · exact own_of_rep rfl (.sc _ hp)
    | succ j => exact h2 j u x (by simpa using hu) (by simpa [zrow] using hx)
  | v :: vs, none :: cz, hc => by
    obtain ⟨h1, h2⟩ := zrow_ok vs cz (fun k z hk => by have := hc (k + 1) z (by simpa using hk); simpa using this)
    refine ⟨by simp [zrow, h1], fun j u x hu hx => ?_⟩
    cases j with
    | zero =>
      simp [zrow] at hu hx
      subst hu hx
      unfold scp
      cases hp : plain v
      · exact own_of_rep rfl (.no _)
      · exact own_of_rep rfl (.sc _ hp)
    | succ j => exact h2 j u x (by simpa using hu) (by simpa [zrow] using hx)
  | v :: vs, some z :: cz, hc => by
    obtain ⟨h1, h2⟩ := zrow_ok vs cz (fun k z hk => by have := hc (k + 1) z (by simpa using hk); simpa using this)
    refine ⟨by simp [zrow, h1], fun j u x hu hx => ?_⟩
    cases j with
    | zero =>
      have := hc 0 z (by simp)
      simp [zrow] at hu hx this
      subst hu hx this
      exact .nil _ _
    | succ j => exact h2 j u x (by simpa using hu) (by simpa [zrow] using hx)
theorem ty_info {t : TypeId} {ti : TI} (h : TyOk P t ti) : ∃ i z, P.info? t = some i ∧ i.size = ti.size ∧ i.bytes = ti.bytes ∧ i.zero = some z ∧ z.cells.toList = ti.zero := h.inf
theorem makeSlice_ok (hT : TOk P T) (h : Sim w0 M R γ φ tv sv a w) {b : Nat} (hf : Fresh γ b) {t : TypeId} {te : TI} (hte : elemOf T t = some te) {l c : Operand} {n m : Int} (hl : toI (opv tv l) = some n) (hc : toI (opv tv c) = some m) (h0 : 0 ≤ n) (hnm : n ≤ m) (hb : m * te.bytes ≤ room) :
    OpRes P w0 M R γ tv sv a w b (do pure (.value (← Instr.makeSlice t (a.eval l) (a.eval c)))) ⟨.ow b 0 n.toNat, [(b, some (.ar te.size 0 (List.replicate n.toNat (zrow te.zero te.cz))))]⟩ := by
  obtain ⟨e, hu, he⟩ := elemOf_some hT hte
  obtain ⟨kl, el⟩ := toI_ok (opv_ok h l) hl
  obtain ⟨kc, ec⟩ := toI_ok (opv_ok h c) hc
  obtain ⟨i, z, i1, i2, i3, i4, i5⟩ := ty_info he
  have h63 : m ≤ 4611686018427387904 := by
    have h1 : m * 1 ≤ m * (te.bytes : Int) := Int.mul_le_mul_of_nonneg_left (by have := he.b1; omega) (by omega)
    simp only [room] at hb
    omega
  rw [el, ec]
  have hby : (i.bytes : Int) * m ≤ 281474976710656 := by
    rw [i3, Int.mul_comm]
    simp only [room] at hb
    omega
  have hr := run_make (P := P) w t e i z hu i1 i4 kl kc n m h0 hnm hby (by omega)
  have hzz := zrow_ok (w := w) (ok := okOf w0 M R φ sv w) (F := fun _ => False) te.zero te.cz he.cz
  have hzs : z.cells.size = te.size := by rw [← he.zl, ← i5]; simp
  have hrow : ∀ i' row, (List.replicate n.toNat (zrow te.zero te.cz))[i']? = some row → i' < n.toNat ∧ row = zrow te.zero te.cz := fun i' row hi => by
    have := idx_lt hi
    rw [List.length_replicate] at this
    rw [List.getElem?_replicate, if_pos this] at hi
    cases hi; exact ⟨this, rfl⟩
  have hval : ∀ i' j x, i' < n.toNat → (zrow te.zero te.cz)[j]? = some x → ∃ v, te.zero[j]? = some v ∧ (madeCells z.cells (m.toNat * i.size)).getD (i' * te.size + j) undef = v := fun i' j x hi hj => by
    have hj' := idx_lt hj
    rw [hzz.1, he.zl] at hj'
    have h1 : (i' + 1) * te.size ≤ m.toNat * te.size := Nat.mul_le_mul_right _ (by omega)
    rw [Nat.add_mul] at h1
    have hmod : (i' * te.size + j) % z.cells.size = j := by rw [hzs, Nat.mul_comm, Nat.mul_add_mod, Nat.mod_eq_of_lt hj']
    refine ⟨z.cells.getD j undef, ?_, ?_⟩
    · rw [← i5]; simp [hzs, hj']
    · rw [madeCells_get (by rw [i2]; omega) (by rw [hmod, hzs]; exact hj'), hmod]
  obtain ⟨φ', hs⟩ := h.newAr (w' := w.alloc (.cells (madeCells z.cells (m.toNat * i.size)) e)) (n := b) (hf b (Nat.le_refl _) (by omega)) [] (fun k hk => by cases hk) (z := te.size) (cap := m.toNat) (rows := List.replicate n.toNat (zrow te.zero te.cz)) (More.alloc (SameW.refl w) _) (fun o ho => by simp)
    (by rw [List.length_replicate]; omega) (by rw [size_madeCells, i2]; exact Nat.le_refl _) (by simp only [maxLen]; omega) (fun _ _ _ => False) (fun _ _ _ h => h.elim) (fun _ _ _ _ _ h => h.elim)
    (fun i' row hi => by rw [(hrow i' row hi).2, hzz.1, he.zl])
    (fun i' row j x hi hj => by
      obtain ⟨q1, rfl⟩ := hrow i' row hi
      obtain ⟨v, q2, q3⟩ := hval i' j x q1 hj
      rw [q3]; exact he.zc v (List.mem_of_getElem? q2))
    (fun i' row j x hi hj => by
      obtain ⟨q1, rfl⟩ := hrow i' row hi
      obtain ⟨v, q2, q3⟩ := hval i' j x q1 hj
      rw [q3]; exact hzz.2 j v x q2 hj)
  rw [List.length_replicate] at hs
  exact ⟨_, _, _, φ', .inl (by simp only [Sem.run_bind, hr, Result.andThen_ok, Sem.run_pure]), fun k hk => by rw [γN_ne (by omega)], hs, ow_rep γN_self (by omega)⟩
theorem fold_put (off : Nat) : ∀ (l : List Value) (c : Array Value) (k : Nat), off + k + l.length ≤ c.size → ((l.zipIdx k).foldl (fun cs (p : Value × Nat) => cs.setIfInBounds (off + p.2) p.1) c).size = c.size ∧
    ∀ i, ((l.zipIdx k).foldl (fun cs (p : Value × Nat) => cs.setIfInBounds (off + p.2) p.1) c).getD i undef = if off + k ≤ i ∧ i < off + k + l.length then l.getD (i - (off + k)) undef else c.getD i undef
  | [], c, k, _ => ⟨rfl, fun i => by simp; omega⟩
  | v :: l, c, k, h => by
    simp only [List.length_cons] at h
    obtain ⟨h1, h2⟩ := fold_put off l (c.setIfInBounds (off + k) v) (k + 1) (by simp; omega)
    simp only [List.zipIdx_cons, List.foldl_cons]
    refine ⟨by rw [h1]; simp, fun i => ?_⟩
    rw [h2]
    by_cases hi : i = off + k
    · subst hi
      rw [if_neg (by omega), if_pos (by simp)]
      have : off + k < c.size := by omega
      simp [this]
    · by_cases hc : off + (k + 1) ≤ i ∧ i < off + (k + 1) + l.length
      · rw [if_pos hc, if_pos (by simp; omega), show i - (off + k) = (i - (off + (k + 1))) + 1 by omega, List.getD_cons_succ]
      · rw [if_neg hc, if_neg (by simp; omega)]
        simp [Array.getElem?_setIfInBounds_ne (Ne.symm hi)]
structure RowsOk (w : World) (ok : Nat → Prop) (φ : Fp) (ks : List Nat) (z : Nat) (rows : List Row) (cur : Array Value) (Fs : Nat → Nat → Nat → Prop) : Prop where
  fp : ∀ i j c, Fs i j c → ∃ k ∈ ks, φ k c
  dj : ∀ i j i' j' x, Fs i j x → Fs i' j' x → i = i' ∧ j = j'
  ln : ∀ (i : Nat) (row : Row), rows[i]? = some row → row.length = z
  h1 : ∀ (i : Nat) (row : Row) (j : Nat) (x : AV), rows[i]? = some row → row[j]? = some x → (cur.getD (i * z + j) undef).oneCell' = true
  ow : ∀ (i : Nat) (row : Row) (j : Nat) (x : AV), rows[i]? = some row → row[j]? = some x → Own w ok (Fs i j) (cur.getD (i * z + j) undef) x
theorem fillS_ok (h : Sim w0 M R γ φ tv sv a w) {z : Nat} (hz : 1 ≤ z) : ∀ (ps : List (Nat × Operand)) (rs : List Row) (cur : Array Value) (A : List Nat) (Fs : Nat → Nat → Nat → Prop) (q : List Row) (ns : List Nat),
    fillS sv z rs (ps.map fun p => (p.1, opv tv p.2)) = some (q, ns) → RowsOk w (okOf w0 M R φ sv w) φ A z rs cur Fs → cur.size = rs.length * z → (∀ k ∈ A, live sv k ∧ k ∉ ns) →
    ∃ cur' Fs', Instr.fill (fun i => some (i * z, z)) cur (ps.map fun p => (p.1, a.eval p.2)) = some cur' ∧ cur'.size = cur.size ∧ q.length = rs.length ∧ RowsOk w (okOf w0 M R φ sv w) φ (ns ++ A) z q cur' Fs' ∧ ∀ k ∈ ns, live sv k
  | [], rs, cur, A, Fs, q, ns, hf, hr, _, _ => by
    simp only [List.map_nil, fillS] at hf
    cases hf
    exact ⟨cur, Fs, rfl, rfl, rfl, hr, fun k hk => by cases hk⟩
  | (i, x) :: ps, rs, cur, A, Fs, q, ns, hf, hr, hs, hA => by
    simp only [List.map_cons, fillS] at hf
    split at hf
    · rename_i ys hys
      split at hf
      · rename_i l ns1 hcnv
        split at hf
        · rename_i hc
          obtain ⟨hyz, hi⟩ := hc
          split at hf
          · rename_i q' ms hrec
            rw [cond_eq_ite] at hf
            split at hf
            · rename_i hdis
              cases hf
              have hdis : ∀ n ∈ ns1, n ∉ ms := fun n hn hm => by
                have := List.all_eq_true.1 hdis n hn
                simp [hm] at this
              obtain ⟨c1, c2, c3⟩ := cells_rep (opv_ok h x) hys
              have hvs : ∀ q y, ys[q]? = some y → RepC w (okOf w0 M R φ sv w) γ ((a.eval x).cells.toList.getD q undef) y := fun q y hq => by
                have hq' := idx_lt hq
                exact c3 q _ y (by rw [List.getD_eq_getElem?_getD, List.getElem?_eq_getElem (by simp; omega)]; simp [c1, hq']) hq
              obtain ⟨l1, l2, l3, F, f1, f2, f3⟩ := cnv_ok h (m := 0) (i := 0) (ver := 0) (old := []) (fun _ _ => False) (fun _ _ h => h.elim) (fun _ _ _ h => h.elim) (fun k j z r _ ho => by simp at ho) ys 0 l ns1 (fun q => (a.eval x).cells.toList.getD q undef) hcnv hvs
              have f2' : ∀ q c, F q c → q < l.length ∧ ∃ k ∈ ns1, φ k c := fun q c hq => by
                obtain ⟨e1, e2⟩ := f2 q c hq
                exact ⟨e1, e2.resolve_right (fun h => h)⟩
              have hcells : (a.eval x).cells.size = z := by rw [c1, hyz]
              have hlz : l.length = z := by rw [l1, hyz]
              have hfit : i * z + z ≤ cur.size := by
                rw [hs]
                have : (i + 1) * z ≤ rs.length * z := Nat.mul_le_mul_right _ (by omega)
                rw [Nat.add_mul] at this
                omega
              have hfold := fold_put (i * z) (a.eval x).cells.toList cur 0 (by simp [hcells]; omega)
              have hzip : (a.eval x).cells.zipIdx.foldl (fun cs (c, j) => cs.setIfInBounds (i * z + j) c) cur = ((a.eval x).cells.toList.zipIdx 0).foldl (fun cs (p : Value × Nat) => cs.setIfInBounds (i * z + p.2) p.1) cur := by
                rw [← Array.foldl_toList, Array.toList_zipIdx]
              generalize hcur1 : ((a.eval x).cells.toList.zipIdx 0).foldl (fun cs (p : Value × Nat) => cs.setIfInBounds (i * z + p.2) p.1) cur = cur1 at hfold hzip
              obtain ⟨g1, g2⟩ := hfold
              have hg2 : ∀ k, cur1.getD k undef = if i * z ≤ k ∧ k < i * z + z then (a.eval x).cells.toList.getD (k - i * z) undef else cur.getD k undef := fun k => by
                rw [g2 k]; simp only [Nat.add_zero, Array.length_toList, hcells]
              have getR : ∀ i' row', (rs.set i l)[i']? = some row' → (i' = i ∧ row' = l) ∨ (i' ≠ i ∧ rs[i']? = some row') := fun i' row' h => by
                rw [List.getElem?_set] at h
                by_cases hii : i = i'
                · subst hii
                  simp [hi] at h
                  exact .inl ⟨rfl, h.symm⟩
                · rw [if_neg hii] at h
                  exact .inr ⟨Ne.symm hii, h⟩
              have away : ∀ i' j', i' ≠ i → j' < z → cur1.getD (i' * z + j') undef = cur.getD (i' * z + j') undef := fun i' j' hne hj' => by
                rw [hg2, if_neg]
                intro hh
                rcases Nat.lt_trichotomy i' i with hlt | rfl | hlt
                · have : (i' + 1) * z ≤ i * z := Nat.mul_le_mul_right _ (by omega)
                  rw [Nat.add_mul] at this; omega
                · exact hne rfl
                · have : (i + 1) * z ≤ i' * z := Nat.mul_le_mul_right _ (by omega)
                  rw [Nat.add_mul] at this; omega
              have here : ∀ j', j' < z → cur1.getD (i * z + j') undef = (a.eval x).cells.toList.getD j' undef := fun j' hj' => by
                rw [hg2, if_pos (by omega)]; congr 1; omega
              have hnew : RowsOk w (okOf w0 M R φ sv w) φ (ns1 ++ A) z (rs.set i l) cur1 (fun i' j' => if i' = i then F j' else Fs i' j') := by
                refine ⟨fun i' j' c hc => ?_, fun i1 j1 i2 j2 c hc hc' => ?_, fun i' row' hi' => ?_, fun i' row' j' y hi' hj' => ?_, fun i' row' j' y hi' hj' => ?_⟩
                · split at hc
                  · obtain ⟨_, k, hk, hkc⟩ := f2' _ _ hc; exact ⟨k, List.mem_append_left _ hk, hkc⟩
                  · obtain ⟨k, hk, hkc⟩ := hr.fp _ _ _ hc; exact ⟨k, List.mem_append_right _ hk, hkc⟩
                · have cross : ∀ j i' j', F j c → Fs i' j' c → False := fun j i' j' hF hS => by
                    obtain ⟨_, k, hk, hkc⟩ := f2' _ _ hF
                    obtain ⟨k', hk', hkc'⟩ := hr.fp _ _ _ hS
                    obtain ⟨hl', hn'⟩ := hA k' hk'
                    refine h.dj k k' (l3 k hk) hl' (fun e => hn' ?_) c hkc hkc'
                    rw [← e]; exact List.mem_append_left _ hk
                  split at hc <;> split at hc'
                  · exact ⟨by omega, f3 _ _ _ hc hc'⟩
                  · exact (cross _ _ _ hc hc').elim
                  · exact (cross _ _ _ hc' hc).elim
                  · exact hr.dj _ _ _ _ _ hc hc'
                · rcases getR i' row' hi' with ⟨rfl, rfl⟩ | ⟨_, hh⟩
                  · exact hlz
                  · exact hr.ln _ _ hh
                · rcases getR i' row' hi' with ⟨rfl, rfl⟩ | ⟨hne, hh⟩
                  · have hj := idx_lt hj'
                    rw [here j' (by omega)]
                    exact c2 j' _ (by rw [List.getD_eq_getElem?_getD, List.getElem?_eq_getElem (by simp; omega)]; simp [show j' < (a.eval x).cells.size by omega])
                  · rw [away i' j' hne (by rw [← hr.ln _ _ hh]; exact idx_lt hj')]
                    exact hr.h1 _ _ _ _ hh hj'
                · rcases getR i' row' hi' with ⟨rfl, rfl⟩ | ⟨hne, hh⟩
                  · have hj := idx_lt hj'
                    rw [here j' (by omega)]
                    simp only [if_true]
                    exact f1 j' y hj'
                  · rw [away i' j' hne (by rw [← hr.ln _ _ hh]; exact idx_lt hj')]
                    simp only [if_neg hne]
                    exact hr.ow _ _ _ _ hh hj'
              obtain ⟨cur', Fs', e1, e2, e3, e4, e5⟩ := fillS_ok h hz ps (rs.set i l) cur1 (ns1 ++ A) _ q ms hrec hnew (by rw [g1, hs, List.length_set]) (fun k hk => by
                rcases List.mem_append.1 hk with hk | hk
                · exact ⟨l3 k hk, hdis k hk⟩
                · obtain ⟨b1, b2⟩ := hA k hk
                  exact ⟨b1, fun hm => b2 (List.mem_append_right _ hm)⟩)
              refine ⟨cur', Fs', ?_, by rw [e2, g1], by rw [e3, List.length_set], ?_, fun k hk => ?_⟩
              · simp only [List.map_cons, Instr.fill]
                rw [if_neg (by simp [hcells]; omega), hzip]
                exact e1
              · refine ⟨fun i' j' c hc => ?_, e4.dj, e4.ln, e4.h1, e4.ow⟩
                obtain ⟨k, hk, hkc⟩ := e4.fp i' j' c hc
                refine ⟨k, ?_, hkc⟩
                simp only [List.mem_append] at hk ⊢
                rcases hk with hk | hk | hk
                · exact .inl (.inr hk)
                · exact .inl (.inl hk)
                · exact .inr hk
              · rcases List.mem_append.1 hk with hk | hk
                · exact l3 k hk
                · exact e5 k hk
            · cases hf
          · cases hf
        · cases hf
      · cases hf
    · cases hf
theorem cnv_ar {m i ver : Nat} {old : Row} : ∀ (cs : Row) (j : Nat) (l : Row) (ns : List Nat), cnv sv m i ver old j cs = some (l, ns) → ∀ k ∈ ns, ∃ z v r, sv k = some (.ar z v r)
  | [], j, l, ns, hc => by simp only [cnv] at hc; cases hc; intro k hk; cases hk
  | x :: cs, j, l, ns, hc => by
    simp only [cnv] at hc
    split at hc
    · cases hc
    · rename_i l' ns' hc'
      have ih := cnv_ar cs (j + 1) l' ns' hc'
      repeat' (split at hc)
      all_goals first
        | (cases hc; done)
        | (cases hc; exact ih)
        | (rw [cond_eq_ite] at hc
           split at hc
           · cases hc
             intro k hk
             rcases List.mem_cons.1 hk with rfl | hk
             · exact ⟨_, _, _, ‹_›⟩
             · exact ih k hk
           · cases hc)
theorem fillS_ar {z : Nat} : ∀ (ps : List (Nat × AV)) (rs q : List Row) (ns : List Nat), fillS sv z rs ps = some (q, ns) → ∀ k ∈ ns, ∃ z v r, sv k = some (.ar z v r)
  | [], rs, q, ns, hf => by simp only [fillS] at hf; cases hf; intro k hk; cases hk
  | (i, x) :: ps, rs, q, ns, hf => by
    simp only [fillS] at hf
    split at hf
    · rename_i ys hys
      split at hf
      · rename_i l ns1 hcnv
        split at hf
        · split at hf
          · rename_i q' ms hrec
            rw [cond_eq_ite] at hf
            split at hf
            · cases hf
              intro k hk
              rcases List.mem_append.1 hk with hk | hk
              · exact cnv_ar _ _ _ _ hcnv k hk
              · exact fillS_ar _ _ _ _ hrec k hk
            · cases hf
          · cases hf
        · cases hf
      · cases hf
    · cases hf
theorem ar_gh (h : Sim w0 M R γ φ tv sv a w) {k : Nat} (hk : ∃ z v r, sv k = some (.ar z v r)) : live sv k ∧ ∃ g, γ k = some g := by
  obtain ⟨z, v, r, hk⟩ := hk
  obtain ⟨v0, h1, _⟩ := h.bk k _ hk
  exact ⟨blk_live hk, _, h1⟩
theorem buildSlice_ok (hT : TOk P T) (h : Sim w0 M R γ φ tv sv a w) {b : Nat} (hf : Fresh γ b) {t : TypeId} {te : TI} (hte : elemOf T t = some te) {n : Nat} {ps : Array (Nat × Operand)} {rs : List Row} {ns : List Nat}
    (hfl : fillS sv te.size (List.replicate n (zrow te.zero te.cz)) (getP tv ps) = some (rs, ns)) (hn : n * te.size ≤ 65536) :
    OpRes P w0 M R γ tv sv a w b (do pure (.value (← Instr.buildSlice t n (ps.map fun (i, x) => (i, a.eval x))))) ⟨.ow b 0 n, Mx.kill ns ++ [(b, some (.ar te.size 0 rs))]⟩ := by
  obtain ⟨e, hu, he⟩ := elemOf_some hT hte
  obtain ⟨i, z, i1, i2, i3, i4, i5⟩ := ty_info he
  have hzz := zrow_ok (w := w) (ok := okOf w0 M R φ sv w) (F := fun _ => False) te.zero te.cz he.cz
  have hzs : z.cells.size = te.size := by rw [← he.zl, ← i5]; simp
  have hrow : ∀ i' row, (List.replicate n (zrow te.zero te.cz))[i']? = some row → i' < n ∧ row = zrow te.zero te.cz := fun i' row hi => by
    have := idx_lt hi
    rw [List.length_replicate] at this
    rw [List.getElem?_replicate, if_pos this] at hi
    cases hi; exact ⟨this, rfl⟩
  have hval : ∀ i' j x, i' < n → (zrow te.zero te.cz)[j]? = some x → ∃ v, te.zero[j]? = some v ∧ (madeCells z.cells (n * te.size)).getD (i' * te.size + j) undef = v := fun i' j x hi hj => by
    have hj' := idx_lt hj
    rw [hzz.1, he.zl] at hj'
    have h1 : (i' + 1) * te.size ≤ n * te.size := Nat.mul_le_mul_right _ (by omega)
    rw [Nat.add_mul] at h1
    have hmod : (i' * te.size + j) % z.cells.size = j := by rw [hzs, Nat.mul_comm, Nat.mul_add_mod, Nat.mod_eq_of_lt hj']
    refine ⟨z.cells.getD j undef, ?_, ?_⟩
    · rw [← i5]; simp [hzs, hj']
    · rw [madeCells_get (by omega) (by rw [hmod, hzs]; exact hj'), hmod]
  have h0 : RowsOk w (okOf w0 M R φ sv w) φ [] te.size (List.replicate n (zrow te.zero te.cz)) (madeCells z.cells (n * te.size)) (fun _ _ _ => False) :=
    ⟨fun _ _ _ h => h.elim, fun _ _ _ _ _ h => h.elim, fun i' row hi => by rw [(hrow i' row hi).2, hzz.1, he.zl], fun i' row j x hi hj => by
      obtain ⟨q1, rfl⟩ := hrow i' row hi
      obtain ⟨v, q2, q3⟩ := hval i' j x q1 hj
      rw [q3]; exact he.zc v (List.mem_of_getElem? q2), fun i' row j x hi hj => by
      obtain ⟨q1, rfl⟩ := hrow i' row hi
      obtain ⟨v, q2, q3⟩ := hval i' j x q1 hj
      rw [q3]; exact hzz.2 j v x q2 hj⟩
  obtain ⟨cur', Fs', e1, e2, e3, e4, e5⟩ := fillS_ok h he.s1 ps.toList (List.replicate n (zrow te.zero te.cz)) (madeCells z.cells (n * te.size)) [] _ rs ns hfl h0 (by rw [size_madeCells, List.length_replicate]) (fun k hk => by cases hk)
  have hb := hf b (Nat.le_refl _) (by omega)
  have hne : ∀ k ∈ ns, k ≠ b := fun k hk e => by
    obtain ⟨_, g, hg⟩ := ar_gh h (fillS_ar _ _ _ _ hfl k hk)
    rw [e, hb] at hg; cases hg
  have hlr : rs.length = n := by rw [e3, List.length_replicate]
  have hrun : (Instr.buildSlice t n (ps.map fun (i, x) => (i, a.eval x))).run P w = .ok (.slice (some ⟨w.heap.size, 0, none⟩) n n) (w.alloc (.cells cur' e)) := by
    have hps : (ps.map fun (i, x) => (i, a.eval x)).toList = ps.toList.map fun p => (p.1, a.eval p.2) := by simp
    have hno : ¬ (n * te.size > 2 ^ 24) := by omega
    obtain ⟨zz, z1, z2⟩ := zero_run (w := w) he
    have hmc : ∀ zs : Array Value, (if n * te.size = 0 then #[] else zs) = (if n * te.size = 0 then #[] else zs) := fun _ => rfl
    have hzz2 : zz.cells = z.cells := by apply Array.ext'; rw [z2, i5]
    by_cases hz0 : n * te.size = 0
    · have hm : madeCells z.cells (n * te.size) = #[] := by simp [madeCells, hz0, Array.range_zero']
      rw [hm] at e1
      simp only [Instr.buildSlice, Sem.run_bind, run_underlying hu, Result.andThen_ok, sizeOf_run he, hno, hz0, if_true, Sem.run_pure, if_false]
      rw [hps]
      simp [Array.range_zero', e1, newRow]
    · have hm : (Array.range (n * te.size)).map (zz.cells[· % zz.cells.size]!) = madeCells z.cells (n * te.size) := by rw [hzz2]; rfl
      simp only [Instr.buildSlice, Sem.run_bind, run_underlying hu, Result.andThen_ok, sizeOf_run he, hno, hz0, if_false, Sem.run_pure, z1]
      rw [hps, hm, e1]
      simp [newRow]
  obtain ⟨φ', hs⟩ := h.newAr (w' := w.alloc (.cells cur' e)) (n := b) hb ns (fun k hk => ⟨e5 k hk, hne k hk⟩) (z := te.size) (cap := n) (rows := rs) (More.alloc (SameW.refl w) _) (fun o ho => by simp)
    (by omega) (by rw [e2, size_madeCells]; exact Nat.le_refl _) (by have : n * 1 ≤ n * te.size := Nat.mul_le_mul_left _ he.s1; simp only [maxLen]; omega) Fs' (fun i j c hc => by simpa using e4.fp i j c hc) e4.dj e4.ln e4.h1 e4.ow
  rw [hlr] at hs
  rw [← show syncF (Mx.kill ns ++ [(b, some (.ar te.size 0 rs))]) sv = updS (syncF (Mx.kill ns) sv) b (some (.ar te.size 0 rs)) from by rw [syncF_app]; rfl] at hs
  exact ⟨_, _, _, φ', .inl (by simp only [Sem.run_bind, hrun, Result.andThen_ok, Sem.run_pure]), fun k hk => by rw [γN_ne (by omega)], hs, ow_rep γN_self (Nat.le_refl _)⟩
end
end Go.Proofs.YtkkmgjhfjhcdmaaGreatDoor.Mx
