/- A machine over values for Go functions, proved sound, and functions run on it: texts O9, OA, OB, OC, OD, OE. -/
import Derived.Laws.Tables
import Derived.Laws.IdiomStrings
import Derived.Test.YtkkmgjhfjhcdmaaGreatDoorFnFetchXac
set_option linter.all false
namespace Go.Proofs.YtkkmgjhfjhcdmaaGreatDoor.Mx
open Go Go.RowKit
section
variable {w0 : World} {M R : Nat → Prop} {γ : Gs} {φ : Fp} {tv : Tv} {sv : Sv} {a : Act} {w w' : World} {P : Program} {T : Ty} {ok ok' : Nat → Prop}
theorem places_ok (hT : TOk P T) {fs : List (Nat × TypeId)} : ∀ (fa : List Field), (fa.map fun f => (f.offset, f.type)) = fs → (∀ q ∈ fs, ∃ i, P.info? q.2 = some i) →
    ∃ pl, fa.mapM (fun f => (P.info? f.type).map fun i => (f.offset, i.size)) = some pl ∧ ∀ (i off : Nat) (t : TypeId) (ti : TI), fs[i]? = some (off, t) → T t = some ti → pl[i]? = some (off, ti.size) := by
  intro fa
  induction fa generalizing fs with
  | nil => intro h _; subst h; exact ⟨[], rfl, fun i off t ti h => by simp at h⟩
  | cons f fa ih =>
    intro h hq
    subst h
    obtain ⟨pl, h1, h2⟩ := ih rfl (fun q hqq => hq q (by simp at hqq ⊢; exact .inr hqq))
    obtain ⟨i, hi⟩ := hq (f.offset, f.type) (by simp)
    refine ⟨(f.offset, i.size) :: pl, by simp [List.mapM_cons, hi, h1], fun k off t ti hk ht => ?_⟩
    cases k with
    | zero =>
      simp at hk
      obtain ⟨rfl, rfl⟩ := hk
      obtain ⟨i', z, q1, q2, _⟩ := (hT _ ti ht).inf
      rw [hi] at q1
      cases q1
      simp [q2]
    | succ k => exact h2 k off t ti (by simpa using hk) ht
theorem fillP_ok (h : Sim w0 M R γ φ tv sv a w) {γ' : Gs} {ok' : Nat → Prop} (hok : ∀ c, okOf w0 M R φ sv w c → ok' c) (hγ : ∀ m g, γ m = some g → γ' m = some g) {fs : List (Nat × TypeId)} {pl : List (Nat × Nat)}
    (hpl : ∀ (i off : Nat) (t : TypeId) (ti : TI), fs[i]? = some (off, t) → T t = some ti → pl[i]? = some (off, ti.size)) : ∀ (ps : List (Nat × Operand)) (cs : Row) (cur : Array Value) (q : Row),
    fillP fs T cs (ps.map fun p => (p.1, opv tv p.2)) = some q → cs.length = cur.size → (∀ (j : Nat) (v : Value) (x : AV), cur[j]? = some v → cs[j]? = some x → RepC w ok' γ' v x) → (∀ (j : Nat) (v : Value), cur[j]? = some v → v.oneCell' = true) →
    ∃ cur', Instr.fill (pl.toArray[·]?) cur (ps.map fun p => (p.1, a.eval p.2)) = some cur' ∧ q.length = cur'.size ∧ (∀ (j : Nat) (v : Value) (x : AV), cur'[j]? = some v → q[j]? = some x → RepC w ok' γ' v x ∧ v.oneCell' = true)
  | [], cs, cur, q, hf, hl, hr, h1 => by
    simp only [List.map_nil, fillP] at hf
    cases hf
    exact ⟨cur, rfl, hl, fun j v x hv hx => ⟨hr j v x hv hx, h1 j v hv⟩⟩
  | (i, x) :: ps, cs, cur, q, hf, hl, hr, h1 => by
    simp only [List.map_cons, fillP] at hf
    split at hf
    · rename_i off t ys hi hys
      split at hf
      · rename_i ti hti
        split at hf
        · rename_i hc
          obtain ⟨hyz, hle⟩ := hc
          obtain ⟨c1, c2, c3⟩ := cells_rep (opv_ok h x) hys
          have hp := hpl i off t ti hi hti
          have hfold := fold_put off (a.eval x).cells.toList cur 0 (by simp [c1]; omega)
          have hzip : (a.eval x).cells.zipIdx.foldl (fun cs (c, j) => cs.setIfInBounds (off + j) c) cur = ((a.eval x).cells.toList.zipIdx 0).foldl (fun cs (p : Value × Nat) => cs.setIfInBounds (off + p.2) p.1) cur := by
            rw [← Array.foldl_toList, Array.toList_zipIdx]
          generalize hcur1 : ((a.eval x).cells.toList.zipIdx 0).foldl (fun cs (p : Value × Nat) => cs.setIfInBounds (off + p.2) p.1) cur = cur1 at hfold hzip
          obtain ⟨g1, g2⟩ := hfold
          have hg2 : ∀ k, cur1.getD k undef = if off ≤ k ∧ k < off + ys.length then (a.eval x).cells.toList.getD (k - off) undef else cur.getD k undef := fun k => by
            rw [g2 k]; simp only [Nat.add_zero, Array.length_toList, c1]
          have hcase : ∀ (j : Nat) (v : Value), cur1[j]? = some v → (off ≤ j ∧ j < off + ys.length ∧ (a.eval x).cells[j - off]? = some v) ∨ (¬ (off ≤ j ∧ j < off + ys.length) ∧ cur[j]? = some v) := fun j v hv => by
            have hj : j < cur1.size := (Array.getElem?_eq_some_iff.1 hv).1
            have hvv : cur1.getD j undef = v := by rw [Array.getD_eq_getD_getElem?, hv]; rfl
            rw [hg2] at hvv
            split at hvv
            · rename_i hcc
              refine .inl ⟨hcc.1, hcc.2, ?_⟩
              rw [← hvv, List.getD_eq_getElem?_getD, List.getElem?_eq_getElem (by simp; omega)]
              simp [show j - off < (a.eval x).cells.size by omega]
            · rename_i hcc
              refine .inr ⟨hcc, ?_⟩
              rw [← hvv]; exact getD_some (by omega)
          obtain ⟨cur', e1, e2, e3⟩ := fillP_ok h hok hγ hpl ps (setR cs off ys) cur1 q hf (by rw [setR_len hle, g1, hl]) (fun j v y hv hy => by
              rw [setR_get hle] at hy
              rcases hcase j v hv with ⟨h1, h2, h3⟩ | ⟨h1, h3⟩
              · rw [if_pos ⟨h1, h2⟩] at hy
                exact (c3 _ _ y h3 hy).mono (fun c hc => ⟨hok c hc, rfl⟩) hγ
              · rw [if_neg h1] at hy
                exact hr j v y h3 hy)
            (fun j v hv => by
              rcases hcase j v hv with ⟨_, _, h3⟩ | ⟨_, h3⟩
              · exact c2 _ _ h3
              · exact h1 j v h3)
          refine ⟨cur', ?_, e2, e3⟩
          simp only [List.map_cons, Instr.fill]
          have : pl.toArray[i]? = some (off, ti.size) := by simpa using hp
          rw [this]
          simp only []
          rw [if_neg (by simp [c1]; omega), hzip]
          exact e1
        · cases hf
      · cases hf
    · cases hf
theorem build_ok (hT : TOk P T) (h : Sim w0 M R γ φ tv sv a w) {b : Nat} (hf : Fresh γ b) {t : TypeId} {ti : TI} (hti : T t = some ti) {fs : List (Nat × TypeId)} (hk : ti.kind = .struct fs) {ps : Array (Nat × Operand)} {cs : Row}
    (hfl : fillP fs T (zbox b ti.zero ti.cz).1 (getP tv ps) = some cs) : OpRes P w0 M R γ tv sv a w b (do pure (.value (← Instr.build t (ps.map fun (i, x) => (i, a.eval x))))) ⟨.ag cs, (zbox b ti.zero ti.cz).2⟩ := by
  have ht := hT t ti hti
  have hkd := ht.kd
  rw [hk] at hkd
  obtain ⟨fa, hu, hfa⟩ := hkd
  obtain ⟨i, z, i1, i2, i3, i4, i5⟩ := ht.inf
  obtain ⟨pl, p1, p2⟩ := places_ok hT fa.toList hfa (ht.fl fs hk)
  have hsz : ti.zero.length ≤ 60 := by rw [ht.zl]; exact ht.sm
  obtain ⟨γ', φ', h1, h2, h3, h4, h5, h6⟩ := zbox_ok b ti.zero ti.cz b h (fun n h1 h2 => hf n (by omega) (by omega)) ht.cz
  have hzl : z.cells.size = ti.zero.length := by rw [← i5]; simp
  have hget : ∀ (j : Nat) (v : Value), z.cells[j]? = some v → ti.zero[j]? = some v := fun j v hv => by rw [← i5]; simpa using hv
  obtain ⟨cur', e1, e2, e3⟩ := fillP_ok h (T := T) (γ' := γ') (fun c hc => h3 c hc) h2 p2 ps.toList (zbox b ti.zero ti.cz).1 z.cells cs hfl (by rw [h5, hzl]) (fun j v x hv hx => h6 j v x (hget j v hv) hx) (fun j v hv => ht.zc v (List.mem_of_getElem? (hget j v hv)))
  have hb : P.built t (ps.map fun (i, x) => (i, a.eval x)).toList = some cur' := by
    unfold Program.built
    rw [i1, hu]
    simp only [i4, p1]
    have : (ps.map fun (i, x) => (i, a.eval x)).toList = ps.toList.map fun p => (p.1, a.eval p.2) := by simp
    rw [this]
    exact e1
  refine ⟨.agg cur', w, γ', φ', .inl (by simp only [Sem.run_bind, run_build w t _ _ hb, Result.andThen_ok, Sem.run_pure]), fun n hn => (h1 n (by omega)).1, h4, cur'.toList, by simp, by simp [e2], fun j v x hv hx => e3 j v x (by simpa using hv) hx⟩
theorem bytesOf_rows : ∀ (r : List Row) (l : List UInt8), bytesOf r = some l → r.length = l.length ∧ ∀ (i : Nat) (row : Row), r[i]? = some row → ∃ n : Int, row = [.sc (.int .u8 n)] ∧ l[i]? = some (UInt8.ofNat n.toNat)
  | [], l, h => by simp only [bytesOf] at h; cases h; exact ⟨rfl, fun i row hi => by simp at hi⟩
  | x :: r, l, h => by
    simp only [bytesOf] at h
    split at h
    · rename_i u hu
      split at h
      · rename_i l' hl'
        cases h
        obtain ⟨i1, i2⟩ := bytesOf_rows r l' hl'
        refine ⟨by simp [i1], fun i row hi => ?_⟩
        cases i with
        | zero =>
          simp at hi
          subst hi
          unfold byteOf at hu
          split at hu
          · cases hu; exact ⟨_, rfl, rfl⟩
          · cases hu
        | succ i => exact i2 i row (by simpa using hi)
      · cases h
    · cases h
theorem rep_scv {u v : Value} (h : Rep w ok v (.sc u)) : v = u := by cases h; rfl
theorem toStr_ok {v : Value} {o : Bool} {r : List Row} {l : List UInt8} (hv : Rep w ok v (.sl o 1 r)) (hl : bytesOf r = some l) : (Conv.bytesToString v).run P w = .ok (.string ⟨l.toArray⟩) w := by
  obtain ⟨b1, b2⟩ := bytesOf_rows r l hl
  have fold : ∀ (ns : List Int) (s : ByteArray), ns.foldl (fun r n => r.push (UInt8.ofNat n.toNat)) s = ⟨s.data ++ (ns.map fun n => UInt8.ofNat n.toNat).toArray⟩ := by
    intro ns
    induction ns with
    | nil => intro s; simp
    | cons n ns ih =>
      intro s
      simp only [List.foldl_cons, ih, List.map_cons]
      apply ByteArray.ext
      show (s.data.push _ ++ _) = _
      simp
  cases hv with
  | nil => simp only [bytesOf] at hl; cases hl; simp [Conv.bytesToString]; rfl
  | emp =>
    simp only [bytesOf] at hl; cases hl
    rw [run_bytesToString w _ 0 _ [] (by simp [loadCells, loadCellsFrom])]
    rfl
  | sl _ _ b off cap _ vs h1 h2 h3 h4 h5 =>
    obtain ⟨f, hf⟩ : ∃ f : Nat → Int, ∀ i, i < r.length → w.cell? ⟨b, off + i, none⟩ = some (.int .u8 (f i)) ∧ l[i]? = some (UInt8.ofNat (f i).toNat) := by
      refine ⟨fun i => if hi : i < r.length then (b2 i r[i] (List.getElem?_eq_getElem hi)).choose else 0, fun i hi => ?_⟩
      simp only [hi, dif_pos]
      obtain ⟨hc1, hc2⟩ := (b2 i r[i] (List.getElem?_eq_getElem hi)).choose_spec
      have := h4 i r[i] 0 _ (List.getElem?_eq_getElem hi) (by rw [hc1]; rfl)
      have hr := h5 i r[i] 0 _ (List.getElem?_eq_getElem hi) (by rw [hc1]; rfl)
      refine ⟨?_, hc2⟩
      rw [show off + i = off + (i * 1 + 0) by omega, this.1, rep_scv hr]
    have hld : (loadCells ⟨b, off, none⟩ r.length).run P w = .ok (((List.range r.length).map f).map (Value.int .u8)).toArray w := by
      rw [run_loadCells (w := w) ⟨b, off, none⟩ r.length (fun i => .int .u8 (f i)) (fun j hj => by rw [add_flat]; exact (hf j hj).1)]
      simp
    rw [run_bytesToString w ⟨b, off, none⟩ r.length cap ((List.range r.length).map f) hld, fold]
    congr 3
    simp
    apply List.ext_getElem?
    intro i
    by_cases hi : i < r.length
    · simp [hi, (hf i hi).2]
    · simp [hi, show l.length ≤ i by omega]
end
end Go.Proofs.YtkkmgjhfjhcdmaaGreatDoor.Mx

namespace Go.Proofs.YtkkmgjhfjhcdmaaGreatDoor.Mx
open Go Go.RowKit
section
variable {w0 : World} {M R : Nat → Prop} {γ : Gs} {φ : Fp} {tv : Tv} {sv : Sv} {a : Act} {w w' : World} {P : Program} {T : Ty} {ok ok' : Nat → Prop}
theorem byte_rows {s : ByteArray} : (∀ (i : Nat) (row : Row), ((bt s).map byteRow)[i]? = some row → ∃ u, (bt s)[i]? = some u ∧ row = [.sc (.int .u8 u.toNat)]) ∧ flatR ((bt s).map byteRow) = true := by
  refine ⟨fun i row hi => ?_, ?_⟩
  · rw [List.getElem?_map] at hi
    cases h : (bt s)[i]? with
    | none => rw [h] at hi; cases hi
    | some u => rw [h] at hi; cases hi; exact ⟨u, rfl, rfl⟩
  · simp [flatR, byteRow, isSc]
theorem grown_le {need old : Nat} {e : TypeId} (h : need ≤ maxLen) : need ≤ grownCap w need old e ∧ grownCap w need old e ≤ maxLen := by
  unfold grownCap
  simp only [Question.cut, maxLen] at *
  constructor
  · omega
  · have := Nat.mod_lt (w.tape w.drawn (.appendCap need old e)) (show 0 < 2 ^ 63 - need by omega)
    omega
theorem bt_len {s : ByteArray} : (bt s).length = s.size := by simp [bt]
theorem Sim.flatAr (h : Sim w0 M R γ φ tv sv a w) {n : Nat} (hn : γ n = none) {z cap : Nat} {rows : List Row} {cur : Array Value} {e : TypeId} {fr : Nat × Nat} (hm : More w w' (.cells cur e fr)) (ht : Thawed cur fr)
    (hc : rows.length ≤ cap) (hsz : cap * z ≤ cur.size) (hml : cap ≤ maxLen) (hfl : flatR rows = true) (hl : ∀ (i : Nat) (row : Row), rows[i]? = some row → row.length = z)
    (hr : ∀ (i : Nat) (row : Row) (j : Nat) (x : AV), rows[i]? = some row → row[j]? = some x → (cur.getD (i * z + j) undef).oneCell' = true ∧ ∃ w1 ok1, Rep w1 ok1 (cur.getD (i * z + j) undef) x) :
    ∃ φ', Sim w0 M R (γN γ n (.slice (some ⟨w.heap.size, 0, none⟩) rows.length cap, z)) φ' tv (updS sv n (some (.ar z 0 rows))) a w' := by
  have sc : ∀ (i : Nat) (row : Row) (j : Nat) (x : AV), rows[i]? = some row → row[j]? = some x → isSc x = true := fun i row j x hi hj => List.all_eq_true.1 (List.all_eq_true.1 hfl row (List.mem_of_getElem? hi)) x (List.mem_of_getElem? hj)
  exact h.newAr hn [] (fun k hk => by cases hk) hm ht hc hsz hml (fun _ _ _ => False) (fun _ _ _ h => h.elim) (fun _ _ _ _ _ h => h.elim) hl (fun i row j x hi hj => (hr i row j x hi hj).1)
    (fun i row j x hi hj => by obtain ⟨_, w1, ok1, h⟩ := hr i row j x hi hj; exact own_of_rep (sc i row j x hi hj) (isSc_rep (sc i row j x hi hj) h))
theorem toBytes_ok (h : Sim w0 M R γ φ tv sv a w) {b : Nat} (hf : Fresh γ b) {src dst e : TypeId} {s : ByteArray} (hs : s.size ≤ room) (h1 : P.underlying src = some .string) (h2 : P.underlying dst = some (.slice e)) (h3 : P.underlying e = some (.int .u8)) :
    OpRes P w0 M R γ tv sv a w b (do pure (.value (← convert src dst (.string s)))) ⟨.ow b 0 (bt s).length, [(b, some (.ar 1 0 ((bt s).map byteRow)))]⟩ := by
  have hcap := grown_le (w := w) (old := 0) (e := e) (need := s.size) (by simp only [room] at hs; simp only [maxLen]; omega)
  have hrun := run_bytes_of_string w src dst e s h1 h2 h3
  generalize hcur : bytesRow s (grownCap w s.size 0 e) = cur at hrun
  have hsz : cur.size = grownCap w s.size 0 e := by
    rw [← hcur]; simp [bytesRow]
    have : s.data.size = s.size := rfl
    omega
  have hval : ∀ i u, (bt s)[i]? = some u → cur.getD i undef = .int .u8 u.toNat := fun i u hu => by
    have hi := idx_lt hu
    rw [bt_len] at hi
    have hu' : s.data[i]? = some u := by simpa [bt] using hu
    have : cur[i]? = some (.int .u8 u.toNat) := by
      rw [← hcur]
      unfold bytesRow
      rw [Array.getElem?_append_left (by simp; exact hi), Array.getElem?_map, hu']; rfl
    rw [Array.getD_eq_getD_getElem?, this]; rfl
  obtain ⟨q1, q2⟩ := byte_rows (s := s)
  obtain ⟨φ', hs'⟩ := h.flatAr (w' := w.drew.alloc (.cells cur e (cur.size, cur.size + 1))) (n := b) (hf b (Nat.le_refl _) (by omega)) (z := 1) (cap := grownCap w s.size 0 e) (rows := (bt s).map byteRow) (More.alloc (SameW.drew w) _) (fun o ho => by simp only []; omega)
    (by rw [List.length_map, bt_len]; exact hcap.1) (by omega) hcap.2 q2 (fun i row hi => by obtain ⟨u, _, rfl⟩ := q1 i row hi; rfl)
    (fun i row j x hi hj => by
      obtain ⟨u, hu, rfl⟩ := q1 i row hi
      cases j with
      | zero =>
        simp at hj
        subst hj
        rw [Nat.mul_one, Nat.add_zero, hval i u hu]
        exact ⟨rfl, w, okOf w0 M R φ sv w, .sc _ rfl⟩
      | succ j => simp at hj)
  rw [List.length_map] at hs'
  have hrep : RepV (w.drew.alloc (.cells cur e (cur.size, cur.size + 1))) (okOf w0 M R φ' (updS sv b (some (.ar 1 0 ((bt s).map byteRow)))) (w.drew.alloc (.cells cur e (cur.size, cur.size + 1)))) (γN γ b (.slice (some ⟨w.heap.size, 0, none⟩) (bt s).length (grownCap w s.size 0 e), 1))
      (.slice (some ⟨w.heap.size, 0, none⟩) s.size (grownCap w s.size 0 e)) (.ow b 0 (bt s).length) := by
    rw [← bt_len (s := s)]
    exact ow_rep γN_self (by rw [bt_len]; exact hcap.1)
  exact ⟨_, _, _, φ', .inl (by simp only [Sem.run_bind, hrun, Result.andThen_ok, Sem.run_pure]), fun k hk => by rw [γN_ne (by omega)], hs', hrep⟩
theorem convert_ok (hT : TOk P T) (h : Sim w0 M R γ φ tv sv a w) {b : Nat} (hf : Fresh γ b) {src dst : TypeId} {x : Operand} {d : Dl} (hd : pConvert T src dst b (opv tv x) sv = some d) :
    OpRes P w0 M R γ tv sv a w b (do pure (.value (← convert src dst (a.eval x)))) d := by
  have hx := opv_ok h x
  generalize opv tv x = y at hd hx
  generalize a.eval x = v at hx
  unfold pConvert at hd
  split at hd
  · rename_i ta tc hta htc
    have ka := (hT src ta hta).kd
    have kc := (hT dst tc htc).kd
    generalize ta.kind = A at hd ka
    generalize tc.kind = C at hd kc
    split at hd
    · split at hd
      · cases hd
        obtain ⟨rfl, _⟩ := rep_sc hx
        refine opres_pure h ?_ (rep_sc' rfl)
        simp only [convert, Sem.run_bind, run_underlying (show P.underlying src = _ from ka), run_underlying (show P.underlying dst = _ from kc), Result.andThen_ok, Conv.intToInt, Sem.run_pure, wr_wrap]
      · cases hd
    · split at hd
      · cases hd
        obtain ⟨rfl, _⟩ := rep_sc hx
        refine opres_pure h ?_ (rep_sc' rfl)
        simp only [convert, Sem.run_bind, run_underlying (show P.underlying src = _ from ka), run_underlying (show P.underlying dst = _ from kc), Result.andThen_ok, Sem.run_pure]
      · cases hd
    · rename_i e
      split at hd
      · rename_i te z A hte hrow
        have ke := (hT e te hte).kd
        generalize te.kind = E at hd ke
        split at hd
        · rename_i l hl
          split at hd
          · rename_i hc
            obtain ⟨rfl, hroom⟩ := hc
            cases hd
            have hR := rowsOf_ok h hx hrow
            refine opres_pure h ?_ (rep_sc' rfl)
            have hb := toStr_ok (P := P) hR hl
            have ⟨ad, n, cap, hv⟩ : ∃ ad n cap, v = .slice ad n cap := by cases hR <;> exact ⟨_, _, _, rfl⟩
            subst hv
            simp only [convert, Sem.run_bind, run_underlying (show P.underlying src = _ from ka), run_underlying (show P.underlying dst = _ from kc), run_underlying (show P.underlying e = _ from ke), Result.andThen_ok, hb]
          · cases hd
        · cases hd
      · cases hd
    · rename_i e
      split at hd
      · rename_i te s hte
        have ke := (hT e te hte).kd
        generalize te.kind = E at hd ke
        split at hd
        · split at hd
          · rename_i hs
            cases hd
            obtain ⟨rfl, _⟩ := rep_sc hx
            exact toBytes_ok h hf hs ka kc ke
          · cases hd
        · cases hd
      · cases hd
    · cases hd
  · cases hd
end
end Go.Proofs.YtkkmgjhfjhcdmaaGreatDoor.Mx

namespace Go.Proofs.YtkkmgjhfjhcdmaaGreatDoor.Mx
open Go Go.RowKit
section
variable {w0 : World} {M R : Nat → Prop} {γ : Gs} {φ : Fp} {tv : Tv} {sv : Sv} {a : Act} {w w' : World} {P : Program} {T : Ty} {ok ok' : Nat → Prop}
structure Src (P : Program) (w : World) (xt : TypeId) (size : Nat) (x : Value) (n : Nat) (news : List Value) : Prop where
  ty : P.underlying xt = some .string ∨ ∃ e', P.underlying xt = some (.slice e')
  ln : ∀ w1, (Builtin.lenOf x).run P w1 = .ok n w1
  fc : ∀ w1, SameW w w1 → (Builtin.firstCells size n x).run P w1 = .ok news.toArray w1
  nl : news.length = n * size
theorem append_run {t xt e ty : TypeId} {te : TI} (ht : P.underlying t = some (.slice e)) (he : TyOk P e te) {ats : Array TypeId} (h0 : ats[0]? = some t) (h1 : ats[1]? = some xt) {base : Option Addr} {sLen sCap n : Nat} {x : Value} {news olds : List Value}
    (hb : base = none → sLen = 0 ∧ sCap = 0) (hs : Src P w xt te.size x n news) (hol : olds.length = sLen * te.size) (hof : ∀ w1, SameW w w1 → (Builtin.firstCells te.size sLen (.slice base sLen sCap)).run P w1 = .ok olds.toArray w1)
    (hroom : (sLen + n) * te.bytes ≤ room) :
    (sLen + n ≤ sCap ∧ ∃ ad, base = some ad ∧ ∀ w', (storeCells (ad.add (sLen * te.size)) news).run P w = .ok () w' → (Builtin.append_ ats ty #[.slice base sLen sCap, x]).run P w = .ok (.slice base (sLen + n) sCap) w') ∨
    (base = none ∧ n = 0 ∧ sLen = 0 ∧ (Builtin.append_ ats ty #[.slice base sLen sCap, x]).run P w = .ok (.slice none 0 0) w) ∨
    (sCap < sLen + n ∧ ∃ zs : Array Value, zs.size = (grownCap w (sLen + n) sCap e - (sLen + n)) * te.size ∧ (Builtin.append_ ats ty #[.slice base sLen sCap, x]).run P w = .ok (.slice (some ⟨w.heap.size, 0, none⟩) (sLen + n) (grownCap w (sLen + n) sCap e)) (w.drew.alloc (.cells (olds.toArray ++ news.toArray ++ zs) e))) := by
  have hl := hs.ln w
  have hf := hs.fc w (SameW.refl w)
  obtain ⟨i, z, i1, i2, i3, i4, i5⟩ := he.inf
  have hf' := hf
  rw [← i2] at hf'
  by_cases hle : sLen + n ≤ sCap
  · cases base with
    | none =>
      obtain ⟨rfl, rfl⟩ := hb rfl
      have : n = 0 := by omega
      subst this
      refine .inr (.inl ⟨rfl, rfl, rfl, ?_⟩)
      rcases hs.ty with hd | ⟨e', hd⟩ <;> simp [Builtin.append_, h0, h1, run_underlying ht, run_underlying hd, sizeOf, typeInfo, i1, hl, hf']
    | some ad =>
      refine .inl ⟨hle, ad, rfl, fun w' hst => ?_⟩
      rw [← i2] at hst
      rcases hs.ty with hd | ⟨e', hd⟩ <;> simp [Builtin.append_, h0, h1, run_underlying ht, run_underlying hd, sizeOf, typeInfo, i1, hl, hf', hle, hst]
  · refine .inr (.inr ⟨by omega, Builtin.zeroCells z.cells (grownCap w (sLen + n) sCap e - (sLen + n)), ?_, ?_⟩)
    · have hzs : z.cells.size = te.size := by rw [← he.zl, ← i5]; simp
      simp [Builtin.zeroCells, hzs]
    · have hfit := growslice_fits (need := sLen + n) (old := sCap) (bytes := te.bytes) (by omega) (by simpa [room] using hroom)
      have hno : ¬ (281474976710656 < Builtin.nextslicecap (sLen + n) sCap * i.bytes) := by rw [i3]; omega
      have hb1 : ¬ i.bytes = 0 := by rw [i3]; have := he.b1; omega
      have hf2 := hs.fc w.drew (SameW.drew w)
      have ho2 := hof w.drew (SameW.drew w)
      rw [← i2] at hf2 ho2
      rcases hs.ty with hd | ⟨e', hd⟩ <;>
        (simp [Builtin.append_, h0, h1, run_underlying ht, run_underlying hd, sizeOf, typeInfo, zeroValue, i1, i4, hl, hle, hno, hb1, Question.forced, hf2, ho2, newRow, grownCap]
         congr 2
         apply Array.ext'
         simp [List.append_assoc])
end
end Go.Proofs.YtkkmgjhfjhcdmaaGreatDoor.Mx

namespace Go.Proofs.YtkkmgjhfjhcdmaaGreatDoor.Mx
open Go Go.RowKit
section
variable {w0 : World} {M R : Nat → Prop} {γ : Gs} {φ : Fp} {tv : Tv} {sv : Sv} {a : Act} {w w' : World} {P : Program} {T : Ty} {ok ok' : Nat → Prop}
theorem rep_news {v : Value} {o : Bool} {z : Nat} {B : List Row} (h : Rep w ok v (.sl o z B)) : ∃ (base : Option Addr) (cap : Nat) (news : List Value), v = .slice base B.length cap ∧ B.length ≤ cap ∧ (base = none → B.length = 0 ∧ cap = 0) ∧ news.length = B.length * z ∧
    (∀ w1, SameW w w1 → (Builtin.firstCells z B.length v).run P w1 = .ok news.toArray w1) ∧ (∀ (i : Nat) (row : Row), B[i]? = some row → row.length = z) ∧
    ∀ (i : Nat) (row : Row) (j : Nat) (x : AV), B[i]? = some row → row[j]? = some x → ∃ u, news[i * z + j]? = some u ∧ u.oneCell' = true ∧ Rep w ok u x := by
  cases h with
  | nil => exact ⟨none, 0, [], rfl, Nat.le_refl _, fun _ => ⟨rfl, rfl⟩, by simp, fun w1 _ => by simp [Builtin.firstCells], fun i row hi => by simp at hi, fun i row j x hi => by simp at hi⟩
  | emp _ _ A cap =>
    exact ⟨_, cap, [], rfl, Nat.zero_le _, fun h => by simp at h, by simp, fun w1 _ => run_firstCells_some w1 z 0 _ 0 cap [] (by simp) (fun j v hj => by simp at hj), fun i row hi => by simp at hi, fun i row j x hi => by simp at hi⟩
  | sl _ _ b off cap _ vs h1 h2 h3 h4 h5 =>
    have hz : ∀ k, k < B.length * z → k / z < B.length ∧ k % z < z := fun k hk => by
      have hzp : 0 < z := by rcases Nat.eq_zero_or_pos z with rfl | h; simp at hk; exact h
      exact ⟨Nat.div_lt_of_lt_mul (by rw [Nat.mul_comm]; exact hk), Nat.mod_lt _ hzp⟩
    have hcell : ∀ k, k < B.length * z → w.cell? ⟨b, off + k, none⟩ = some (vs (k / z) (k % z)) ∧ (vs (k / z) (k % z)).oneCell' = true := fun k hk => by
      obtain ⟨q1, q2⟩ := hz k hk
      have hr := List.getElem?_eq_getElem q1
      have hl := h3 _ _ hr
      have := h4 (k / z) _ (k % z) _ hr (List.getElem?_eq_getElem (by rw [hl]; exact q2))
      rwa [show k / z * z + k % z = k by rw [Nat.mul_comm]; exact Nat.div_add_mod k z] at this
    refine ⟨some ⟨b, off, none⟩, cap, (List.range (B.length * z)).map fun k => vs (k / z) (k % z), rfl, h2, fun h => by simp at h, by simp, fun w1 hs => ?_, h3, fun i row j x hi hj => ?_⟩
    · refine run_firstCells_some w1 z B.length _ _ cap _ (by simp) (fun j v hj => ?_)
      have hlt := idx_lt hj
      simp only [List.length_map, List.length_range] at hlt
      rw [List.getElem?_map, List.getElem?_range hlt] at hj
      cases hj
      rw [add_flat]
      have := (hcell j hlt).1
      unfold World.cell? at *
      rw [hs.heap]; exact this
    · have hl := h3 i row hi
      have hjz : j < z := by rw [← hl]; exact idx_lt hj
      have hk : i * z + j < B.length * z := by
        have : (i + 1) * z ≤ B.length * z := Nat.mul_le_mul_right _ (by have := idx_lt hi; omega)
        rw [Nat.add_mul] at this; omega
      have hd : (i * z + j) / z = i := by rw [Nat.mul_comm, Nat.mul_add_div (by omega), Nat.div_eq_of_lt hjz, Nat.add_zero]
      have hm : (i * z + j) % z = j := by rw [Nat.mul_comm, Nat.mul_add_mod, Nat.mod_eq_of_lt hjz]
      refine ⟨vs i j, ?_, (h4 i row j x hi hj).2, h5 i row j x hi hj⟩
      rw [List.getElem?_map, List.getElem?_range hk]
      simp [hd, hm]
theorem slLen {ok F : Nat → Prop} {v : Value} {z : Nat} {rows : List Row} (h : Own w ok F v (.sl true z rows)) : ∃ (base : Option Addr) (cap : Nat), v = .slice base rows.length cap ∧ rows.length ≤ cap ∧ (base = none → rows = [] ∧ cap = 0) ∧ Sub v z 0 rows.length v := by
  cases h with
  | rd _ _ _ n1 => exact (n1 _ _ rfl).elim
  | nil => exact ⟨_, _, rfl, Nat.le_refl _, fun _ => ⟨rfl, rfl⟩, rfl, rfl, rfl⟩
  | emp => exact ⟨_, _, rfl, Nat.le_refl _, fun h => by simp at h, _, 0, rfl, Nat.le_refl _, Nat.le_refl _, .inr rfl⟩
  | sl _ _ b off cap _ cur e fr Fs h1 h2 h3 h4 h5 => exact ⟨_, _, rfl, h4, fun h => by simp at h, off, cap, rfl, by omega, h4, .inl ⟨by omega, by omega⟩⟩
theorem own_inv {F : Nat → Prop} {v : Value} {z : Nat} {rows : List Row} (h : Own w ok F v (.sl true z rows)) : (v = .slice none 0 0 ∧ rows = []) ∨ (∃ b off, v = .slice (some ⟨b, off, none⟩) 0 0 ∧ rows = []) ∨
    ∃ (b off cap : Nat) (cur : Array Value) (e : TypeId) (fr : Nat × Nat) (Fs : Nat → Nat → Nat → Prop), v = .slice (some ⟨b, off, none⟩) rows.length cap ∧ F b ∧ w.heap[b]? = some (.cells cur e fr) ∧ Thawed cur fr ∧ rows.length ≤ cap ∧ off + cap * z ≤ cur.size ∧ cap ≤ maxLen ∧
      (∀ i j x, Fs i j x → F x ∧ x ≠ b) ∧ (∀ i j i' j' x, Fs i j x → Fs i' j' x → i = i' ∧ j = j') ∧ (∀ (i : Nat) (row : Row), rows[i]? = some row → row.length = z) ∧
      (∀ (i : Nat) (row : Row) (j : Nat) (x : AV), rows[i]? = some row → row[j]? = some x → (cur.getD (off + (i * z + j)) undef).oneCell' = true) ∧
      (∀ (i : Nat) (row : Row) (j : Nat) (x : AV), rows[i]? = some row → row[j]? = some x → Own w ok (Fs i j) (cur.getD (off + (i * z + j)) undef) x) := by
  cases h with
  | rd _ _ _ n1 => exact (n1 _ _ rfl).elim
  | nil => exact .inl ⟨rfl, rfl⟩
  | emp _ _ b off => exact .inr (.inl ⟨b, off, rfl, rfl⟩)
  | sl _ _ b off cap _ cur e fr Fs h1 h2 h3 h4 h5 h6 h7 h8 h9 h10 h11 => exact .inr (.inr ⟨b, off, cap, cur, e, fr, Fs, rfl, h1, h2, h3, h4, h5, h6, h7, h8, h9, h10, h11⟩)
theorem append_core {t xt e ty : TypeId} {te : TI} (ht : P.underlying t = some (.slice e)) (he : TyOk P e te) {ats : Array TypeId} (h0 : ats[0]? = some t) (h1 : ats[1]? = some xt) {FA : Nat → Prop} {vA x : Value} {A B : List Row} {news : List Value}
    (hA : Own w ok FA vA (.sl true te.size A)) (hFA : ∀ c, FA c → c < w.heap.size) (hs : Src P w xt te.size x B.length news) (hBl : ∀ (i : Nat) (row : Row), B[i]? = some row → row.length = te.size) (FB : Nat → Nat → Nat → Prop) (FBs : Nat → Prop) (hFB : ∀ i j c, FB i j c → FBs c ∧ c < w.heap.size ∧ ¬ FA c)
    (hFd : ∀ i j i' j' c, FB i j c → FB i' j' c → i = i' ∧ j = j')
    (hB : ∀ (i : Nat) (row : Row) (j : Nat) (x : AV), B[i]? = some row → row[j]? = some x → ∃ u, news[i * te.size + j]? = some u ∧ u.oneCell' = true ∧ Own w ok (FB i j) u x) (hroom : (A.length + B.length) * te.bytes ≤ room) :
    ∃ v' w' F', (Builtin.append_ ats ty #[vA, x]).run P w = .ok v' w' ∧ w'.os = w.os ∧ w'.tape = w.tape ∧ w'.output = w.output ∧ Kp w w' ∧ w.heap.size ≤ w'.heap.size ∧ (∀ c, c < w.heap.size → ¬ FA c → w'.heap[c]? = w.heap[c]?) ∧ (∀ c, F' c → c < w'.heap.size ∧ (w.heap.size ≤ c ∨ FA c ∨ FBs c)) ∧
      (∀ ok' : Nat → Prop, (∀ c, ok c → ok' c ∧ w'.heap[c]? = w.heap[c]?) → Own w' ok' F' v' (.sl true te.size (A ++ B))) ∧ Sub v' te.size 0 (A.length + B.length) v' := by
  have h63 : A.length + B.length ≤ maxLen := by
    have h1 : (A.length + B.length) * 1 ≤ (A.length + B.length) * te.bytes := Nat.mul_le_mul_left _ he.b1
    simp only [room] at hroom
    simp only [maxLen]
    omega
  have hnl := hs.nl
  have hn1 : ∀ u ∈ news, u.oneCell' = true := fun u hu => by
    obtain ⟨k, hk⟩ := List.getElem?_of_mem hu
    have hlt := idx_lt hk
    rw [hnl] at hlt
    have hd : k / te.size < B.length := Nat.div_lt_of_lt_mul (by rw [Nat.mul_comm]; exact hlt)
    have hm := Nat.mod_lt k he.s1
    have hr := List.getElem?_eq_getElem hd
    have hl := hBl _ _ hr
    obtain ⟨u', q1, q2, _⟩ := hB (k / te.size) _ (k % te.size) _ hr (List.getElem?_eq_getElem (by rw [hl]; exact hm))
    rw [show k / te.size * te.size + k % te.size = k by rw [Nat.mul_comm]; exact Nat.div_add_mod k te.size, hk] at q1
    cases q1; exact q2
  obtain ⟨base, sCap, hv, hcap, hbn, _⟩ := slLen hA
  obtain ⟨_, _, olds, hv2, _, _, hol, hof, hAl, hAc⟩ := rep_news (P := P) (hA.rep (ok' := fun _ => True) (fun _ _ => trivial) (fun _ _ => trivial))
  subst hv
  cases hv2
  have hrun := append_run (P := P) (w := w) (ty := ty) ht he h0 h1 (base := base) (sLen := A.length) (sCap := sCap) (fun h => by obtain ⟨rfl, h2⟩ := hbn h; exact ⟨rfl, h2⟩) hs hol hof hroom
  have split : ∀ (i : Nat) (row : Row), (A ++ B)[i]? = some row → (i < A.length ∧ A[i]? = some row) ∨ (A.length ≤ i ∧ B[i - A.length]? = some row) := fun i row hi => by
    by_cases h : i < A.length
    · rw [List.getElem?_append_left h] at hi; exact .inl ⟨h, hi⟩
    · rw [List.getElem?_append_right (by omega)] at hi; exact .inr ⟨by omega, hi⟩
  rcases hrun with ⟨hle, ad, rfl, hin⟩ | ⟨rfl, hB0, hA0, hr⟩ | ⟨hlt, zs, hzs, hr⟩
  · -- in place
    rcases own_inv hA with ⟨e0, _⟩ | ⟨b, off, e0, e1⟩ | ⟨b, off, cap, cur, e', fr, Fs, e0, a1, a2, a3, a4, a5, a6, a7, a8, a9, a10, a11⟩
    · cases e0
    · subst e1
      cases e0
      have hB0 : B = [] := List.eq_nil_of_length_eq_zero (by simp only [List.length_nil] at hle; omega)
      subst hB0
      have hn0 : news = [] := List.eq_nil_of_length_eq_zero (by rw [hnl]; simp)
      subst hn0
      have := hin w rfl
      exact ⟨_, w, FA, this, rfl, rfl, rfl, Kp.refl _, Nat.le_refl _, fun _ _ _ => rfl, fun c hc => ⟨hFA c hc, .inr (.inl hc)⟩, fun ok' hok => .emp _ _ _ _, off, 0, rfl, Nat.le_refl _, Nat.le_refl _, .inr rfl⟩
    · cases e0
      rw [add_flat] at hin
      have hfit : off + A.length * te.size + 0 + news.length ≤ cur.size := by
        rw [hnl]
        have : (A.length + B.length) * te.size ≤ sCap * te.size := Nat.mul_le_mul_right _ hle
        rw [Nat.add_mul] at this
        omega
      obtain ⟨w', cur', r1, r2, r3, r4, r5, r6, r7, r8, r9⟩ := store_cells (P := P) b (off + A.length * te.size) e' fr news 0 cur w a2 a3 hfit hn1
      refine ⟨_, w', fun c => FA c ∨ FBs c ∧ c < w.heap.size, hin w' r1, r2, r3, r4, Kp.cell r6 a2 r7 r8, by omega, fun c _ hc => r6 c fun e => hc (e ▸ a1), fun c hc => ?_, fun ok' hok => ?_, off, sCap, rfl, by omega, by omega, .inl ⟨by omega, by omega⟩⟩
      · rw [r5]
        rcases hc with hc | ⟨hc, hl⟩
        · exact ⟨hFA c hc, .inr (.inl hc)⟩
        · exact ⟨hl, .inr (.inr hc)⟩
      · have old : ∀ i j, i < A.length → j < te.size → cur'.getD (off + (i * te.size + j)) undef = cur.getD (off + (i * te.size + j)) undef := fun i j hi hj => by
          rw [r9, if_neg]
          have : (i + 1) * te.size ≤ A.length * te.size := Nat.mul_le_mul_right _ hi
          rw [Nat.add_mul] at this
          omega
        have new : ∀ i j u, news[i * te.size + j]? = some u → cur'.getD (off + ((A.length + i) * te.size + j)) undef = u := fun i j u hu => by
          have := idx_lt hu
          rw [r9, Nat.add_mul, if_pos (by omega)]
          rw [show off + (A.length * te.size + i * te.size + j) - (off + A.length * te.size + 0) = i * te.size + j by omega, List.getD_eq_getElem?_getD, hu]; rfl
        have hR := Own.sl (w := w') (ok := ok') (fun c => FA c ∨ FBs c ∧ c < w.heap.size) te.size b off sCap (A ++ B) cur' e' fr (fun i j c => if i < A.length then Fs i j c else FB (i - A.length) j c) (.inl a1) r7 (fun o ho => a3 o (by rw [← r8]; exact ho)) (by rw [List.length_append]; omega) (by rw [r8]; exact a5) a6
          (fun i j c hc => by
            split at hc
            · exact ⟨.inl (a7 _ _ _ hc).1, (a7 _ _ _ hc).2⟩
            · obtain ⟨q1, q2, q3⟩ := hFB _ _ _ hc
              exact ⟨.inr ⟨q1, q2⟩, fun e => q3 (e ▸ a1)⟩)
          (fun i j i' j' c hc hc' => by
            split at hc <;> split at hc'
            · exact a8 _ _ _ _ _ hc hc'
            · exact ((hFB _ _ _ hc').2.2 (a7 _ _ _ hc).1).elim
            · exact ((hFB _ _ _ hc).2.2 (a7 _ _ _ hc').1).elim
            · have := hFd _ _ _ _ _ hc hc'; omega)
          (fun i row hi => by rcases split i row hi with ⟨_, h⟩ | ⟨_, h⟩; exact hAl _ _ h; exact hBl _ _ h)
          (fun i row j x hi hj => by
            rcases split i row hi with ⟨hlt, h⟩ | ⟨hge, h⟩
            · rw [old i j hlt (by rw [← hAl _ _ h]; exact idx_lt hj)]; exact a10 _ _ _ _ h hj
            · obtain ⟨u, q1, q2, _⟩ := hB _ _ _ _ h hj
              have := new _ _ _ q1
              rw [show A.length + (i - A.length) = i by omega] at this
              rw [this]; exact q2)
          (fun i row j x hi hj => by
            rcases split i row hi with ⟨hlt, h⟩ | ⟨hge, h⟩
            · rw [old i j hlt (by rw [← hAl _ _ h]; exact idx_lt hj)]
              exact (a11 _ _ _ _ h hj).mono hok _ fun c hc => ⟨by show (if _ then _ else _); rw [if_pos hlt]; exact hc, r6 c (a7 _ _ _ hc).2⟩
            · obtain ⟨u, q1, _, q3⟩ := hB _ _ _ _ h hj
              have := new _ _ _ q1
              rw [show A.length + (i - A.length) = i by omega] at this
              rw [this]
              exact q3.mono hok _ fun c hc => ⟨by show (if _ then _ else _); rw [if_neg (by omega)]; exact hc, r6 c fun e => (hFB _ _ _ hc).2.2 (e ▸ a1)⟩)
        rw [List.length_append] at hR
        exact hR
  · have : A = [] := List.eq_nil_of_length_eq_zero hA0
    subst this
    have : B = [] := List.eq_nil_of_length_eq_zero hB0
    subst this
    exact ⟨_, w, FA, hr, rfl, rfl, rfl, Kp.refl _, Nat.le_refl _, fun _ _ _ => rfl, fun c hc => ⟨hFA c hc, .inr (.inl hc)⟩, fun ok' hok => .nil _ _, rfl, rfl, rfl⟩
  · -- a new array
    obtain ⟨g1, g2⟩ := grown_le (w := w) (old := sCap) (e := e) h63
    generalize hcap' : grownCap w (A.length + B.length) sCap e = nc at *
    generalize hcur : olds.toArray ++ news.toArray ++ zs = cur at hr
    have hM : More w (w.drew.alloc (.cells cur e)) (.cells cur e) := More.alloc (SameW.drew w) _
    have hcs : cur.size = nc * te.size := by
      rw [← hcur]
      simp only [Array.size_append, List.size_toArray, hol, hnl, hzs]
      rw [← Nat.add_mul, ← Nat.add_mul]
      congr 1; omega
    have old : ∀ i j u, olds[i * te.size + j]? = some u → cur.getD (i * te.size + j) undef = u := fun i j u hu => by
      have := idx_lt hu
      have : cur[i * te.size + j]? = some u := by
        rw [← hcur, Array.getElem?_append_left (by simp; omega), Array.getElem?_append_left (by simp; omega)]; simpa using hu
      rw [Array.getD_eq_getD_getElem?, this]; rfl
    have new : ∀ i j u, news[i * te.size + j]? = some u → cur.getD ((A.length + i) * te.size + j) undef = u := fun i j u hu => by
      have := idx_lt hu
      have : cur[(A.length + i) * te.size + j]? = some u := by
        rw [← hcur, Nat.add_mul, Array.getElem?_append_left (by simp; omega), Array.getElem?_append_right (by simp; omega)]
        simp only [List.size_toArray, hol]
        rw [show A.length * te.size + i * te.size + j - A.length * te.size = i * te.size + j by omega]
        simpa using hu
      rw [Array.getD_eq_getD_getElem?, this]; rfl
    -- the old cells, with their blocks
    have hAo : ∃ Fs : Nat → Nat → Nat → Prop, (∀ i j c, Fs i j c → FA c) ∧ (∀ i j i' j' c, Fs i j c → Fs i' j' c → i = i' ∧ j = j') ∧ ∀ (i : Nat) (row : Row) (j : Nat) (x : AV), A[i]? = some row → row[j]? = some x → ∃ u, olds[i * te.size + j]? = some u ∧ u.oneCell' = true ∧ Own w ok (Fs i j) u x := by
      rcases own_inv hA with ⟨_, rfl⟩ | ⟨_, _, _, rfl⟩ | ⟨b, off, cap, cur0, e', fr, Fs, e0, a1, a2, a3, a4, a5, a6, a7, a8, a9, a10, a11⟩
      · exact ⟨fun _ _ _ => False, fun _ _ _ h => h.elim, fun _ _ _ _ _ h => h.elim, fun i row j x hi => by simp at hi⟩
      · exact ⟨fun _ _ _ => False, fun _ _ _ h => h.elim, fun _ _ _ _ _ h => h.elim, fun i row j x hi => by simp at hi⟩
      · cases e0
        refine ⟨Fs, fun i j c hc => (a7 _ _ _ hc).1, a8, fun i row j x hi hj => ?_⟩
        have hk : i * te.size + j < A.length * te.size := by
          have h1 : (i + 1) * te.size ≤ A.length * te.size := Nat.mul_le_mul_right _ (by have := idx_lt hi; omega)
          have h2 := idx_lt hj
          rw [a9 i row hi] at h2
          rw [Nat.add_mul] at h1
          omega
        have hu : olds[i * te.size + j]? = some (cur0.getD (off + (i * te.size + j)) undef) := by
          have hf := hof w (SameW.refl w)
          have := run_firstCells_some (P := P) w te.size A.length ⟨b, off, none⟩ A.length sCap ((List.range (A.length * te.size)).map fun k => cur0.getD (off + k) undef) (by simp) (fun k v hk => by
            have hlt := idx_lt hk
            simp only [List.length_map, List.length_range] at hlt
            rw [List.getElem?_map, List.getElem?_range hlt] at hk
            cases hk
            rw [add_flat]
            have h1 : A.length * te.size ≤ sCap * te.size := Nat.mul_le_mul_right _ a4
            exact cell_some a2 (by omega))
          rw [this] at hf
          have : olds = (List.range (A.length * te.size)).map fun k => cur0.getD (off + k) undef := by
            injection hf with h1 _
            have := congrArg Array.toList h1
            simpa using this.symm
          rw [this, List.getElem?_map, List.getElem?_range hk]; rfl
        exact ⟨_, hu, a10 i row j x hi hj, a11 i row j x hi hj⟩
    obtain ⟨Fs, f1, f2, f3⟩ := hAo
    refine ⟨_, _, fun c => c = w.heap.size ∨ FA c ∨ FBs c ∧ c < w.heap.size, hr, hM.os, hM.tape, hM.output, Kp.old (fun k hk => by rw [hM.heap, if_neg (by omega)]), by rw [hM.size]; omega, fun c hc _ => by rw [hM.heap, if_neg (by omega)], fun c hc => ?_, fun ok' hok => ?_, 0, nc, rfl, by omega, g1, .inl ⟨by omega, by omega⟩⟩
    · rw [hM.size]
      rcases hc with rfl | hc | ⟨hc, hl⟩
      · exact ⟨by omega, .inl (Nat.le_refl _)⟩
      · exact ⟨by have := hFA c hc; omega, .inr (.inl hc)⟩
      · exact ⟨by omega, .inr (.inr hc)⟩
    · have e0 : ∀ i j, 0 + (i * te.size + j) = i * te.size + j := fun i j => Nat.zero_add _
      have hR := Own.sl (w := w.drew.alloc (.cells cur e)) (ok := ok') (fun c => c = w.heap.size ∨ FA c ∨ FBs c ∧ c < w.heap.size) te.size w.heap.size 0 nc (A ++ B) cur e (0, 0) (fun i j c => if i < A.length then Fs i j c else FB (i - A.length) j c) (.inl rfl) (by rw [hM.heap, if_pos rfl]) (fun o ho => by simp) (by rw [List.length_append]; exact g1) (by omega) g2
        (fun i j c hc => by
          split at hc
          · exact ⟨.inr (.inl (f1 _ _ _ hc)), by have := hFA _ (f1 _ _ _ hc); omega⟩
          · obtain ⟨q1, q2, q3⟩ := hFB _ _ _ hc
            exact ⟨.inr (.inr ⟨q1, q2⟩), by omega⟩)
        (fun i j i' j' c hc hc' => by
          split at hc <;> split at hc'
          · exact f2 _ _ _ _ _ hc hc'
          · exact ((hFB _ _ _ hc').2.2 (f1 _ _ _ hc)).elim
          · exact ((hFB _ _ _ hc).2.2 (f1 _ _ _ hc')).elim
          · have := hFd _ _ _ _ _ hc hc'; omega)
        (fun i row hi => by rcases split i row hi with ⟨_, h⟩ | ⟨_, h⟩; exact hAl _ _ h; exact hBl _ _ h)
        (fun i row j x hi hj => by
          rw [e0]
          rcases split i row hi with ⟨hlt, h⟩ | ⟨hge, h⟩
          · obtain ⟨u, q1, q2, _⟩ := f3 _ _ _ _ h hj
            rw [old _ _ _ q1]; exact q2
          · obtain ⟨u, q1, q2, _⟩ := hB _ _ _ _ h hj
            have := new _ _ _ q1
            rw [show A.length + (i - A.length) = i by omega] at this
            rw [this]; exact q2)
        (fun i row j x hi hj => by
          rw [e0]
          rcases split i row hi with ⟨hlt, h⟩ | ⟨hge, h⟩
          · obtain ⟨u, q1, _, q3⟩ := f3 _ _ _ _ h hj
            rw [old _ _ _ q1]
            exact q3.mono hok _ fun c hc => ⟨by show (if _ then _ else _); rw [if_pos hlt]; exact hc, by rw [hM.heap, if_neg (by have := hFA _ (f1 _ _ _ hc); omega)]⟩
          · obtain ⟨u, q1, _, q3⟩ := hB _ _ _ _ h hj
            have := new _ _ _ q1
            rw [show A.length + (i - A.length) = i by omega] at this
            rw [this]
            exact q3.mono hok _ fun c hc => ⟨by show (if _ then _ else _); rw [if_neg (by omega)]; exact hc, by rw [hM.heap, if_neg (by have := (hFB _ _ _ hc).2.1; omega)]⟩)
      rw [List.length_append] at hR
      exact hR
end
end Go.Proofs.YtkkmgjhfjhcdmaaGreatDoor.Mx

namespace Go.Proofs.YtkkmgjhfjhcdmaaGreatDoor.Mx
open Go Go.RowKit
section
variable {w0 : World} {M R : Nat → Prop} {γ : Gs} {φ : Fp} {tv : Tv} {sv : Sv} {a : Act} {w w' : World} {P : Program} {T : Ty} {ok ok' : Nat → Prop}
theorem flat_sc {B : List Row} (h : flatR B = true) {i j : Nat} {row : Row} {x : AV} (hi : B[i]? = some row) (hj : row[j]? = some x) : isSc x = true :=
  List.all_eq_true.1 (List.all_eq_true.1 h row (List.mem_of_getElem? hi)) x (List.mem_of_getElem? hj)
theorem own_news {F : Nat → Prop} {v : Value} {z : Nat} {B : List Row} (hz : 1 ≤ z) (h : Own w ok F v (.sl true z B)) {news : List Value} (hn : ∀ w1, SameW w w1 → (Builtin.firstCells z B.length v).run P w1 = .ok news.toArray w1) :
    ∃ Fs : Nat → Nat → Nat → Prop, (∀ i j c, Fs i j c → F c) ∧ (∀ i j i' j' c, Fs i j c → Fs i' j' c → i = i' ∧ j = j') ∧ ∀ (i : Nat) (row : Row) (j : Nat) (x : AV), B[i]? = some row → row[j]? = some x → ∃ u, news[i * z + j]? = some u ∧ u.oneCell' = true ∧ Own w ok (Fs i j) u x := by
  rcases own_inv h with ⟨_, rfl⟩ | ⟨_, _, _, rfl⟩ | ⟨b, off, cap, cur0, e', fr, Fs, e0, a1, a2, a3, a4, a5, a6, a7, a8, a9, a10, a11⟩
  · exact ⟨fun _ _ _ => False, fun _ _ _ h => h.elim, fun _ _ _ _ _ h => h.elim, fun i row j x hi => by simp at hi⟩
  · exact ⟨fun _ _ _ => False, fun _ _ _ h => h.elim, fun _ _ _ _ _ h => h.elim, fun i row j x hi => by simp at hi⟩
  · subst e0
    refine ⟨Fs, fun i j c hc => (a7 _ _ _ hc).1, a8, fun i row j x hi hj => ?_⟩
    have hk : i * z + j < B.length * z := by
      have h1 : (i + 1) * z ≤ B.length * z := Nat.mul_le_mul_right _ (by have := idx_lt hi; omega)
      have h2 := idx_lt hj
      rw [a9 i row hi] at h2
      rw [Nat.add_mul] at h1
      omega
    have hu : news[i * z + j]? = some (cur0.getD (off + (i * z + j)) undef) := by
      have hf := hn w (SameW.refl w)
      have := run_firstCells_some (P := P) w z B.length ⟨b, off, none⟩ B.length cap ((List.range (B.length * z)).map fun k => cur0.getD (off + k) undef) (by simp) (fun k v hk => by
        have hlt := idx_lt hk
        simp only [List.length_map, List.length_range] at hlt
        rw [List.getElem?_map, List.getElem?_range hlt] at hk
        cases hk
        rw [add_flat]
        have h1 : B.length * z ≤ cap * z := Nat.mul_le_mul_right _ a4
        exact cell_some a2 (by omega))
      rw [this] at hf
      have : news = (List.range (B.length * z)).map fun k => cur0.getD (off + k) undef := by
        injection hf with h1 _
        have := congrArg Array.toList h1
        simpa using this.symm
      rw [this, List.getElem?_map, List.getElem?_range hk]; rfl
    exact ⟨_, hu, a10 i row j x hi hj, a11 i row j x hi hj⟩
theorem str_src {xt : TypeId} {s : ByteArray} (ht : P.underlying xt = some .string ∨ ∃ e', P.underlying xt = some (.slice e')) :
    Src P w xt 1 (.string s) ((bt s).map byteRow).length (s.data.toList.map fun b => .int .u8 b.toNat) ∧ ∀ (i : Nat) (row : Row) (j : Nat) (x : AV), ((bt s).map byteRow)[i]? = some row → row[j]? = some x → ∃ u, (s.data.toList.map fun b => Value.int .u8 (b.toNat : Int))[i * 1 + j]? = some u ∧ u.oneCell' = true ∧ Rep w ok u x := by
  refine ⟨⟨ht, fun w1 => by simp [Builtin.lenOf, bt], fun w1 _ => ?_, by simp [bt]⟩, fun i row j x hi hj => ?_⟩
  · have hs : ((bt s).map byteRow).length = s.size := by simp [bt]
    rw [hs]
    simp only [Builtin.firstCells, Sem.run_pure]
    congr 1
    have : (s.extract 0 s.size) = s := by apply ByteArray.ext; show (s.extract 0 s.size).data = s.data; simp
    rw [this]
    apply Array.ext'
    simp
  · obtain ⟨u, hu, rfl⟩ := (byte_rows (s := s)).1 i row hi
    cases j with
    | zero =>
      simp at hj
      subst hj
      refine ⟨.int .u8 u.toNat, ?_, rfl, .sc _ rfl⟩
      rw [Nat.mul_one, Nat.add_zero, List.getElem?_map]
      have : s.data.toList[i]? = some u := hu
      rw [this]; rfl
    | succ j => simp at hj
theorem flat_src (h : Sim w0 M R γ φ tv sv a w) {xt : TypeId} (ht : P.underlying xt = some .string ∨ ∃ e', P.underlying xt = some (.slice e')) {v : Value} {x : AV} {y : Nat} {B : List Row} {ns : List Nat} (hv : RepV w (okOf w0 M R φ sv w) γ v x) (hx : srcOf true x sv = some (y, B, ns)) (hfl : flatR B = true) :
    ns = [] ∧ (∀ (i : Nat) (row : Row), B[i]? = some row → row.length = y) ∧ ∃ news, Src P w xt y v B.length news ∧ ∀ (F : Nat → Nat → Nat → Prop) (ok : Nat → Prop) (i : Nat) (row : Row) (j : Nat) (x : AV), B[i]? = some row → row[j]? = some x → ∃ u, news[i * y + j]? = some u ∧ u.oneCell' = true ∧ Own w ok (F i j) u x := by
  have viaRep : ∀ (ok1 : Nat → Prop) (o : Bool), Rep w ok1 v (.sl o y B) → (∀ (i : Nat) (row : Row), B[i]? = some row → row.length = y) ∧ ∃ news, Src P w xt y v B.length news ∧ ∀ (F : Nat → Nat → Nat → Prop) (ok : Nat → Prop) (i : Nat) (row : Row) (j : Nat) (x : AV), B[i]? = some row → row[j]? = some x → ∃ u, news[i * y + j]? = some u ∧ u.oneCell' = true ∧ Own w ok (F i j) u x := by
    intro ok1 o hr
    obtain ⟨base, cap, news, rfl, h1, h2, h3, h4, h5, h6⟩ := rep_news (P := P) hr
    exact ⟨h5, news, ⟨ht, fun w1 => by simp [Builtin.lenOf], h4, h3⟩, fun F ok i row j x hi hj => by
      obtain ⟨u, q1, q2, q3⟩ := h6 i row j x hi hj
      exact ⟨u, q1, q2, own_of_rep (flat_sc hfl hi hj) (isSc_rep (flat_sc hfl hi hj) q3)⟩⟩
  unfold srcOf at hx
  split at hx
  · cases hx
    rename_i s
    obtain ⟨rfl, _⟩ := rep_sc hv
    obtain ⟨h1, h2⟩ := str_src (P := P) (w := w) (ok := okOf w0 M R φ sv w) (s := s) ht
    exact ⟨rfl, fun i row hi => by obtain ⟨u, _, rfl⟩ := (byte_rows (s := s)).1 i row hi; rfl, _, h1, fun F ok i row j x hi hj => by
      obtain ⟨u, q1, q2, q3⟩ := h2 i row j x hi hj
      exact ⟨u, q1, q2, own_of_rep (flat_sc hfl hi hj) (isSc_rep (flat_sc hfl hi hj) q3)⟩⟩
  · rename_i m lo n
    simp only [cond_true] at hx
    split at hx
    · rename_i z r hb
      cases hx
      obtain ⟨v0, g1, g2⟩ := blkRows_ok h hb
      obtain ⟨v0', z', k1, k2⟩ := hv
      rw [g1] at k1
      cases k1
      exact ⟨rfl, viaRep _ true (g2.sub k2)⟩
    · cases hx
  · simp only [cond_true] at hx
    cases hx
    exact ⟨rfl, viaRep _ _ hv⟩
  · cases hx
theorem own_src (h : Sim w0 M R γ φ tv sv a w) {xt : TypeId} (ht : P.underlying xt = some .string ∨ ∃ e', P.underlying xt = some (.slice e')) {v : Value} {x : AV} {y : Nat} {B : List Row} {ns : List Nat} (hv : RepV w (okOf w0 M R φ sv w) γ v x) (hx : srcOf false x sv = some (y, B, ns)) (hy : 1 ≤ y) :
    (∀ k ∈ ns, live sv k ∧ ∃ g, γ k = some g) ∧ (∀ (i : Nat) (row : Row), B[i]? = some row → row.length = y) ∧ ∃ news, Src P w xt y v B.length news ∧ ∃ F : Nat → Nat → Nat → Prop, (∀ i j c, F i j c → ∃ k ∈ ns, φ k c) ∧ (∀ i j i' j' c, F i j c → F i' j' c → i = i' ∧ j = j') ∧
      ∀ (i : Nat) (row : Row) (j : Nat) (x : AV), B[i]? = some row → row[j]? = some x → ∃ u, news[i * y + j]? = some u ∧ u.oneCell' = true ∧ Own w (okOf w0 M R φ sv w) (F i j) u x := by
  unfold srcOf at hx
  split at hx
  · cases hx
    rename_i s
    obtain ⟨rfl, _⟩ := rep_sc hv
    obtain ⟨h1, h2⟩ := str_src (P := P) (w := w) (ok := okOf w0 M R φ sv w) (s := s) ht
    have hfl := (byte_rows (s := s)).2
    exact ⟨fun k hk => (by cases hk), fun i row hi => by obtain ⟨u, _, rfl⟩ := (byte_rows (s := s)).1 i row hi; rfl, _, h1, fun _ _ _ => False, fun _ _ _ h => h.elim, fun _ _ _ _ _ h => h.elim, fun i row j x hi hj => by
      obtain ⟨u, q1, q2, q3⟩ := h2 i row j x hi hj
      exact ⟨u, q1, q2, own_of_rep (flat_sc hfl hi hj) (isSc_rep (flat_sc hfl hi hj) q3)⟩⟩
  · rename_i m lo n
    simp only [cond_false] at hx
    split at hx
    · rename_i z vr r hm
      cases hx
      obtain ⟨v0, g1, g2⟩ := h.bk m _ hm
      obtain ⟨v0', z', k1, k2⟩ := hv
      rw [g1] at k1
      cases k1
      have hO := g2.sub k2
      obtain ⟨base, cap, news, rfl, h1, h2, h3, h4, h5, h6⟩ := rep_news (P := P) (hO.rep (ok' := fun _ => True) (fun _ _ => trivial) (fun _ _ => trivial))
      obtain ⟨Fs, f1, f2, f3⟩ := own_news (P := P) hy hO h4
      exact ⟨fun k hk => by simp at hk; subst hk; exact ⟨blk_live hm, _, g1⟩, h5, news, ⟨ht, fun w1 => by simp [Builtin.lenOf], h4, h3⟩, Fs, fun i j c hc => ⟨m, by simp, f1 i j c hc⟩, f2, f3⟩
    · cases hx
  · simp only [cond_false] at hx; cases hx
  · cases hx
theorem kill_app (k l : List Nat) (s : Sv) : syncF (Mx.kill (k ++ l)) s = syncF (Mx.kill l) (syncF (Mx.kill k) s) := by
  unfold Mx.kill; rw [List.map_append, syncF_app]
theorem append_name (h : Sim w0 M R γ φ tv sv a w) {b : Nat} (hf : Fresh γ b) {t xt e ty : TypeId} {te : TI} (ht : P.underlying t = some (.slice e)) (he : TyOk P e te) {ats : Array TypeId} (h0 : ats[0]? = some t) (h1 : ats[1]? = some xt) {FA : Nat → Prop} {vA x : Value} {A B : List Row} {news : List Value} (ks : List Nat)
    (hks : ∀ k ∈ ks, live sv k ∧ ∃ g, γ k = some g) (hA : Own w (okOf w0 M R φ sv w) FA vA (.sl true te.size A)) (hFA : ∀ c, FA c → ∃ k ∈ ks, φ k c) (hs : Src P w xt te.size x B.length news) (hBl : ∀ (i : Nat) (row : Row), B[i]? = some row → row.length = te.size)
    (FB : Nat → Nat → Nat → Prop) (hFB : ∀ i j c, FB i j c → (∃ k ∈ ks, φ k c) ∧ ¬ FA c) (hFd : ∀ i j i' j' c, FB i j c → FB i' j' c → i = i' ∧ j = j')
    (hB : ∀ (i : Nat) (row : Row) (j : Nat) (x : AV), B[i]? = some row → row[j]? = some x → ∃ u, news[i * te.size + j]? = some u ∧ u.oneCell' = true ∧ Own w (okOf w0 M R φ sv w) (FB i j) u x) (hroom : (A.length + B.length) * te.bytes ≤ room) :
    ∃ v' w' φ', (Builtin.append_ ats ty #[vA, x]).run P w = .ok v' w' ∧ Sim w0 M R (γN γ b (v', te.size)) φ' tv (updS (syncF (Mx.kill ks) sv) b (some (.ar te.size 0 (A ++ B)))) a w' ∧ Sub v' te.size 0 (A.length + B.length) v' := by
  have hlt : ∀ c, (∃ k ∈ ks, φ k c) → c < w.heap.size := fun c ⟨k, hk, hc⟩ => (h.nw k c (hks k hk).1 hc).1
  obtain ⟨v', w', F', r1, r2, r3, r4, rk, r5, r6, r7, r8, r9⟩ := append_core (P := P) (ty := ty) ht he h0 h1 hA (fun c hc => hlt c (hFA c hc)) hs hBl FB (fun c => ∃ k ∈ ks, φ k c) (fun i j c hc => ⟨(hFB i j c hc).1, hlt c (hFB i j c hc).1, (hFB i j c hc).2⟩) hFd hB hroom
  have hb := hf b (Nat.le_refl _) (by omega)
  refine ⟨v', w', _, r1, (h.new hb ks (fun k hk e => by obtain ⟨_, g, hg⟩ := hks k hk; rw [e, hb] at hg; cases hg) (w' := w') (g := (v', te.size)) (F := F') (B := .ar te.size 0 (A ++ B)) r2 r3 r4 rk r5 (fun c hc hn => r6 c hc fun hFc => by obtain ⟨k, hk, hkc⟩ := hFA c hFc; exact hn k hk (hks k hk).1 hkc) (fun c hc => ?_) (fun hok => ?_)).1, r9⟩
  · obtain ⟨q1, q2⟩ := r7 c hc
    refine ⟨q1, q2.imp id ?_⟩
    rintro (hc | ⟨k, hk, hkc⟩)
    · obtain ⟨k, hk, hkc⟩ := hFA c hc; exact ⟨k, hk, (hks k hk).1, hkc⟩
    · exact ⟨k, hk, (hks k hk).1, hkc⟩
  · refine ⟨v', γN_self, ?_⟩
    rw [φN_self]
    exact r8 _ hok
end
end Go.Proofs.YtkkmgjhfjhcdmaaGreatDoor.Mx

namespace Go.Proofs.YtkkmgjhfjhcdmaaGreatDoor.Mx
open Go Go.RowKit
section
variable {w0 : World} {M R : Nat → Prop} {γ : Gs} {φ : Fp} {tv : Tv} {sv : Sv} {a : Act} {w w' : World} {P : Program} {T : Ty} {ok ok' : Nat → Prop}
theorem isNil_eval {x : Operand} (h : isNil x = true) : a.eval x = .slice none 0 0 := by
  unfold isNil at h
  split at h
  · rfl
  · cases h
theorem append_ok (hT : TOk P T) (h : Sim w0 M R γ φ tv sv a w) {b : Nat} (hf : Fresh γ b) {ats : Array TypeId} {ty : TypeId} {te tx : TI} {s x : Operand} (hte : elemOf T (ats.getD 0 0) = some te) (htx : T (ats.getD 1 0) = some tx) (hsz : 2 ≤ ats.size) (hsrc : isSrc tx.kind = true) {d : Dl}
    (hd : pAppend te.size te.bytes b (flatT te) (isNil s) (opv tv s) (opv tv x) sv = some d) : OpRes P w0 M R γ tv sv a w b (do pure (.value (← Builtin.append_ ats ty #[a.eval s, a.eval x]))) d := by
  obtain ⟨e, hu, he⟩ := elemOf_some hT hte
  have h0 : ats[0]? = some (ats.getD 0 0) := getD_some (by omega)
  have h1 : ats[1]? = some (ats.getD 1 0) := getD_some (by omega)
  have hxt : P.underlying (ats.getD 1 0) = some .string ∨ ∃ e', P.underlying (ats.getD 1 0) = some (.slice e') := by
    have := (hT _ tx htx).kd
    unfold isSrc at hsrc
    split at hsrc
    · rename_i hk; rw [hk] at this; exact .inl this
    · rename_i e' hk; rw [hk] at this; exact .inr ⟨e', this⟩
    · cases hsrc
  have hS := opv_ok h s
  have hX := opv_ok h x
  have hev : ∀ hn : isNil s = true, a.eval s = .slice none 0 0 := isNil_eval
  generalize opv tv s = ys at hd hS
  generalize opv tv x = yx at hd hX
  generalize a.eval x = vx at hX
  generalize a.eval s = vs at hS hev
  unfold pAppend at hd
  split at hd
  · cases hd
  · rename_i y B ns hsr
    -- the source: its cells and blocks
    have source : ∀ FA : Nat → Prop, y = te.size → (flatT te = true → flatR B = true) → (flatT te = false → ∀ k ∈ ns, ∀ c, φ k c → ¬ FA c) → (∀ k ∈ ns, live sv k ∧ ∃ g, γ k = some g) ∧ (∀ (i : Nat) (row : Row), B[i]? = some row → row.length = te.size) ∧ ∃ news, Src P w (ats.getD 1 0) te.size vx B.length news ∧ ∃ FB : Nat → Nat → Nat → Prop, (∀ i j c, FB i j c → (∃ k ∈ ns, φ k c) ∧ ¬ FA c) ∧
        (∀ i j i' j' c, FB i j c → FB i' j' c → i = i' ∧ j = j') ∧ ∀ (i : Nat) (row : Row) (j : Nat) (x : AV), B[i]? = some row → row[j]? = some x → ∃ u, news[i * te.size + j]? = some u ∧ u.oneCell' = true ∧ Own w (okOf w0 M R φ sv w) (FB i j) u x := by
      rintro FA rfl hfl hdis
      cases hft : flatT te with
      | true =>
        rw [hft] at hsr
        obtain ⟨rfl, q1, news, q2, q3⟩ := flat_src (P := P) h hxt hX hsr (hfl hft)
        exact ⟨fun k hk => (by cases hk), q1, news, q2, fun _ _ _ => False, fun _ _ _ h => h.elim, fun _ _ _ _ _ h => h.elim, q3 _ _⟩
      | false =>
        rw [hft] at hsr
        obtain ⟨q0, q1, news, q2, F, q3, q4, q5⟩ := own_src (P := P) h hxt hX hsr he.s1
        exact ⟨q0, q1, news, q2, F, fun i j c hc => ⟨q3 i j c hc, by obtain ⟨k, hk, hkc⟩ := q3 i j c hc; exact hdis hft k hk c hkc⟩, q4, q5⟩
    rw [cond_eq_ite] at hd
    split at hd
    · rename_i hnil
      split at hd
      · rename_i hc
        cases hd
        rw [hev hnil]
        obtain ⟨q0, q1, news, q2, FB, q3, q4, q5⟩ := source (fun _ => False) hc.1 (fun hft => by have := hc.2.1; rw [hft] at this; exact this) (fun _ k _ c _ h => h)
        obtain ⟨v', w', φ', r1, r2, r3⟩ := append_name (P := P) (ty := ty) h hf hu he h0 h1 ns q0 (.nil (fun _ => False) te.size) (fun c hc => hc.elim) q2 q1 FB q3 q4 q5 (by simpa using hc.2.2)
        rw [List.nil_append] at r2
        have r2' : Sim w0 M R (γN γ b (v', te.size)) φ' tv (syncF (Mx.kill ns ++ [(b, some (.ar te.size 0 B))]) sv) a w' := by rw [syncF_app]; exact r2
        rw [show ([] : List Row).length + B.length = B.length by simp] at r3
        exact ⟨v', w', _, φ', .inl (by simp only [Sem.run_bind, r1, Result.andThen_ok, Sem.run_pure]), fun k hk => by rw [γN_ne (by omega)], r2', v', te.size, γN_self, r3⟩
      · cases hd
    · split at hd
      · rename_i m lo n
        split at hd
        · rename_i y' vr A hm
          split at hd
          · rename_i hc
            obtain ⟨c1, c2, c3, c4⟩ := hc
            cases hd
            obtain ⟨v0, g1, g2⟩ := h.bk m _ hm
            obtain ⟨v0', z', k1, k2⟩ := hS
            rw [g1] at k1
            cases k1
            subst c2
            have hlm := blk_live hm
            have hnm : flatT te = false → m ∉ ns := fun hft => by rw [hft] at c3; simpa using c3
            obtain ⟨q0, q1, news, q2, FB, q3, q4, q5⟩ := source (φ m) c1 (fun hft => by rw [hft] at c3; exact c3) (fun hft k hk c hc => h.dj k m (by
              have hft' := hft
              rw [hft] at hsr
              exact (own_src (P := P) h hxt hX hsr (by rw [c1]; exact he.s1)).1 k hk |>.1) hlm (fun e => hnm hft (e ▸ hk)) c hc)
            have hsub := g2.sub k2
            have hlen : (seg A lo n).length = n := by
              have hb := slLen hsub
              obtain ⟨_, _, e1, _⟩ := hb
              obtain ⟨ad, cap, e2, _⟩ := k2.len
              rw [e1] at e2
              injection e2
            obtain ⟨v', w', φ', r1, r2, r3⟩ := append_name (P := P) (ty := ty) h hf hu he h0 h1 (ns ++ [m]) (fun k hk => by
                rcases List.mem_append.1 hk with hk | hk
                · exact q0 k hk
                · simp at hk; subst hk; exact ⟨hlm, _, g1⟩) hsub (fun c hc => ⟨m, by simp, hc⟩) q2 q1 FB (fun i j c hc => ⟨by obtain ⟨⟨k, hk, hkc⟩, _⟩ := q3 i j c hc; exact ⟨k, List.mem_append_left _ hk, hkc⟩, (q3 i j c hc).2⟩) q4 q5 (by rw [hlen]; exact c4)
            have r2' : Sim w0 M R (γN γ b (v', te.size)) φ' tv (syncF (Mx.kill ns ++ [(m, none), (b, some (.ar te.size 0 (seg A lo n ++ B)))]) sv) a w' := by
              rw [kill_app] at r2
              rw [syncF_app]
              exact r2
            rw [hlen] at r3
            exact ⟨v', w', _, φ', .inl (by simp only [Sem.run_bind, r1, Result.andThen_ok, Sem.run_pure]), fun k hk => by rw [γN_ne (by omega)], r2', v', te.size, γN_self, r3⟩
          · cases hd
        · rename_i p i j v hm
          split at hd
          · rename_i zp vp rp hp
            split at hd
            · rename_i y' A hb
              split at hd
              · rename_i hc
                obtain ⟨c1, c2, c3, c4, c5, c6⟩ := hc
                cases hd
                subst c2
                have hbr := hb
                unfold blkRows at hbr
                rw [hm] at hbr
                simp only [hp] at hbr
                rw [cond_eq_ite] at hbr
                split at hbr
                · rename_i hv
                  have hv : v = vp := by simpa using hv
                  subst hv
                  obtain ⟨_, _, hh⟩ := h.bk m _ hm
                  obtain ⟨u0, b', off', len', cap', q1, q2, q3⟩ := (hh zp v rp hp).2 rfl te.size A hbr
                  obtain ⟨v0, k1, k2⟩ := h.bk p _ hp
                  rw [k1] at q2
                  cases q2
                  obtain ⟨b1, off1, cap1, G, u, e1, e2, e3, e4, e5, e6⟩ := own_cell k2 hbr
                  cases e1
                  rw [q3] at e2
                  cases e2
                  obtain ⟨v0', z', s1, s2⟩ := hS
                  rw [q1] at s1
                  cases s1
                  have hlp := blk_live hp
                  have hlm := blk_live hm
                  have hsub := e3.sub s2
                  have hlen : (seg A lo n).length = n := by
                    obtain ⟨_, _, e1, _⟩ := slLen hsub
                    obtain ⟨ad, cap, e2, _⟩ := s2.len
                    rw [e1] at e2
                    injection e2
                  obtain ⟨p0, p1, news, p2, FB, p3, p4, p5⟩ := source G c1 (fun _ => c4) (fun hft => by rw [hft] at c3; cases c3)
                  have hns : ns = [] := by
                    rw [c3] at hsr
                    exact (flat_src (P := P) h hxt hX hsr c4).1
                  subst hns
                  obtain ⟨v', w', F', r1, r2, r3, r4, rk, r5, r6, r7, r8, r9⟩ := append_core (P := P) (ty := ty) hu he h0 h1 hsub (fun c hc => (h.nw p c hlp (e4 c hc).1).1) p2 p1 FB (fun _ => False) (fun i j c hc => by obtain ⟨⟨k, hk, _⟩, _⟩ := p3 i j c hc; cases hk) p4 p5 (by rw [hlen]; exact c6)
                  have hbn := hf b (Nat.le_refl _) (by omega)
                  have hmb : m ≠ b := by rintro rfl; rw [q1] at hbn; cases hbn
                  have hpb : p ≠ b := by rintro rfl; rw [k1] at hbn; cases hbn
                  have hmp : m ≠ p := by rintro rfl; rw [hm] at hp; cases hp
                  -- the state behind
                  have hsv : syncF [(m, none), (p, some (.ar zp (v + 1) (rp.set i ((rp.getD i []).set j .no)))), (b, some (.ar te.size 0 (seg A lo n ++ B)))] sv = updS (updS (updS sv m none) p (some (.ar zp (v + 1) (rp.set i ((rp.getD i []).set j .no))))) b (some (.ar te.size 0 (seg A lo n ++ B))) := rfl
                  generalize hsv' : updS (updS (updS sv m none) p (some (.ar zp (v + 1) (rp.set i ((rp.getD i []).set j .no))))) b (some (.ar te.size 0 (seg A lo n ++ B))) = sv' at hsv
                  have sb : sv' b = some (.ar te.size 0 (seg A lo n ++ B)) := by rw [← hsv']; exact upd_self
                  have sp : sv' p = some (.ar zp (v + 1) (rp.set i ((rp.getD i []).set j .no))) := by rw [← hsv', upd_ne (Ne.symm hpb)]; exact upd_self
                  have sm : sv' m = none := by rw [← hsv', upd_ne (Ne.symm hmb), upd_ne (Ne.symm hmp)]; exact upd_self
                  have so : ∀ k, k ≠ b → k ≠ p → k ≠ m → sv' k = sv k := fun k h1 h2 h3 => by rw [← hsv', upd_ne (Ne.symm h1), upd_ne (Ne.symm h2), upd_ne (Ne.symm h3)]
                  have hst := h.step (γ' := γN γ b (v', te.size)) (φ' := fun k => if k = b then F' else if k = p then (fun c => φ p c ∧ ¬ G c) else φ k) (sv' := sv') (w' := w') (fun k => k = b ∨ k = p ∨ k = m) (γN_ext hbn)
                    (fun k hk => ⟨so k (fun e => hk (.inl e)) (fun e => hk (.inr (.inl e))) (fun e => hk (.inr (.inr e))), by show (if _ then _ else _) = _; rw [if_neg (fun e => hk (.inl e)), if_neg (fun e => hk (.inr (.inl e)))]⟩)
                    ⟨r2.trans h.fr.os, r3.trans h.fr.tape, r4.trans h.fr.output, Nat.le_trans h.fr.size r5, fun k hk hM => by
                      rw [r6 k (Nat.lt_of_lt_of_le hk h.fr.size) fun hG => ?_]
                      · exact h.fr.block k hk hM
                      · rcases (h.nw p k hlp (e4 k hG).1).2 with h1 | h1
                        · omega
                        · exact hM h1⟩
                    rk r5 (fun c hc hk => r6 c hc fun hG => hk p (.inr (.inl rfl)) hlp (e4 c hG).1)
                    (fun k c hk hl hc => by
                      rcases hk with rfl | rfl | rfl
                      · simp only [if_true] at hc
                        obtain ⟨a1, a2⟩ := r7 c hc
                        refine ⟨a1, a2.imp id ?_⟩
                        rintro (hG | hF)
                        · exact ⟨p, .inr (.inl rfl), hlp, (e4 c hG).1⟩
                        · exact hF.elim
                      · simp only [if_neg hpb, if_true] at hc
                        exact ⟨Nat.lt_of_lt_of_le (h.nw _ c hlp hc.1).1 r5, .inr ⟨_, .inr (.inl rfl), hlp, hc.1⟩⟩
                      · unfold live at hl; rw [sm] at hl; cases hl)
                    (fun k k' hk hk' hl hl' hne c hc hc' => by
                      have cross : F' c → φ p c ∧ ¬ G c → False := fun hF hp' => by
                        rcases (r7 c hF).2 with h1 | h1 | h1
                        · have := (h.nw p c hlp hp'.1).1; omega
                        · exact hp'.2 h1
                        · exact h1
                      have dead : ¬ live sv' m := by unfold live; rw [sm]; simp
                      rcases hk with rfl | rfl | rfl <;> rcases hk' with rfl | rfl | rfl
                      · exact hne rfl
                      · simp only [if_true] at hc; simp only [if_neg hpb, if_true] at hc'; exact cross hc hc'
                      · exact dead hl'
                      · simp only [if_neg hpb, if_true] at hc; simp only [if_true] at hc'; exact cross hc' hc
                      · exact hne rfl
                      · exact dead hl'
                      · exact dead hl
                      · exact dead hl
                      · exact dead hl)
                    (fun k p' i' j' v'' hk hs hp' => by
                      obtain ⟨a0, a1, a2⟩ := h.bk k _ hs
                      refine ⟨a0.imp fun g hg => γN_ext hbn _ _ hg, a1.imp fun g hg => γN_ext hbn _ _ hg, fun zp' v3 rp' hh' => ?_⟩
                      rcases hp' with rfl | rfl | rfl
                      · obtain ⟨g, hg⟩ := a1; rw [hbn] at hg; cases hg
                      · rw [sp] at hh'
                        cases hh'
                        have := (a2 zp v rp hp).1
                        exact ⟨by omega, fun e => by omega⟩
                      · rw [sm] at hh'; cases hh')
                    (fun k p' v'' seen hk hs hp' => by
                      obtain ⟨a0, b2, born, last, a1, a2, _⟩ := h.bk k _ hs
                      refine ⟨a0.imp fun g hg => γN_ext hbn _ _ hg, b2, born, last, γN_ext hbn _ _ a1, by show (if k = b then F' else if k = p then (fun c => φ p c ∧ ¬ G c) else φ k) b2; rw [if_neg (fun e => hk (.inl e)), if_neg (fun e => hk (.inr (.inl e)))]; exact a2, fun v3 es hh' => ?_⟩
                      rcases hp' with rfl | rfl | rfl
                      · obtain ⟨g, hg⟩ := a0; rw [hbn] at hg; cases hg
                      · rw [sp] at hh'; cases hh'
                      · rw [sm] at hh'; cases hh')
                    (fun hok k B' hk hB' => by
                      rcases hk with rfl | rfl | rfl
                      · rw [sb] at hB'
                        cases hB'
                        refine ⟨v', γN_self, ?_⟩
                        simp only [if_true]
                        exact r8 _ hok
                      · rw [sp] at hB'
                        cases hB'
                        refine ⟨_, γN_ext hbn _ _ k1, ?_⟩
                        simp only [if_neg hpb, if_true]
                        refine (e6 w' _ (fun _ => False) .no (fun _ h => h.elim) (fun c hc hG => r6 c (h.nw _ c hlp hc).1 hG) hok (own_of_rep rfl (.no _))).mono (fun c hc => ⟨hc, rfl⟩) _ fun c hc => ⟨⟨hc.1, fun hG => (hc.2 hG).elim⟩, rfl⟩
                      · rw [sm] at hB'; cases hB')
                  rw [hlen] at r9
                  have hst1 := hst.1
                  rw [← hsv] at hst1
                  exact ⟨v', w', _, _, .inl (by simp only [Sem.run_bind, r1, Result.andThen_ok, Sem.run_pure]), fun k hk => by rw [γN_ne (by omega)], hst1, v', te.size, γN_self, r9⟩
                · cases hbr
              · cases hd
            · cases hd
          · cases hd
        · cases hd
      · cases hd
end
end Go.Proofs.YtkkmgjhfjhcdmaaGreatDoor.Mx
