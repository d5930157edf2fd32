/- A machine over values for Go functions, proved sound, and functions run on it: texts OF, OG, OI, OH, M2. -/
import Derived.Laws.IdiomRangeMap
import Derived.Laws.NewFold
import Derived.Test.YtkkmgjhfjhcdmaaGreatDoorFnFetchXaa
import Derived.Test.YtkkmgjhfjhcdmaaGreatDoorFnFetchXad
set_option linter.all false
namespace Go.Proofs.YtkkmgjhfjhcdmaaGreatDoor.Mx
open Go Go.RowKit
section
variable {w0 : World} {M R : Nat → Prop} {γ : Gs} {φ : Fp} {tv : Tv} {sv : Sv} {a : Act} {w w' : World} {P : Program} {T : Ty} {ok ok' : Nat → Prop}
theorem rep_pre {v : Value} {o : Bool} {z k : Nat} {B : List Row} (h : Rep w ok v (.sl o z B)) (hk : k ≤ B.length) : ∃ news : List Value, (Builtin.lenOf v).run P w = .ok B.length w ∧ news.length = k * z ∧ (Builtin.firstCells z k v).run P w = .ok news.toArray w ∧ (∀ (i : Nat) (row : Row), B[i]? = some row → row.length = z) ∧
    ∀ (i : Nat) (row : Row) (j : Nat) (x : AV), i < k → B[i]? = some row → row[j]? = some x → ∃ u, news[i * z + j]? = some u ∧ u.oneCell' = true ∧ Rep w ok u x := by
  obtain ⟨_, _, _, _, _, _, _, _, hBl, _⟩ := rep_news (P := P) h
  have viaSub : ∀ v', Sub v z 0 k v' → (∀ k', (Builtin.firstCells z k' v).run P w = (Builtin.firstCells z k' v').run P w) → (Builtin.lenOf v).run P w = .ok B.length w → ∃ news : List Value, (Builtin.lenOf v).run P w = .ok B.length w ∧ news.length = k * z ∧ (Builtin.firstCells z k v).run P w = .ok news.toArray w ∧ (∀ (i : Nat) (row : Row), B[i]? = some row → row.length = z) ∧
      ∀ (i : Nat) (row : Row) (j : Nat) (x : AV), i < k → B[i]? = some row → row[j]? = some x → ∃ u, news[i * z + j]? = some u ∧ u.oneCell' = true ∧ Rep w ok u x := by
    intro v' hs hfc hl
    obtain ⟨base, cap, news, e, h1, h2, h3, h4, h5, h6⟩ := rep_news (P := P) (h.sub (o' := false) hs)
    have hsl : (seg B 0 k).length = k := seg_len (by omega)
    rw [hsl] at h3 h4
    exact ⟨news, hl, h3, by rw [hfc]; exact h4 w (SameW.refl w), hBl, fun i row j x hi hr hj => h6 i row j x (by rw [seg_get hi, Nat.zero_add]; exact hr) hj⟩
  cases h with
  | nil =>
    have : k = 0 := by simpa using hk
    subst this
    exact viaSub (.slice none 0 0) ⟨rfl, rfl, rfl⟩ (fun _ => rfl) (by simp [Builtin.lenOf])
  | emp _ _ A cap =>
    have : k = 0 := by simpa using hk
    subst this
    obtain ⟨b, off, q⟩ := A
    cases q with
    | none => exact viaSub (.slice (some ⟨b, off, none⟩) 0 0) ⟨off, 0, rfl, Nat.le_refl _, Nat.le_refl _, .inr rfl⟩ (fun _ => rfl) (by simp [Builtin.lenOf])
    | some q => exact ⟨[], by simp [Builtin.lenOf], by simp, run_firstCells_some w z 0 _ 0 cap [] (by simp) (fun j v hj => by simp at hj), fun i row hi => by simp at hi, fun i row j x hi => by omega⟩
  | sl _ _ b off cap _ vs h1 h2 h3 h4 h5 =>
    exact viaSub (.slice (some ⟨b, off, none⟩) k cap) ⟨off, cap, rfl, by omega, by omega, .inl ⟨by omega, by omega⟩⟩ (fun _ => rfl) (by simp [Builtin.lenOf])
theorem own_copy {t e ty : TypeId} {te : TI} (ht : P.underlying t = some (.slice e)) (he : TyOk P e te) {ats : Array TypeId} (h0 : ats[0]? = some t) {F : Nat → Prop} {v0 vd vx : Value} {A B : List Row} {o : Bool} {ok1 : Nat → Prop} {lo n : Nat} (hA : Own w ok F v0 (.sl true te.size A)) (hfA : flatR A = true) (hfB : flatR B = true)
    (hB : Rep w ok1 vx (.sl o te.size B)) (hs : Sub v0 te.size lo n vd) :
    ∃ w', (Builtin.copy_ ats ty #[vd, vx]).run P w = .ok (.int .i64 (min B.length n : Nat)) w' ∧ w'.os = w.os ∧ w'.tape = w.tape ∧ w'.output = w.output ∧ w'.heap.size = w.heap.size ∧ Kp w w' ∧ (∀ c, ¬ F c → w'.heap[c]? = w.heap[c]?) ∧
      ∀ ok' : Nat → Prop, Own w' ok' F v0 (.sl true te.size (A.take lo ++ B.take n ++ A.drop (lo + min B.length n))) := by
  obtain ⟨news, hl, hnl, hfc, hBl, hcell⟩ := rep_pre (P := P) (k := min B.length n) hB (Nat.min_le_left _ _)
  have hmin : Nat.min B.length n = min B.length n := rfl
  have same : ∀ ok' : Nat → Prop, min B.length n = 0 → Own w ok' F v0 (.sl true te.size (A.take lo ++ B.take n ++ A.drop (lo + min B.length n))) := fun ok' h0 => by
    have e1 : B.take n = [] := List.eq_nil_of_length_eq_zero (by rw [List.length_take]; omega)
    rw [e1, h0, List.append_nil, Nat.add_zero, List.take_append_drop]
    have : ∀ (i : Nat) (row : Row) (j : Nat) (x : AV), A[i]? = some row → row[j]? = some x → isSc x = true := fun i row j x hi hj => flat_sc hfA hi hj
    rcases own_inv hA with ⟨rfl, rfl⟩ | ⟨b, off, rfl, rfl⟩ | ⟨b, off, cap, cur, e', fr, Fs, rfl, a1, a2, a3, a4, a5, a6, a7, a8, a9, a10, a11⟩
    · exact .nil _ _
    · exact .emp _ _ _ _
    · exact .sl _ _ _ _ _ _ _ _ _ Fs a1 a2 a3 a4 a5 a6 a7 a8 a9 a10 fun i row j x hi hj => isSc_own (this i row j x hi hj) (a11 i row j x hi hj)
  have hvd : (∃ ad, vd = .slice none n ad ∧ n = 0) ∨ ∃ b o' c', vd = .slice (some ⟨b, o', none⟩) n c' := by
    unfold Sub at hs
    split at hs
    · obtain ⟨rfl, _, rfl⟩ := hs; exact .inl ⟨_, rfl, rfl⟩
    · obtain ⟨o', c', rfl, _⟩ := hs; exact .inr ⟨_, _, _, rfl⟩
    · exact hs.elim
  by_cases hk0 : min B.length n = 0
  · rw [hk0] at hfc hnl
    have : news = [] := List.eq_nil_of_length_eq_zero (by rw [hnl]; simp)
    subst this
    refine ⟨w, ?_, rfl, rfl, rfl, rfl, Kp.refl _, fun _ _ => rfl, fun ok' => same ok' hk0⟩
    rcases hvd with ⟨ad, rfl, _⟩ | ⟨b, o', c', rfl⟩ <;> simp [Builtin.copy_, h0, run_underlying ht, hl, hmin, hk0, sizeOf_run he, hfc, goInt, storeCells]
  · rcases own_inv hA with ⟨rfl, rfl⟩ | ⟨b, off, rfl, rfl⟩ | ⟨b, off, cap, cur, e', fr, Fs, rfl, a1, a2, a3, a4, a5, a6, a7, a8, a9, a10, a11⟩
    · obtain ⟨_, _, rfl⟩ := hs; omega
    · obtain ⟨o', c', _, hle, _⟩ := hs; omega
    · obtain ⟨o', c', rfl, hle, hnc, hoo⟩ := hs
      obtain ⟨rfl, hcc⟩ : o' = off + lo * te.size ∧ lo + c' ≤ cap := by
        rcases hoo with h | h
        · exact h
        · omega
      generalize hk : min B.length n = k at *
      have hkn : k ≤ n := by omega
      have hkB : k ≤ B.length := by omega
      have hsz : (lo + k) * te.size ≤ A.length * te.size := Nat.mul_le_mul_right _ (by omega)
      have hsz2 : A.length * te.size ≤ cap * te.size := Nat.mul_le_mul_right _ a4
      rw [Nat.add_mul] at hsz
      have hn1 : ∀ u ∈ news, u.oneCell' = true := fun u hu => by
        obtain ⟨q, hq⟩ := List.getElem?_of_mem hu
        have hlt := idx_lt hq
        rw [hnl] at hlt
        have hd : q / te.size < k := Nat.div_lt_of_lt_mul (by rw [Nat.mul_comm]; exact hlt)
        have hm := Nat.mod_lt q he.s1
        have hr := List.getElem?_eq_getElem (show q / te.size < B.length by omega)
        obtain ⟨u', q1, q2, _⟩ := hcell (q / te.size) _ (q % te.size) _ hd hr (List.getElem?_eq_getElem (by rw [hBl _ _ hr]; exact hm))
        rw [show q / te.size * te.size + q % te.size = q by rw [Nat.mul_comm]; exact Nat.div_add_mod q te.size, hq] at q1
        cases q1; exact q2
      obtain ⟨w', cur', r1, r2, r3, r4, r5, r6, r7, r8, r9⟩ := store_cells (P := P) b (off + lo * te.size) e' fr news 0 cur w a2 a3 (by rw [hnl]; omega) hn1
      have hlen : (A.take lo ++ B.take n ++ A.drop (lo + k)).length = A.length := by
        simp only [List.length_append, List.length_take, List.length_drop]; omega
      have hBt : (B.take n).length = k := by rw [List.length_take]; omega
      have hAt : (A.take lo).length = lo := by rw [List.length_take]; omega
      have split : ∀ i row, (A.take lo ++ B.take n ++ A.drop (lo + k))[i]? = some row → (¬ (lo ≤ i ∧ i < lo + k) ∧ A[i]? = some row) ∨ (lo ≤ i ∧ i < lo + k ∧ B[i - lo]? = some row) := fun i row hi => by
        by_cases h1 : i < lo
        · rw [List.append_assoc, List.getElem?_append_left (by omega), List.getElem?_take_of_lt h1] at hi
          exact .inl ⟨by omega, hi⟩
        · by_cases h2 : i < lo + k
          · rw [List.append_assoc, List.getElem?_append_right (by omega), hAt, List.getElem?_append_left (by omega), List.getElem?_take_of_lt (by omega)] at hi
            exact .inr ⟨by omega, h2, hi⟩
          · rw [List.getElem?_append_right (by simp only [List.length_append]; omega), List.length_append, hAt, hBt, List.getElem?_drop, show lo + k + (i - (lo + k)) = i by omega] at hi
            exact .inl ⟨by omega, hi⟩
      refine ⟨w', ?_, r2, r3, r4, r5, Kp.cell r6 a2 r7 r8, fun c hc => r6 c fun e => hc (e ▸ a1), fun ok' => ?_⟩
      · simp [Builtin.copy_, h0, run_underlying ht, hl, hmin, hk, sizeOf_run he, hfc, goInt, r1]
      · have hR := own_flat (w := w') (ok := ok') (F := F) (z := te.size) (b := b) (off := off) (cap := cap) (rows := A.take lo ++ B.take n ++ A.drop (lo + k)) (cur := cur') (e := e') (fr := fr) a1 r7 (fun o ho => a3 o (by rw [← r8]; exact ho)) (by rw [hlen]; exact a4) (by rw [r8]; exact a5) a6
          (by
            refine List.all_eq_true.2 fun row hrow => ?_
            simp only [List.mem_append] at hrow
            rcases hrow with (h | h) | h
            · exact List.all_eq_true.1 hfA row (List.mem_of_mem_take h)
            · exact List.all_eq_true.1 hfB row (List.mem_of_mem_take h)
            · exact List.all_eq_true.1 hfA row (List.mem_of_mem_drop h))
          (fun i row hi => by rcases split i row hi with ⟨_, h⟩ | ⟨_, _, h⟩; exact a9 _ _ h; exact hBl _ _ h)
          (fun i row j x hi hj => by
            rcases split i row hi with ⟨hne, h⟩ | ⟨h1, h2, h⟩
            · have hjz : j < te.size := by rw [← a9 _ _ h]; exact idx_lt hj
              have : cur'.getD (off + (i * te.size + j)) undef = cur.getD (off + (i * te.size + j)) undef := by
                rw [r9, if_neg]
                rw [hnl]
                intro hh
                by_cases hil : i < lo
                · have : (i + 1) * te.size ≤ lo * te.size := Nat.mul_le_mul_right _ hil
                  rw [Nat.add_mul] at this; omega
                · have : (lo + k) * te.size ≤ i * te.size := Nat.mul_le_mul_right _ (by omega)
                  rw [Nat.add_mul] at this; omega
              rw [this]
              exact ⟨a10 _ _ _ _ h hj, w, fun _ => True, (a11 _ _ _ _ h hj).rep (fun _ _ => trivial) (fun _ _ => trivial)⟩
            · obtain ⟨u, q1, q2, q3⟩ := hcell (i - lo) row j x (by omega) h hj
              have hq := idx_lt q1
              have : cur'.getD (off + (i * te.size + j)) undef = u := by
                have hi' : i * te.size = lo * te.size + (i - lo) * te.size := by rw [← Nat.add_mul]; congr 1; omega
                rw [r9, if_pos (by omega), show off + (i * te.size + j) - (off + lo * te.size + 0) = (i - lo) * te.size + j by omega, List.getD_eq_getElem?_getD, q1]; rfl
              rw [this]
              exact ⟨q2, w, ok1, q3⟩)
        rw [hlen] at hR
        exact hR
theorem copy_ok (hT : TOk P T) (h : Sim w0 M R γ φ tv sv a w) {b : Nat} {ats : Array TypeId} {ty : TypeId} {te : TI} {s x : Operand} (hte : elemOf T (ats.getD 0 0) = some te) (hsz : 1 ≤ ats.size) {d : Dl}
    (hd : pCopy te.size (opv tv s) (opv tv x) sv = some d) : OpRes P w0 M R γ tv sv a w b (do pure (.value (← Builtin.copy_ ats ty #[a.eval s, a.eval x]))) d := by
  obtain ⟨e, hu, he⟩ := elemOf_some hT hte
  have h0 : ats[0]? = some (ats.getD 0 0) := getD_some (by omega)
  have hS := opv_ok h s
  have hX := opv_ok h x
  generalize opv tv s = ys at hd hS
  generalize opv tv x = yx at hd hX
  generalize a.eval x = vx at hX
  generalize a.eval s = vs at hS
  unfold pCopy at hd
  split at hd
  · rename_i y B m lo n hr
    have hRx := rowsOf_ok h hX hr
    split at hd
    · rename_i y' A hb
      split at hd
      · rename_i hc
        obtain ⟨rfl, c2, c3, c4⟩ := hc
        split at hd
        · rename_i u hu'
          cases hd
          obtain ⟨v0', z', s1, s2⟩ := hS
          obtain ⟨_, k1, _⟩ := blkRows_ok h hb
          rw [s1] at k1
          cases k1
          rw [c2] at s2 s1 hb
          -- of which kind?
          cases hm : sv m with
          | none => simp [blkRows, hm] at hb
          | some Bk => cases Bk with
            | ar z2 vr A2 =>
              simp [blkRows, hm] at hb
              obtain ⟨rfl, rfl⟩ := hb
              simp only [putRows, hm, cond_false, Option.some.injEq] at hu'
              subst hu'
              obtain ⟨v0, g1, g2⟩ := h.bk m _ hm
              rw [s1] at g1
              cases g1
              obtain ⟨w', r1, r2, r3, r4, r5, rk, r6, r7⟩ := own_copy (P := P) (ty := ty) hu he h0 g2 c4 c3 hRx s2
              have hs := h.set (blk_live hm) (B := .ar te.size vr (A2.take lo ++ B.take n ++ A2.drop (lo + min B.length n))) r2 r3 r4 rk r5 r6
                (fun k p i j v hk hs hp => by
                  subst hp
                  obtain ⟨a0, a1, a2⟩ := h.bk k _ hs
                  refine ⟨a0, a1, fun zp v' rp hh => ?_⟩
                  rw [upd_self] at hh
                  cases hh
                  refine ⟨(a2 _ _ _ hm).1, fun _ z3 r3 hn => ?_⟩
                  exfalso
                  obtain ⟨row, hr1, hr2⟩ := nest_some hn
                  have hmem := List.mem_of_getElem? hr1
                  simp only [List.mem_append] at hmem
                  have : isSc (.sl true z3 r3) = true := by
                    rcases hmem with (h | h) | h
                    · exact List.all_eq_true.1 (List.all_eq_true.1 c4 row (List.mem_of_mem_take h)) _ (List.mem_of_getElem? hr2)
                    · exact List.all_eq_true.1 (List.all_eq_true.1 c3 row (List.mem_of_mem_take h)) _ (List.mem_of_getElem? hr2)
                    · exact List.all_eq_true.1 (List.all_eq_true.1 c4 row (List.mem_of_mem_drop h)) _ (List.mem_of_getElem? hr2)
                  simp [isSc] at this)
                (fun k p v seen hk hs hp => by
                  obtain ⟨a0, b2, born, last, a1, a2, _⟩ := h.bk k _ hs
                  exact ⟨a0, b2, born, last, a1, a2, fun v' es hh => by subst hp; rw [upd_self] at hh; cases hh⟩)
                (fun hok => ⟨v0', s1, r7 _⟩)
              exact ⟨_, w', γ, φ, .inl (by simp only [Sem.run_bind, r1, Result.andThen_ok, Sem.run_pure]), fun _ _ => rfl, hs.1, rep_sc' rfl⟩
            | sb p i j v =>
              obtain ⟨zp, rp, z1, r1, r2, k1, k2, k3, rfl⟩ := putRows_sb hm hu'
              have hbr : blkRows sv m = some (z1, r1) := by simp [blkRows, hm, k1, k2]
              rw [hbr] at hb
              cases hb
              cases k3
              obtain ⟨G, u0, g1, g2, g3, g4⟩ := h.nest hm k1 k2
              rw [s1] at g1
              cases g1
              obtain ⟨w', r1, r2, r3, r4, r5, rk, r6, r7⟩ := own_copy (P := P) (ty := ty) hu he h0 g2 c4 c3 hRx s2
              exact ⟨_, w', γ, φ, .inl (by simp only [Sem.run_bind, r1, Result.andThen_ok, Sem.run_pure]), fun _ _ => rfl, g4 w' _ r2 r3 r4 r5 rk r6 (fun ok' _ => r7 ok'), rep_sc' rfl⟩
            | fz z2 A2 => simp [putRows, hm] at hu'
            | bx c => simp [blkRows, hm] at hb
            | mp v es => simp [blkRows, hm] at hb
            | it p v seen => simp [blkRows, hm] at hb
            | im rem last => simp [blkRows, hm] at hb
        · cases hd
      · cases hd
    · cases hd
  · cases hd
end
end Go.Proofs.YtkkmgjhfjhcdmaaGreatDoor.Mx

namespace Go.Proofs.YtkkmgjhfjhcdmaaGreatDoor.Mx
open Go Go.RowKit
section
variable {w0 : World} {M R : Nat → Prop} {γ : Gs} {φ : Fp} {tv : Tv} {sv : Sv} {a : Act} {w w' : World} {P : Program} {T : Ty} {ok ok' : Nat → Prop}
theorem kkey_inv {k : TK} {q : Value} (h : kkey k q = true) : (k = .str ∧ ∃ s, q = .string s) ∨ (k = .int .i64 ∧ ∃ n, q = .int .i64 n) := by
  unfold kkey at h
  split at h
  · split at h
    · exact .inl ⟨rfl, _, rfl⟩
    · cases h
  · split at h
    · exact .inr ⟨rfl, _, rfl⟩
    · cases h
  · cases h
def kidx : List (Value × Value) → Value → Nat → Option (Nat × Value)
  | [], _, _ => none
  | (k, v) :: r, q, i => bif keq k q then some (i, v) else kidx r q (i + 1)
theorem kidx_get (es : List (Value × Value)) (q : Value) (i : Nat) : (kidx es q i).map (·.2) = kget es q := by
  induction es generalizing i with
  | nil => rfl
  | cons e es ih =>
    obtain ⟨k, v⟩ := e
    simp only [kidx, kget]
    cases keq k q <;> simp [ih]
theorem findNow_ok {kt : TypeId} {tk : TK} {kind : TypeDesc} (hk : KindOk P kt tk) (hkd : P.underlying kt = some kind) {q : Value} (hq : kkey tk q = true) : ∀ (l : List MapEntry) (i : Nat), kok tk (l.map fun e => (e.key, e.val)) = true →
    Instr.findNow kind q l i = some (kidx (l.map fun e => (e.key, e.val)) q i)
  | [], i, _ => rfl
  | e :: l, i, h => by
    simp only [kok, List.map_cons, List.all_cons, Bool.and_eq_true] at h
    have ih := findNow_ok hk hkd hq l (i + 1) h.2
    have hs : Instr.sameNow kind q e.key = some (keq e.key q) := by
      rcases kkey_inv hq with ⟨rfl, s, rfl⟩ | ⟨rfl, n, rfl⟩
      · rcases kkey_inv h.1 with ⟨_, s', hs'⟩ | ⟨hc, _⟩
        · have : kind = .string := by have hk : P.underlying kt = some .string := hk; rw [hk] at hkd; cases hkd; rfl
          subst this
          have hs' : e.key = _ := hs'
          rw [hs']
          simp only [Instr.sameNow, keq, beq_toListBytes, eqs_eq]
        · cases hc
      · rcases kkey_inv h.1 with ⟨hc, _⟩ | ⟨_, n', hs'⟩
        · cases hc
        · have : kind = .int .i64 := by have hk : P.underlying kt = some (.int .i64) := hk; rw [hk] at hkd; cases hkd; rfl
          subst this
          have hs' : e.key = _ := hs'
          rw [hs']
          simp only [Instr.sameNow, keq, if_true]
          rfl
    simp only [List.map_cons, Instr.findNow, hs, kidx]
    cases keq e.key q
    · simpa using ih
    · rfl
theorem checkKey_ok {kt : TypeId} {tk : TK} (hk : KindOk P kt tk) {q : Value} (hq : kkey tk q = true) (b : Bool) : (Instr.checkKey b 10000 kt q).run P w = .ok () w := by
  rcases kkey_inv hq with ⟨rfl, s, rfl⟩ | ⟨rfl, n, rfl⟩
  · show (Instr.checkKey b (9999 + 1) kt (.string s)).run P w = _
    unfold Instr.checkKey
    simp only [Sem.run_bind, run_underlying (show P.underlying kt = some .string from hk), Result.andThen_ok, Sem.run_pure]
  · show (Instr.checkKey b (9999 + 1) kt (.int .i64 n)).run P w = _
    unfold Instr.checkKey
    simp only [Sem.run_bind, run_underlying (show P.underlying kt = some (.int .i64) from hk), Result.andThen_ok, Sem.run_pure]
theorem findKey_ok {kt : TypeId} {tk : TK} (hk : KindOk P kt tk) {q : Value} (hq : kkey tk q = true) {l : List MapEntry} (h : kok tk (l.map fun e => (e.key, e.val)) = true) : (Instr.findKey kt q l).run P w = .ok (kidx (l.map fun e => (e.key, e.val)) q 0) w := by
  have ⟨kind, hkd⟩ : ∃ kind, P.underlying kt = some kind := by
    rcases kkey_inv hq with ⟨rfl, _⟩ | ⟨rfl, _⟩ <;> exact ⟨_, hk⟩
  simp only [Instr.findKey, Sem.run_bind, run_underlying hkd, Result.andThen_ok, findNow_ok hk hkd hq l 0 h, Sem.run_pure]
theorem entries_ok (h : Sim w0 M R γ φ tv sv a w) {v : Value} {x : AV} {es : List (Value × Value)} (hv : RepV w (okOf w0 M R φ sv w) γ v x) (hx : entries sv x = some es) : ∃ r ents clock, v = .map (some r) ∧ w.heap[r]? = some (.map ents clock) ∧ ents.toList.map (fun e => (e.key, e.val)) = es := by
  unfold entries at hx
  split at hx
  · cases hx
    have hv : Rep w _ v (.mc es) := hv
    cases hv with
    | mc r ents clock _ h1 h2 h3 _ => exact ⟨r, ents, clock, rfl, h2, h3⟩
  · rename_i m
    split at hx
    · rename_i ver es' hm
      cases hx
      obtain ⟨r, z, rfl, g⟩ := hv
      obtain ⟨r', ents, clock, k1, k2, k3, k4, k5⟩ := h.bk m _ hm
      rw [g] at k1
      cases k1
      exact ⟨r, ents, clock, rfl, k3, k4⟩
    · cases hx
  · cases hx
theorem kget_plain {es : List (Value × Value)} {q v : Value} (h : es.all (fun e => plain e.2) = true) (hg : kget es q = some v) : plain v = true := by
  induction es with
  | nil => simp [kget] at hg
  | cons e es ih =>
    obtain ⟨k, u⟩ := e
    simp only [List.all_cons, Bool.and_eq_true] at h
    simp only [kget] at hg
    cases hk : keq k q
    · rw [hk] at hg; exact ih h.2 hg
    · rw [hk] at hg; cases hg; exact h.1
theorem lookup_ok (hT : TOk P T) (h : Sim w0 M R γ φ tv sv a w) {t : TypeId} {x k : Operand} {ok : Bool} {y : AV} (hy : pLookup T t (opv tv x) (opv tv k) ok sv = some y) : ∃ u, (Instr.lookup t (a.eval x) (a.eval k) ok).run P w = .ok u w ∧ RepV w (okOf w0 M R φ sv w) γ u y := by
  have hX := opv_ok h x
  have hK := opv_ok h k
  generalize opv tv x = yx at hy hX
  generalize opv tv k = yk at hy hK
  generalize a.eval x = vx at hX
  generalize a.eval k = vk at hK
  unfold pLookup at hy
  split at hy
  · rename_i ti hti
    have hkd := (hT t ti hti).kd
    generalize ti.kind = tk0 at hy hkd
    split at hy
    · rename_i kt et
      split at hy
      · rename_i tk te htk hte
        have hkk := (hT kt tk htk).kd
        split at hy
        · rename_i es q z hes hz
          split at hy
          · rename_i hc
            obtain ⟨c1, c2, c3, c4, c5⟩ := hc
            cases hy
            obtain ⟨e1, _⟩ := rep_sc hK
            have e1 := e1.symm
            subst e1
            obtain ⟨r, ents, clock, rfl, hh, he⟩ := entries_ok h hX hes
            obtain ⟨i, z', i1, i2, i3⟩ := (hT et te hte).zs c4
            rw [hz] at i3
            cases i3
            have hck := checkKey_ok (P := P) (w := w) hkk c2 ents.isEmpty
            have hfk := findKey_ok (P := P) (w := w) hkk c2 (l := ents.toList) (by rw [he]; exact c1)
            rw [he] at hfk
            have hget := kidx_get es q 0
            have hgo : (getObj r).run P w = .ok (.map ents clock) w := by simp [getObj, Sem.run, hh]
            have hzv : (zeroValue et).run P w = .ok z w := by simp [zeroValue, typeInfo, i1, i2]
            cases hki : kidx es q 0 with
            | none =>
              rw [hki] at hget hfk
              have hg : kget es q = none := by rw [← hget]; rfl
              refine ⟨if ok then .tuple #[z, .bool false] else z, ?_, ?_⟩
              · simp only [Instr.lookup, Sem.run_bind, run_underlying (show P.underlying t = _ from hkd), Result.andThen_ok, hgo, Sem.run_pure, hck, hfk, hzv]
              · cases ok
                · simp only [hg, Option.getD_none, cond_false]; exact rep_sc' c3
                · refine ⟨[z, .bool false], by simp, rfl, fun j v x hv hx => ?_⟩
                  match j with
                  | 0 => simp at hv hx; subst hv hx; simp [hg]; exact Rep.sc _ c3
                  | 1 => simp at hv hx; subst hv hx; simp [hg]; exact Rep.sc _ rfl
                  | j + 2 => simp at hv
            | some iv =>
              obtain ⟨i', v⟩ := iv
              rw [hki] at hget hfk
              have hg : kget es q = some v := by rw [← hget]; rfl
              have hp := kget_plain c5 hg
              refine ⟨if ok then .tuple #[v, .bool true] else v, ?_, ?_⟩
              · simp only [Instr.lookup, Sem.run_bind, run_underlying (show P.underlying t = _ from hkd), Result.andThen_ok, hgo, Sem.run_pure, hck, hfk]
              · cases ok
                · simp only [hg, Option.getD_some, cond_false]; exact rep_sc' hp
                · refine ⟨[v, .bool true], by simp, rfl, fun j v' x hv hx => ?_⟩
                  match j with
                  | 0 => simp at hv hx; subst hv hx; simp [hg]; exact Rep.sc _ hp
                  | 1 => simp at hv hx; subst hv hx; simp [hg]; exact Rep.sc _ rfl
                  | j + 2 => simp at hv
          · cases hy
        · cases hy
      · cases hy
    · cases hy
  · cases hy
theorem makeMap_ok (h : Sim w0 M R γ φ tv sv a w) {b : Nat} (hf : Fresh γ b) {t : TypeId} : OpRes P w0 M R γ tv sv a w b (do pure (.value (← Instr.makeMap t none))) ⟨.mv b, [(b, some (.mp 0 []))]⟩ := by
  have hb := hf b (Nat.le_refl _) (by omega)
  have hrun : (Instr.makeMap t none).run P w = .ok (.map (some w.heap.size)) (w.alloc (.map #[] 0)) := by simp [Instr.makeMap]
  have hs := (h.new hb [] (fun k hk => by cases hk) (w' := w.alloc (.map #[] 0)) (g := (.map (some w.heap.size), 0)) (F := fun c => c = w.heap.size) (B := .mp 0 []) rfl rfl rfl (Kp.old fun k hk => by rw [alloc_heap, if_neg (by omega)]) (by rw [alloc_size]; omega)
    (fun c hc _ => by rw [alloc_heap, if_neg (by omega)]) (fun c hc => by subst hc; rw [alloc_size]; exact ⟨by omega, .inl (Nat.le_refl _)⟩)
    (fun hok => ⟨_, #[], 0, γN_self, by rw [φN_self], by rw [alloc_heap, if_pos rfl], rfl, ⟨fun i e hi => by simp at hi, fun i j e f hi => by simp at hi⟩⟩)).1
  exact ⟨_, _, _, _, .inl (by simp only [Sem.run_bind, hrun, Result.andThen_ok, Sem.run_pure]), fun k hk => by rw [γN_ne (by omega)], hs, _, 0, rfl, γN_self⟩
theorem kidx_set (es : List (Value × Value)) (q u : Value) (k0 : Nat) : (∀ i v, kidx es q k0 = some (i, v) → k0 ≤ i ∧ i - k0 < es.length ∧ ∃ k, es[i - k0]? = some (k, v) ∧ keq k q = true ∧ kset es q u = es.set (i - k0) (k, u)) ∧ (kidx es q k0 = none → kset es q u = es ++ [(q, u)]) := by
  induction es generalizing k0 with
  | nil => exact ⟨fun i v h => by simp [kidx] at h, fun _ => rfl⟩
  | cons e es ih =>
    obtain ⟨k, v⟩ := e
    obtain ⟨i1, i2⟩ := ih (k0 + 1)
    constructor
    · intro i v' h
      simp only [kidx] at h
      cases hk : keq k q
      · rw [hk] at h
        simp only [cond_false] at h
        obtain ⟨h1, h2, k', h3, h4, h5⟩ := i1 i v' h
        refine ⟨by omega, by simp; omega, k', ?_, h4, ?_⟩
        · rw [show i - k0 = (i - (k0 + 1)) + 1 by omega]; simpa using h3
        · rw [show i - k0 = (i - (k0 + 1)) + 1 by omega]
          simp [kset, hk, h5]
      · rw [hk] at h
        simp only [cond_true, Option.some.injEq, Prod.mk.injEq] at h
        obtain ⟨rfl, rfl⟩ := h
        exact ⟨Nat.le_refl _, by simp, k, by simp, hk, by simp [kset, hk]⟩
    · intro h
      simp only [kidx] at h
      cases hk : keq k q
      · rw [hk] at h
        simp only [cond_false] at h
        simp [kset, hk, i2 h]
      · rw [hk] at h; cases h
theorem keq_same {k q : Value} (h : keq k q = true) : k = q := by
  unfold keq at h
  split at h
  · have : _ = _ := of_decide_eq_true h
    rw [this]
  · have : _ = _ := of_decide_eq_true h
    rw [this]
  · cases h
theorem sameBits_self {q : Value} {tk : TK} (h : kkey tk q = true) : Instr.sameBits 10000 q q = true := by
  rcases kkey_inv h with ⟨_, s, rfl⟩ | ⟨_, n, rfl⟩
  · have : (s == s) = true := by rw [beq_toListBytes]; simp
    simp [Instr.sameBits, this]
  · simp [Instr.sameBits]
theorem set_map_obj (w : World) (r : Nat) (o : Obj) (k : Nat) : ({ w with heap := w.heap.setIfInBounds r o } : World).heap[k]? = if k = r ∧ r < w.heap.size then some o else w.heap[k]? := by
  show (w.heap.setIfInBounds r o)[k]? = _
  rw [Array.getElem?_setIfInBounds]
  by_cases h : r = k
  · subst h
    by_cases h2 : r < w.heap.size
    · simp [h2]
    · simp [h2, Array.getElem?_eq_none (by omega : w.heap.size ≤ r)]
  · simp [h, Ne.symm h]
theorem mapSet_ok (hT : TOk P T) (h : Sim w0 M R γ φ tv sv a w) {b : Nat} {t : TypeId} {x k v : Operand} {d : Dl} (hd : pMapSet T t (opv tv x) (opv tv k) (opv tv v) sv = some d) : OpRes P w0 M R γ tv sv a w b (do Instr.mapUpdate t (a.eval x) (a.eval k) (a.eval v); pure .skip) d := by
  have hX := opv_ok h x
  have hK := opv_ok h k
  have hV := opv_ok h v
  generalize opv tv x = yx at hd hX
  generalize opv tv k = yk at hd hK
  generalize opv tv v = yv at hd hV
  generalize a.eval x = vx at hX
  generalize a.eval k = vk at hK
  generalize a.eval v = vv at hV
  unfold pMapSet at hd
  split at hd
  · rename_i ti hti
    have hkd := (hT t ti hti).kd
    generalize ti.kind = tk0 at hd hkd
    split at hd
    · rename_i kt et
      split at hd
      · rename_i tk htk
        have hkk := (hT kt tk htk).kd
        split at hd
        · rename_i m q u
          split at hd
          · rename_i ver es hm
            split at hd
            · rename_i hc
              obtain ⟨c1, c2⟩ := hc
              cases hd
              obtain ⟨e1, _⟩ := rep_sc hK
              have e1 := e1.symm
              subst e1
              obtain ⟨e2, hup⟩ := rep_sc hV
              have e2 := e2.symm
              subst e2
              obtain ⟨r, z, rfl, g⟩ := hX
              obtain ⟨r', ents, clock, k1, k2, k3, k4, k5⟩ := h.bk m _ hm
              rw [g] at k1
              cases k1
              have hck := checkKey_ok (P := P) (w := w) hkk c2 false
              have hfk := findKey_ok (P := P) (w := w) hkk c2 (l := ents.toList) (by rw [k4]; exact c1)
              rw [k4] at hfk
              have hgo : (getObj r).run P w = .ok (.map ents clock) w := by simp [getObj, Sem.run, k3]
              have hlt : r < w.heap.size := (Array.getElem?_eq_some_iff.1 k3).1
              have hso : ∀ o, (setObj r o).run P w = .ok () { w with heap := w.heap.setIfInBounds r o } := fun o => by simp [setObj, Sem.run, k3]
              have fin : ∀ (ents' : Array MapEntry) (clock' : Nat), (Instr.mapUpdate t (.map (some r)) q u).run P w = .ok () { w with heap := w.heap.setIfInBounds r (.map ents' clock') } → ents'.toList.map (fun e => (e.key, e.val)) = kset es q u → Births ents' clock' →
                  OpRes P w0 M R γ tv sv a w b (do Instr.mapUpdate t (.map (some r)) q u; pure .skip) ⟨.tu [], [(m, some (.mp (ver + 1) (kset es q u)))]⟩ := by
                intro ents' clock' hrun he hb
                have hs := h.set (blk_live hm) (w' := { w with heap := w.heap.setIfInBounds r (.map ents' clock') }) (B := .mp (ver + 1) (kset es q u)) rfl rfl rfl (fun n c e' fr' hn => ⟨c, (by rw [set_map_obj, if_neg (by rintro ⟨rfl, _⟩; rw [k3] at hn; cases hn)]; exact hn), rfl⟩) (by simp) (fun c hc => by rw [set_map_obj, if_neg]; rintro ⟨rfl, _⟩; exact hc k2)
                  (fun k p i j v hk hs hp => ⟨(h.bk k _ hs).1, (h.bk k _ hs).2.1, fun zp v' rp hh => by subst hp; rw [upd_self] at hh; cases hh⟩)
                  (fun k p v seen hk hs hp => by
                    obtain ⟨h0, b2, born, last, h1, h2, h3⟩ := h.bk k _ hs
                    refine ⟨h0, b2, born, last, h1, h2, fun v' es' hh => ?_⟩
                    subst hp
                    rw [upd_self] at hh
                    cases hh
                    have := (h3 ver es hm).1
                    exact ⟨by omega, fun e => by omega⟩)
                  (fun hok => ⟨r, ents', clock', g, k2, by rw [set_map_obj, if_pos ⟨rfl, hlt⟩], he, hb⟩)
                exact opres_skip hrun (fun _ _ => rfl) hs.1 rfl
              obtain ⟨s1, s2⟩ := kidx_set es q u 0
              cases hki : kidx es q 0 with
              | none =>
                rw [hki] at hfk
                refine fin (ents.push { key := q, val := u, born := clock }) (clock + 1) ?_ ?_ ?_
                · simp only [Instr.mapUpdate, Sem.run_bind, run_underlying (show P.underlying t = _ from hkd), Result.andThen_ok, hgo, hck, hfk, hso]
                · rw [s2 hki, ← k4]; simp
                · refine ⟨fun i e hi => ?_, fun i j e f hi hj he => ?_⟩
                  · rw [Array.getElem?_push] at hi
                    split at hi
                    · cases hi; simp
                    · have := k5.1 i e hi; omega
                  · rw [Array.getElem?_push] at hi hj
                    split at hi <;> split at hj
                    · omega
                    · cases hi; have := k5.1 j f hj; simp at he; omega
                    · cases hj; have := k5.1 i e hi; simp at he; omega
                    · exact k5.2 i j e f hi hj he
              | some iv =>
                obtain ⟨i, v⟩ := iv
                rw [hki] at hfk
                obtain ⟨_, t2, k', t3, t4, t5⟩ := s1 i v hki
                rw [Nat.sub_zero] at t2 t3 t5
                have hkk' := keq_same t4
                subst hkk'
                have hel : i < ents.size := by rw [← k4] at t2; simpa using t2
                have hei : ents[i]? = some ents[i] := Array.getElem?_eq_getElem hel
                have hkey : ents[i].key = k' := by
                  rw [← k4, List.getElem?_map] at t3
                  simp [hel] at t3
                  exact t3.1
                have hks : (Instr.keyThatStays (((ents[i]?).map (·.key)).getD k') k').run P w = .ok k' w := by
                  rw [hei]
                  simp [hkey, Instr.keyThatStays, sameBits_self c2]
                refine fin (ents.modify i fun e => { e with key := k', val := u }) clock ?_ ?_ ?_
                · simp only [Instr.mapUpdate, Sem.run_bind, run_underlying (show P.underlying t = _ from hkd), Result.andThen_ok, hgo, hck, hfk, hks, hso]
                · rw [t5, ← k4]
                  apply List.ext_getElem?
                  intro j
                  rw [List.getElem?_set, List.getElem?_map]
                  simp only [Array.getElem?_toList, Array.getElem?_modify, List.length_map, Array.length_toList]
                  by_cases hij : i = j
                  · subst hij
                    simp [hel]
                  · simp [hij]
                · have key : ∀ (j : Nat) (e : MapEntry), (ents.modify i fun e => { e with key := k', val := u })[j]? = some e → ∃ e0 : MapEntry, ents[j]? = some e0 ∧ e0.born = e.born := fun j e hj => by
                    rw [Array.getElem?_modify] at hj
                    split at hj
                    · cases h0 : ents[j]? with
                      | none => rw [h0] at hj; cases hj
                      | some e0 => rw [h0] at hj; cases hj; exact ⟨e0, rfl, rfl⟩
                    · exact ⟨e, hj, rfl⟩
                  refine ⟨fun j e hj => ?_, fun j j' e f hj hj' he => ?_⟩
                  · obtain ⟨e0, h1, h2⟩ := key j e hj
                    have := k5.1 j e0 h1; omega
                  · obtain ⟨e0, h1, h2⟩ := key j e hj
                    obtain ⟨f0, h3, h4⟩ := key j' f hj'
                    exact k5.2 j j' e0 f0 h1 h3 (by omega)
            · cases hd
          · cases hd
        · cases hd
      · cases hd
    · cases hd
  · cases hd
end
end Go.Proofs.YtkkmgjhfjhcdmaaGreatDoor.Mx

namespace Go.Proofs.YtkkmgjhfjhcdmaaGreatDoor.Mx
open Go Go.RowKit
section
variable {w0 : World} {M R : Nat → Prop} {γ : Gs} {φ : Fp} {tv : Tv} {sv : Sv} {a : Act} {w w' : World} {P : Program} {T : Ty} {ok ok' : Nat → Prop}
theorem range_ok (h : Sim w0 M R γ φ tv sv a w) {b : Nat} (hf : Fresh γ b) {t kt et : TypeId} (ht : P.underlying t = some (.map kt et)) {v : Value} {es : List (Value × Value)} (hv : Rep w (okOf w0 M R φ sv w) v (.mc es)) :
    OpRes P w0 M R γ tv sv a w b (do pure (.value (← Instr.range t v))) ⟨.pt b 0 0, [(b, some (.im es none))]⟩ := by
  have hb := hf b (Nat.le_refl _) (by omega)
  cases hv with
  | mc r ents clock _ h1 h2 h3 h4 =>
    have hu : (underlying t).run P w = .ok (.map kt et) w := by simp [underlying, ht]
    have hrun : (Instr.range t (.map (some r))).run P w = .ok (.pointer (some ⟨w.heap.size, 0, none⟩)) (w.alloc (.mapIter (some r) clock #[] clock)) := by
      simp [Instr.range, hu, getObj, Sem.run, h2]
    have hs := (h.new hb [] (fun k hk => by cases hk) (w' := w.alloc (.mapIter (some r) clock #[] clock)) (g := (.pointer (some ⟨w.heap.size, 0, none⟩), 0)) (F := fun c => c = w.heap.size) (B := .im es none) rfl rfl rfl (Kp.old fun k hk => by rw [alloc_heap, if_neg (by omega)]) (by rw [alloc_size]; omega)
      (fun c hc _ => by rw [alloc_heap, if_neg (by omega)]) (fun c hc => by subst hc; rw [alloc_size]; exact ⟨by omega, .inl (Nat.le_refl _)⟩)
      (fun hok => ⟨_, r, ents, clock, #[], γN_self, by rw [φN_self], by rw [alloc_heap, if_pos rfl], (hok r h1).1, (hok r h1).2.trans h2, h4, by rw [← h3]; congr 1; exact List.filter_eq_self.2 (by simp), fun kv hkv => by cases hkv⟩)).1
    exact ⟨_, _, _, _, .inl (by simp only [Sem.run_bind, hrun, Result.andThen_ok, Sem.run_pure]), fun k hk => by rw [γN_ne (by omega)], hs, _, 0, γN_self, rfl, rfl⟩
theorem range_mv (h : Sim w0 M R γ φ tv sv a w) {b : Nat} (hf : Fresh γ b) {t kt et : TypeId} (ht : P.underlying t = some (.map kt et)) {v : Value} {m ver : Nat} {es : List (Value × Value)} (hm : sv m = some (.mp ver es)) (hv : RepV w (okOf w0 M R φ sv w) γ v (.mv m)) :
    OpRes P w0 M R γ tv sv a w b (do pure (.value (← Instr.range t v))) ⟨.pt b 0 0, [(m, none), (b, some (.im es none))]⟩ := by
  obtain ⟨r, ents, clock, k1, k2, k3, k4, k5⟩ := h.bk m _ hm
  obtain ⟨r', z, rfl, hg⟩ := hv
  rw [k1] at hg
  cases hg
  have h' := h.kill m
  have hl : live sv m := by unfold live; rw [hm]; rfl
  refine range_ok h' hf ht (.mc r ents clock es ⟨(h.nw m r hl k2).1, .inr (h.nw m r hl k2).2, fun n hn hn2 => ?_⟩ k3 k4 k5)
  by_cases e : m = n
  · subst e; unfold live at hn; rw [upd_self] at hn; cases hn
  · unfold live at hn; rw [upd_ne e] at hn
    exact h.dj m n hl hn e r k2 hn2
theorem filter_cut {ents : Array MapEntry} {clock : Nat} (hB : Births ents clock) {born : Array Nat} {e : MapEntry} (he : e ∈ ents.toList) (hp : born.contains e.born = false) :
    (ents.toList.filter fun x => !born.contains x.born).Perm (e :: ents.toList.filter fun x => !(born.push e.born).contains x.born) := by
  obtain ⟨l1, l2, hl⟩ := List.append_of_mem he
  have key : ∀ x, (x ∈ l1 ∨ x ∈ l2) → x.born ≠ e.born := by
    intro x hx hb
    have he' : ents[l1.length]? = some e := by rw [← Array.getElem?_toList, hl]; simp
    rcases hx with hx | hx
    · obtain ⟨j, hj⟩ := List.mem_iff_getElem?.1 hx
      have hjl := (List.getElem?_eq_some_iff.1 hj).1
      have : ents[j]? = some x := by rw [← Array.getElem?_toList, hl, List.getElem?_append_left hjl]; exact hj
      have := hB.2 j l1.length x e this he' hb
      omega
    · obtain ⟨j, hj⟩ := List.mem_iff_getElem?.1 hx
      have : ents[l1.length + (j + 1)]? = some x := by rw [← Array.getElem?_toList, hl, List.getElem?_append_right (by omega)]; simpa using hj
      have := hB.2 _ l1.length x e this he' hb
      omega
  have same : ∀ l : List MapEntry, (∀ x ∈ l, x.born ≠ e.born) → (l.filter fun x => !(born.push e.born).contains x.born) = l.filter fun x => !born.contains x.born := fun l hl => by
    apply List.filter_congr
    intro x hx
    have := hl x hx
    simp [Array.contains_push, this]
  rw [hl, List.filter_append, List.filter_append, List.filter_cons_of_pos (by simpa using hp), List.filter_cons_of_neg (by simp), same l1 fun x hx => key x (.inl hx), same l2 fun x hx => key x (.inr hx)]
  exact List.perm_middle
def cand (L : Array MapEntry) : Array (Option MapEntry) := (if L.isEmpty then #[none] else #[]) ++ L.map some
theorem next_ok (h : Sim w0 M R γ φ tv sv a w) {b m : Nat} {v : Value} {rem : List (Value × Value)} {last : Option (Value × Value)} (hm : sv m = some (.im rem last)) (hv : RepV w (okOf w0 M R φ sv w) γ v (.pt m 0 0)) {ty : TypeId} :
    (rem = [] ∧ OpRes P w0 M R γ tv sv a w b (do pure (.value (← Instr.next v false ty))) ⟨.tu [.sc (.bool false)], []⟩) ∨
    ∃ kv rem', rem.Perm (kv :: rem') ∧ (plain kv.1 = true → plain kv.2 = true → OpRes P w0 M R γ tv sv a w b (do pure (.value (← Instr.next v false ty))) ⟨.tu [.sc (.bool true), .sc kv.1, .sc kv.2], [(m, some (.im rem' (some kv)))]⟩) := by
  obtain ⟨bb, r, ents, clock, born, h1, h2, h3, h4, h5, h6, h7, h8⟩ := h.bk m _ hm
  obtain ⟨v0, z, hg, hp⟩ := hv
  rw [h1] at hg
  cases hg
  obtain ⟨_, rfl⟩ := hp
  have hold : ∀ x ∈ ents.toList, x.born < clock := fun x hx => by
    obtain ⟨j, hj⟩ := List.mem_iff_getElem?.1 hx
    exact h6.1 j x (by rw [← Array.getElem?_toList]; exact hj)
  have htest := next_test_false born ents clock clock hold (Nat.le_refl _)
  have hgb : (getObj bb).run P w = .ok (.mapIter (some r) clock born clock) w := by simp [getObj, Sem.run, h3]
  have hgr : (getObj r).run P w = .ok (.map ents clock) w := by simp [getObj, Sem.run, h5]
  have hmem : ∀ x ∈ (Array.filter (fun e => !born.contains e.born) ents).toList, x.born < clock := fun x hx => hold x (by simp at hx ⊢; exact hx.1)
  have hL : (Array.filter (fun e => !born.contains e.born) ents).toList = ents.toList.filter fun e => !born.contains e.born := by simp
  obtain ⟨L, hLd⟩ : ∃ L : Array MapEntry, L = Array.filter (fun e => !born.contains e.born) ents := ⟨_, rfl⟩
  rw [← hLd] at hmem hL
  have hrun0 : (Instr.next (.pointer (some ⟨bb, 0, none⟩)) false ty).run P w =
      ((choose (.mapNext (cand L).size)).run P w).andThen fun c w1 =>
        (match (cand L)[c]? with
        | some (some e) => (do setObj bb (.mapIter (some r) clock (born.push e.born) clock); pure (.tuple #[.bool true, e.key, e.val]) : Sem Value)
        | some none => pure (.tuple #[.bool false])
        | none => stuck "Next: no such candidate").run P w1 := by
    have e1 : L.filter (fun x => decide (x.born < clock)) = L := Array.filter_eq_self.2 (fun x hx => by simpa using hmem x (by simpa using hx))
    have e2 : L.filter (fun x => decide (x.born ≥ clock)) = #[] := by
      rw [Array.filter_eq_empty_iff]
      intro x hx
      have := hmem x (by simpa using hx)
      simp
      omega
    unfold cand
    simp only [Instr.next, Sem.run_bind, hgb, hgr, Result.andThen_ok, htest, Bool.false_eq_true, if_false, ← hLd, e1, e2, Array.append_empty]
    rfl
  rw [← hL] at h7
  clear hLd
  by_cases h0 : L.isEmpty = true
  · left
    have hL0 : L = #[] := by simpa using h0
    subst hL0
    refine ⟨by rw [← h7]; rfl, ?_⟩
    refine opres_pure h (v := .tuple #[.bool false]) ?_ ⟨[.bool false], rfl, rfl, fun j v x hv hx => ?_⟩
    · rw [hrun0]
      simp [cand, run_choose_drew, Question.forced]
    · cases j with
      | zero => simp at hv hx; subst hv; subst hx; exact .sc _ rfl
      | succ j => simp at hv
  · right
    have hpos : 0 < L.size := by
      rcases Nat.eq_zero_or_pos L.size with h | h
      · exact (h0 (by simp [Array.isEmpty, h])).elim
      · exact h
    have hcd : cand L = L.map some := by unfold cand; rw [if_neg h0]; simp
    rw [hcd] at hrun0
    obtain ⟨c, w1, hc, hsame, hch⟩ : ∃ c w1, c < L.size ∧ SameW w w1 ∧ (choose (.mapNext (L.map some).size)).run P w = .ok c w1 := by
      rw [run_choose_drew]
      split
      · exact ⟨0, w, hpos, SameW.refl w, rfl⟩
      · refine ⟨_, w.drew, ?_, SameW.drew w, rfl⟩
        show w.tape w.drawn _ % _ < _
        have := Nat.mod_lt (w.tape w.drawn (.mapNext (L.map some).size)) (show 0 < (L.map some).size by simpa using hpos)
        simpa using this
    rw [hch, Result.andThen_ok] at hrun0
    obtain ⟨e, he⟩ : ∃ e, L[c]? = some e := ⟨_, Array.getElem?_eq_getElem hc⟩
    have hce : (L.map some)[c]? = some (some e) := by simp [he]
    rw [hce] at hrun0
    have heL : e ∈ L.toList := by
      have := Array.mem_of_getElem? he
      simpa using this
    rw [hL, List.mem_filter] at heL
    have hbn : born.contains e.born = false := by simpa using heL.2
    have hb1 : w1.heap[bb]? = w.heap[bb]? := by rw [hsame.heap]
    have hlt : bb < w1.heap.size := by rw [hsame.heap]; exact (Array.getElem?_eq_some_iff.1 h3).1
    have hso : (setObj bb (.mapIter (some r) clock (born.push e.born) clock)).run P w1 = .ok () { w1 with heap := w1.heap.setIfInBounds bb (.mapIter (some r) clock (born.push e.born) clock) } := by simp [setObj, Sem.run, hb1, h3]
    refine ⟨(e.key, e.val), (ents.toList.filter fun x => !(born.push e.born).contains x.born).map fun e => (e.key, e.val), ?_, fun p1 p2 => ?_⟩
    · rw [← h7, hL]
      exact (filter_cut h6 heL.1 hbn).map _
    · have h' := h.same hsame
      have hne : r ≠ bb := fun e => by rw [e, h3] at h5; cases h5
      have hs := h'.set (blk_live hm) (w' := { w1 with heap := w1.heap.setIfInBounds bb (.mapIter (some r) clock (born.push e.born) clock) }) (B := .im ((ents.toList.filter fun x => !(born.push e.born).contains x.born).map fun e => (e.key, e.val)) (some (e.key, e.val))) rfl rfl rfl
        (fun n c' e' fr' hn => ⟨c', (by rw [set_map_obj, if_neg (by rintro ⟨rfl, _⟩; rw [hb1, h3] at hn; cases hn)]; exact hn), rfl⟩) (by simp) (fun c' hc' => by rw [set_map_obj, if_neg (by rintro ⟨rfl, _⟩; exact hc' h2)])
        (fun k p i j v hk hs hp => ⟨(h'.bk k _ hs).1, (h'.bk k _ hs).2.1, fun zp v' rp hh => by subst hp; rw [upd_self] at hh; cases hh⟩)
        (fun k p v seen hk hs hp => by
          obtain ⟨h0, b2, born2, last2, g1, g2, g3⟩ := h'.bk k _ hs
          refine ⟨h0, b2, born2, last2, g1, g2, fun v' es' hh => ?_⟩
          subst hp
          rw [upd_self] at hh
          cases hh)
        (fun hok => by
          have hr1 : okOf w0 M R φ sv w1 r := by unfold okOf at h4 ⊢; rw [hsame.heap]; exact h4
          exact ⟨bb, r, ents, clock, born.push e.born, h1, h2, by rw [set_map_obj, if_pos ⟨rfl, hlt⟩], (hok r hr1).1, (hok r hr1).2.trans (by rw [hsame.heap]; exact h5), h6, rfl, fun kv hkv => by cases hkv; exact ⟨e, heL.1, rfl, by simp⟩⟩)
      refine ⟨.tuple #[.bool true, e.key, e.val], _, _, _, .inl ?_, fun _ _ => rfl, hs.1, ⟨[.bool true, e.key, e.val], rfl, rfl, fun j v x hv hx => ?_⟩⟩
      · simp only [Sem.run_bind, hrun0, hso, Result.andThen_ok, Sem.run_pure]
      · match j, hv, hx with
        | 0, hv, hx => simp at hv hx; subst hv; subst hx; exact .sc _ rfl
        | 1, hv, hx => simp at hv hx; subst hv; subst hx; exact .sc _ p1
        | 2, hv, hx => simp at hv hx; subst hv; subst hx; exact .sc _ p2
        | j + 3, hv, hx => simp at hv
theorem entry_ok (h : Sim w0 M R γ φ tv sv a w) {b m : Nat} {v : Value} {rem : List (Value × Value)} {kv : Value × Value} (hm : sv m = some (.im rem (some kv))) (hv : RepV w (okOf w0 M R φ sv w) γ v (.pt m 0 0)) (p1 : plain kv.1 = true) (p2 : plain kv.2 = true) :
    OpRes P w0 M R γ tv sv a w b (do pure (.value (← Instr.entry v))) ⟨.tu [.sc kv.1, .sc kv.2], []⟩ := by
  obtain ⟨bb, r, ents, clock, born, h1, h2, h3, h4, h5, h6, h7, h8⟩ := h.bk m _ hm
  obtain ⟨v0, z, hg, hp⟩ := hv
  rw [h1] at hg
  cases hg
  obtain ⟨_, rfl⟩ := hp
  obtain ⟨e, he, rfl, hb⟩ := h8 _ rfl
  have hgb : (getObj bb).run P w = .ok (.mapIter (some r) clock born clock) w := by simp [getObj, Sem.run, h3]
  have hgr : (getObj r).run P w = .ok (.map ents clock) w := by simp [getObj, Sem.run, h5]
  have hf : ents.find? (fun x => x.born == e.born) = some e := by
    rw [← Array.find?_toList]
    obtain ⟨l1, l2, hl⟩ := List.append_of_mem he
    rw [hl, List.find?_append, List.find?_eq_none.2, Option.none_or, List.find?_cons_of_pos (by simp)]
    intro x hx hxe
    have he' : ents[l1.length]? = some e := by rw [← Array.getElem?_toList, hl]; simp
    obtain ⟨j, hj⟩ := List.mem_iff_getElem?.1 hx
    have hjl := (List.getElem?_eq_some_iff.1 hj).1
    have : ents[j]? = some x := by rw [← Array.getElem?_toList, hl, List.getElem?_append_left hjl]; exact hj
    have := h6.2 j l1.length x e this he' (by simpa using hxe)
    omega
  refine opres_pure h (v := .tuple #[e.key, e.val]) ?_ ⟨[e.key, e.val], rfl, rfl, fun j v x hv hx => ?_⟩
  · simp only [Instr.entry, Sem.run_bind, hgb, hgr, Result.andThen_ok, hb]
    simp [hf]
  · match j, hv, hx with
    | 0, hv, hx => simp at hv hx; subst hv; subst hx; exact .sc _ p1
    | 1, hv, hx => simp at hv hx; subst hv; subst hx; exact .sc _ p2
    | j + 2, hv, hx => simp at hv
end
end Go.Proofs.YtkkmgjhfjhcdmaaGreatDoor.Mx

namespace Go.Proofs.YtkkmgjhfjhcdmaaGreatDoor.Mx
open Go Go.RowKit
section
variable {w0 : World} {M R : Nat → Prop} {γ : Gs} {φ : Fp} {tv : Tv} {sv : Sv} {a : Act} {w w' : World} {P : Program} {T : Ty} {ok ok' : Nat → Prop}
theorem opres_congr {b : Nat} {act act' : Sem Next} {d : Dl} (h : OpRes P w0 M R γ tv sv a w b act d) (he : act'.run P w = act.run P w) : OpRes P w0 M R γ tv sv a w b act' d := by
  obtain ⟨v, w', γ', φ', h1, h2⟩ := h
  exact ⟨v, w', γ', φ', by rw [he]; exact h1, h2⟩
theorem one_some {x : Option AV} {d : Dl} (h : one x = some d) : ∃ y, x = some y ∧ d = ⟨y, []⟩ := by
  unfold one at h
  split at h
  · cases h; exact ⟨_, rfl, rfl⟩
  · cases h
theorem optI_ok (h : Sim w0 M R γ φ tv sv a w) {x : Option Operand} {l : Option Int} (hl : optI tv x = some l) : (∀ n, l = some n → ∃ d, x.map a.eval = some (.int d n)) ∧ (l = none → x.map a.eval = none) ∧ (x = none ↔ l = none) := by
  unfold optI at hl
  split at hl
  · cases hl; exact ⟨fun n h => (by cases h), fun _ => rfl, by simp⟩
  · rename_i y
    split at hl
    · rename_i n hn
      cases hl
      obtain ⟨k, hk⟩ := toI_ok (opv_ok h y) hn
      exact ⟨fun m hm => by cases hm; exact ⟨k, by simp [hk]⟩, fun h => (by cases h), by simp⟩
    · cases hl
theorem nil_run {t : TypeId} {ms : Array (String × TypeId)} (hk : P.underlying t = some (.interface ms)) {x y : Operand} (hy : isC y = true) {op : BinOp} {q : Bool} {u : Value} {d : Dl} (hu : (u = .nilIface ∧ q = true) ∨ (q = false ∧ ∃ i v, u = .iface i v)) (hd : pNil op q = some d) :
    ∃ c, d = ⟨.sc (.bool c), []⟩ ∧ (do eqGuard op t x y u .nilIface; binOp op t u .nilIface : Sem Value).run P w = .ok (.bool c) w := by
  have ⟨v, hv⟩ : ∃ v, y = .const v := by
    unfold isC at hy
    split at hy
    · exact ⟨_, rfl⟩
    · cases hy
  subst hv
  have he : (Op.equal t u .nilIface).run P w = .ok q w := by
    show (Op.equalIn (9999 + 1) t u .nilIface).run P w = _
    unfold Op.equalIn
    rcases hu with ⟨rfl, rfl⟩ | ⟨rfl, i, v, rfl⟩ <;> simp only [Sem.run_bind, run_underlying hk, Result.andThen_ok, Sem.run_pure]
  unfold pNil at hd
  split at hd
  · cases hd
    refine ⟨q, rfl, ?_⟩
    have hg : (eqGuard .eql t x (.const v) u .nilIface).run P w = .ok () w := by
      rcases hu with ⟨rfl, rfl⟩ | ⟨rfl, i, v', rfl⟩ <;> simp [eqGuard]
    have hb : binOp .eql t u .nilIface = (do pure (.bool (← Op.equal t u .nilIface))) := by rcases hu with ⟨rfl, rfl⟩ | ⟨rfl, i, v', rfl⟩ <;> rfl
    simp only [Sem.run_bind, hg, Result.andThen_ok, hb, he, Sem.run_pure]
  · cases hd
    refine ⟨!q, rfl, ?_⟩
    have hg : (eqGuard .neq t x (.const v) u .nilIface).run P w = .ok () w := by
      rcases hu with ⟨rfl, rfl⟩ | ⟨rfl, i, v', rfl⟩ <;> simp [eqGuard]
    have hb : binOp .neq t u .nilIface = (do pure (.bool (!(← Op.equal t u .nilIface)))) := by rcases hu with ⟨rfl, rfl⟩ | ⟨rfl, i, v', rfl⟩ <;> rfl
    simp only [Sem.run_bind, hg, Result.andThen_ok, hb, he, Sem.run_pure]
  · cases hd
theorem bin_ok (hT : TOk P T) (h : Sim w0 M R γ φ tv sv a w) {b : Nat} {op : BinOp} {t u ty : TypeId} {x y : Operand} {d : Dl} (hd : aop T (.binOp op t x y u) ty b tv sv = some d) :
    OpRes P w0 M R γ tv sv a w b (do pure (.value (← (do eqGuard op t x y (a.eval x) (a.eval y); binOp op t (a.eval x) (a.eval y))))) d := by
  have hX := opv_ok h x
  have hY := opv_ok h y
  simp only [aop] at hd
  generalize opv tv x = yx at hd hX
  generalize opv tv y = yy at hd hY
  generalize a.eval x = vx at hX
  generalize a.eval y = vy at hY
  split at hd
  · rename_i p q
    obtain ⟨rfl, _⟩ := rep_sc hX
    obtain ⟨rfl, _⟩ := rep_sc hY
    split at hd
    · rename_i ti hti
      have hk := (hT t ti hti).kd
      generalize ti.kind = tk at hd hk
      split at hd
      · split at hd
        · rename_i v hv
          cases hd
          have hp : plain v = true := by unfold bopB at hv; split at hv <;> cases hv <;> rfl
          exact opres_pure h (beq_ok hk hv) (rep_sc' hp)
        · cases hd
      · cases hd
    · cases hd
  · obtain ⟨rfl, _⟩ := rep_sc hX
    obtain ⟨rfl, _⟩ := rep_sc hY
    split at hd
    · rename_i ti hti
      have hk := (hT t ti hti).kd
      generalize ti.kind = tk at hd hk
      split at hd
      · obtain ⟨ms, hk⟩ := hk
        rw [cond_eq_ite] at hd
        split at hd
        · rename_i hc
          obtain ⟨c, rfl, hr⟩ := nil_run (P := P) (w := w) (x := x) hk hc (.inl ⟨rfl, rfl⟩) hd
          exact opres_pure h hr (rep_sc' rfl)
        · cases hd
      · cases hd
    · cases hd
  · obtain ⟨rfl, _⟩ := rep_sc hY
    obtain ⟨it, iv, rfl⟩ := rep_er hX
    split at hd
    · rename_i ti hti
      have hk := (hT t ti hti).kd
      generalize ti.kind = tk at hd hk
      split at hd
      · obtain ⟨ms, hk⟩ := hk
        rw [cond_eq_ite] at hd
        split at hd
        · rename_i hc
          obtain ⟨c, rfl, hr⟩ := nil_run (P := P) (w := w) (x := x) hk hc (.inr ⟨rfl, it, iv, rfl⟩) hd
          exact opres_pure h hr (rep_sc' rfl)
        · cases hd
      · cases hd
    · cases hd
  · split at hd
    · rename_i v hv
      cases hd
      obtain ⟨rfl, _⟩ := rep_sc hX
      obtain ⟨rfl, _⟩ := rep_sc hY
      exact opres_pure h (bop_ok hv) (rep_sc' (bop_val hv))
    · cases hd
  · split at hd
    · rename_i ti hti
      split at hd
      · rename_i fs hk
        rw [cond_eq_ite] at hd
        split at hd
        · rename_i hc
          split at hd
          · rename_i q he
            cases hd
            exact opres_pure h (eqAg_ok hT hti hk hc hX hY he).1 (rep_sc' rfl)
          · rename_i q he
            cases hd
            exact opres_pure h (eqAg_ok hT hti hk hc hX hY he).2 (rep_sc' rfl)
          · cases hd
        · cases hd
      · cases hd
    · cases hd
  · cases hd
theorem builtin_ok (hT : TOk P T) (h : Sim w0 M R γ φ tv sv a w) {b : Nat} (hf : Fresh γ b) {bi : Builtin} {ats : Array TypeId} {ty : TypeId} {xs : Array Operand} {cs : Array Bool} {d : Dl} (hd : pBuiltin T bi ats.toList b xs.toList tv sv = some d) :
    OpRes P w0 M R γ tv sv a w b (builtin bi ats ty cs (xs.map a.eval)) d := by
  obtain ⟨xs⟩ := xs
  obtain ⟨ats⟩ := ats
  simp only at hd
  unfold pBuiltin at hd
  split at hd
  · rename_i x t
    split at hd
    · rename_i ti hti
      obtain ⟨y, hy, rfl⟩ := one_some hd
      obtain ⟨u, u1, u2⟩ := len_ok (P := P) (w := w) (hT _ ti hti) (ats := #[t]) rfl (ty := ty) (opv_ok h x) hy
      exact opres_congr (opres_pure (P := P) h u1 u2) (by simp [builtin])
    · cases hd
  · rename_i s x t u
    split at hd
    · rename_i te tx hte htx
      rw [cond_eq_ite] at hd
      split at hd
      · rename_i hs
        exact opres_congr (append_ok (P := P) (ty := ty) (ats := #[t, u]) hT h hf hte htx (by simp) hs hd) (by simp [builtin])
      · cases hd
    · cases hd
  · rename_i s x t u
    split at hd
    · rename_i te hte
      rw [cond_eq_ite] at hd
      split at hd
      · exact opres_congr (copy_ok (P := P) (ty := ty) (b := b) (ats := #[t, u]) hT h hte (by simp) hd) (by simp [builtin])
      · cases hd
    · cases hd
  · rename_i x y
    split at hd
    · rename_i k m k' n hx hy
      split at hd
      · rename_i hk
        subst hk
        cases hd
        have e1 := (rep_sc (hx ▸ opv_ok h x)).1
        have e2 := (rep_sc (hy ▸ opv_ok h y)).1
        refine opres_congr (opres_pure' (P := P) h (v := .int k (if n < m then n else m)) (rep_sc' rfl)) ?_
        simp [builtin, e1, e2, Builtin.min_, Builtin.min2]
      · cases hd
    · cases hd
  · rename_i x y
    split at hd
    · rename_i k m k' n hx hy
      split at hd
      · rename_i hk
        subst hk
        cases hd
        have e1 := (rep_sc (hx ▸ opv_ok h x)).1
        have e2 := (rep_sc (hy ▸ opv_ok h y)).1
        refine opres_congr (opres_pure' (P := P) h (v := .int k (if m < n then n else m)) (rep_sc' rfl)) ?_
        simp [builtin, e1, e2, Builtin.max_, Builtin.max2]
      · cases hd
    · cases hd
  · cases hd
theorem aop_ok (hT : TOk P T) (h : Sim w0 M R γ φ tv sv a w) {b : Nat} (hf : Fresh γ b) {o : Oper} {d : Dl} (hd : aop T o.op o.type b tv sv = some d) : OpRes P w0 M R γ tv sv a w b (execOp a.eval o) d := by
  obtain ⟨dst, op, ty, pos, af, g⟩ := o
  simp only at hd
  cases op with
  | move x => exact move_ok hT h hf hd
  | assign x => exact move_ok hT h hf (ty := ty) (by simpa only [aop] using hd)
  | pick c x y =>
    simp only [aop] at hd
    split at hd
    · rename_i q hc
      cases hd
      have e1 := (rep_sc (hc ▸ opv_ok h c)).1
      refine opres_congr (opres_pure' (P := P) h (v := if q then a.eval x else a.eval y) ?_) ?_
      · cases q
        · simpa using opv_ok h y
        · simpa using opv_ok h x
      · simp [execOp, e1, asBool]
    · cases hd
  | alloc e =>
    simp only [aop] at hd
    split at hd
    · rename_i ti hti
      cases hd
      exact alloc_ok hT h hf hti
    · cases hd
  | box e x =>
    simp only [aop] at hd
    split at hd
    · rename_i cs hcs
      cases hd
      exact box_ok h hf hcs
    · cases hd
  | load t p => exact load_ok hT h hf (ty := ty) hd
  | store t p x =>
    simp only [aop] at hd
    split at hd
    · rename_i ti hti
      exact store_ok hT h hti hd
    · cases hd
  | nilCheck x =>
    simp only [aop] at hd
    have hX := opv_ok h x
    generalize opv tv x = y at hd hX
    split at hd
    · rename_i m i j
      cases hd
      refine opres_congr (opres_pure' (P := P) h hX) ?_
      obtain ⟨v0, z, _, hp⟩ := hX
      have ⟨ad, he⟩ : ∃ ad, a.eval x = .pointer (some ad) := by
        unfold PtAt at hp
        split at hp
        · exact ⟨_, hp.2⟩
        · exact ⟨_, hp.2⟩
        · exact hp.elim
      simp [execOp, he]
    · rename_i o cs
      cases hd
      refine opres_congr (opres_pure' (P := P) h hX) ?_
      have hX : Rep w _ (a.eval x) (.pb o cs) := hX
      have ⟨ad, he⟩ : ∃ ad, a.eval x = .pointer (some ad) := by
        generalize a.eval x = v at hX
        cases hX; exact ⟨_, rfl⟩
      simp [execOp, he]
    · cases hd
  | binOp op t x y u => exact bin_ok hT h hd
  | unOp op t x =>
    simp only [aop] at hd
    split at hd
    · rename_i v hx
      split at hd
      · rename_i u hu
        cases hd
        have e1 := (rep_sc (hx ▸ opv_ok h x)).1
        refine opres_pure (P := P) h ?_ (rep_sc' (uop_val hu))
        rw [e1]; exact uop_ok hu
      · cases hd
    · cases hd
  | convert src dst x => exact convert_ok hT h hf hd
  | makeSlice t l c =>
    simp only [aop] at hd
    split at hd
    · rename_i te n m hte hl hc
      split at hd
      · rename_i hcc
        cases hd
        exact makeSlice_ok hT h hf hte hl hc hcc.1 hcc.2.1 hcc.2.2
      · cases hd
    · cases hd
  | slice t x lo hi mx =>
    simp only [aop] at hd
    split at hd
    · rename_i l hh m ti hl hh' hm hti
      split at hd
      · cases hd
      · rename_i hmh
        obtain ⟨l1, l2, l3⟩ := optI_ok h hl
        obtain ⟨h1, h2, h3⟩ := optI_ok h hh'
        obtain ⟨m1, m2, m3⟩ := optI_ok h hm
        have hk := (hT t ti hti).kd
        have hX := opv_ok h x
        generalize opv tv x = y at hd hX
        generalize ti.kind = tk at hd hk
        split at hd
        · obtain ⟨y', hy, rfl⟩ := one_some hd
          obtain ⟨e1, _⟩ := rep_sc hX
          obtain ⟨u, u1, u2⟩ := cut_ok (P := P) (w := w) (γ := γ) (ok := okOf w0 M R φ sv w) hk l1 l2 h1 h2 m2 hy
          refine opres_congr (opres_pure (P := P) h u1 u2) ?_
          simp [execOp, e1]
        · rename_i e
          split at hd
          · rename_i te hte
            obtain ⟨y', hy, rfl⟩ := one_some hd
            obtain ⟨u, u1, u2⟩ := slice_ok (P := P) h hk (hT e te hte) l1 l2 h1 h2 m1 m2 (fun hm0 hh0 => hmh ⟨by cases mx <;> simp_all, by cases hi <;> simp_all⟩) hX hy
            exact opres_pure (P := P) h u1 u2
          · cases hd
        · cases hd
    · cases hd
  | fieldAddr t x f =>
    simp only [aop] at hd
    split at hd
    · rename_i ti hti
      split at hd
      · rename_i fs hk
        obtain ⟨y, hy, rfl⟩ := one_some hd
        obtain ⟨u, u1, u2⟩ := fieldAddr_ok (P := P) hT hti hk (opv_ok h x) hy
        exact opres_pure (P := P) h u1 u2
      · cases hd
    · cases hd
  | indexAddr t x i =>
    simp only [aop] at hd
    split at hd
    · rename_i te n hte hn
      obtain ⟨y, hy, rfl⟩ := one_some hd
      obtain ⟨e, hu, he⟩ := elemOf_some hT hte
      obtain ⟨k, hk⟩ := toI_ok (opv_ok h i) hn
      obtain ⟨u, u1, u2⟩ := indexAddr_ok (P := P) h hu he (k := k) (opv_ok h x) hy
      refine opres_congr (opres_pure (P := P) h u1 u2) ?_
      simp [execOp, hk]
    · cases hd
  | index t x i =>
    simp only [aop] at hd
    split at hd
    · rename_i ti s n hti hx hn
      have hk := (hT t ti hti).kd
      generalize ti.kind = tk at hd hk
      split at hd
      · rename_i u hu
        split at hd
        · rename_i h0
          cases hd
          obtain ⟨k, hk'⟩ := toI_ok (opv_ok h i) hn
          have e1 := (rep_sc (hx ▸ opv_ok h x)).1
          refine opres_pure (P := P) h ?_ (rep_sc' rfl)
          rw [e1, hk']
          exact index_ok hk hu h0
        · cases hd
      · cases hd
    · cases hd
  | extract x i =>
    simp only [aop] at hd
    have hX := opv_ok h x
    generalize opv tv x = y at hd hX
    split at hd
    · obtain ⟨y', hy, rfl⟩ := one_some hd
      obtain ⟨u, u1, u2⟩ := extract_ok (P := P) hX hy
      exact opres_pure (P := P) h u1 u2
    · cases hd
  | build t ps =>
    simp only [aop] at hd
    split at hd
    · rename_i ti hti
      split at hd
      · rename_i fs hk
        split at hd
        · rename_i cs hfl
          cases hd
          exact build_ok hT h hf hti hk hfl
        · cases hd
      · cases hd
    · cases hd
  | buildSlice t n ps =>
    simp only [aop] at hd
    split at hd
    · rename_i te hte
      split at hd
      · rename_i rs ns hfl
        split at hd
        · rename_i hn
          cases hd
          exact buildSlice_ok hT h hf hte hfl hn
        · cases hd
      · cases hd
    · cases hd
  | makeMap t r =>
    cases r with
    | some r => simp [aop] at hd
    | none =>
      simp only [aop] at hd
      split at hd
      · split at hd
        · cases hd
          exact makeMap_ok h hf
        · cases hd
      · cases hd
  | lookup t x k ok =>
    simp only [aop] at hd
    obtain ⟨y, hy, rfl⟩ := one_some hd
    obtain ⟨u, u1, u2⟩ := lookup_ok (P := P) hT h hy
    exact opres_pure (P := P) h u1 u2
  | mapUpdate t m k v => exact mapSet_ok hT h hd
  | insert t m k v => exact mapSet_ok hT h (by simpa only [aop] using hd)
  | call c =>
    obtain ⟨callee, xs, ats⟩ := c
    cases callee with
    | builtin bi =>
      simp only [aop] at hd
      refine opres_congr (builtin_ok (P := P) (ty := ty) (cs := xs.map fun | .const _ => true | _ => false) hT h hf hd) ?_
      simp [execOp, resolve, invoke]
      rfl
    | value f => simp [aop] at hd
    | invoke r m => simp [aop] at hd
  | _ => simp [aop] at hd
end
end Go.Proofs.YtkkmgjhfjhcdmaaGreatDoor.Mx

namespace Go.Proofs.YtkkmgjhfjhcdmaaGreatDoor.Mx
open Go Go.RowKit

def rdR (r : List Row) : List Row := r.map (·.map rdC)
def vw1 (sv : Sv) : AV → AV
  | .ow m lo n => match rowsOf sv (.ow m lo n) with | some (z, r) => .sl false z (rdR r) | none => .no
  | .sl _ z r => .sl false z (rdR r)
  | .sc v => .sc v
  | .er => .er
  | .pb _ cs => .pb false (cs.map rdC)
  | .mv m => match sv m with | some (.mp _ es) => .mc es | _ => .no
  | .mc es => .mc es
  | _ => .no
def vwA (sv : Sv) : AV → AV
  | .ag cs => .ag (cs.map (vw1 sv))
  | .pt m i j => match sv m with | some (.bx cs) => bif i == 0 then .pb false ((cs.drop j).map (vw1 sv)) else .no | _ => .no
  | x => vw1 sv x
def rt (sv : Sv) (m : Nat) : List Nat := match sv m with
  | some (.sb p _ _ _) => [p]
  | some (.fz _ _) => []
  | _ => [m]
def vn1 (sv : Sv) : AV → List Nat
  | .ow m _ _ | .mv m => rt sv m
  | _ => []
def vnA (sv : Sv) : AV → List Nat
  | .ag cs => cs.flatMap (vn1 sv)
  | .pt m _ _ => match sv m with | some (.bx cs) => m :: cs.flatMap (vn1 sv) | _ => []
  | x => vn1 sv x
def ex1 (sv : Sv) : AV → Option (AV × List Nat)
  | .ow m lo n => match sv m with
    | some (.ar z _ r) => some (.sl true z (seg r lo n), [m])
    | some (.fz z r) => some (.sl false z (rdR (seg r lo n)), [])
    | _ => none
  | .sl _ z r => some (.sl false z (rdR r), [])
  | .sc v => some (.sc v, [])
  | .er => some (.er, [])
  | .no => some (.no, [])
  | .mc es => some (.mc es, [])
  | _ => none
def exL (f : AV → Option (AV × List Nat)) : Row → Option (Row × List Nat)
  | [] => some ([], [])
  | x :: r => match f x, exL f r with | some (y, ns), some (l, ms) => some (y :: l, ns ++ ms) | _, _ => none
def exA (sv : Sv) : AV → Option (AV × List Nat)
  | .ag cs => match exL (ex1 sv) cs with | some (l, ns) => some (.ag l, ns) | none => none
  | .pt m 0 0 => match sv m with
    | some (.bx cs) => match exL (ex1 sv) cs with | some (l, ns) => some (.pb true l, m :: ns) | none => none
    | _ => none
  | x => ex1 sv x
def ln1 (sv : Sv) : AV → Option (AV × List Nat)
  | .ow m lo n => match sv m with
    | some (.ar z _ r) => bif lo == 0 && n == r.length then some (.sl true z r, [m]) else none
    | some (.sb p _ _ _) => match blkRows sv m with
      | some (z, r) => bif lo == 0 && n == r.length then some (.sl true z r, [p]) else none
      | none => none
    | _ => none
  | x => ex1 sv x
def lnA (sv : Sv) : AV → Option (AV × List Nat)
  | .ag cs => match exL (ln1 sv) cs with | some (l, ns) => some (.ag l, ns) | none => none
  | .pt m 0 0 => exA sv (.pt m 0 0)
  | x => ln1 sv x
def nodupB : List Nat → Bool
  | [] => true
  | x :: r => !r.contains x && nodupB r
def disjB (a b : List Nat) : Bool := a.all fun x => !b.contains x
def argI (sv : Sv) (md : Nat) (x : AV) : Option (AV × List Nat × List Nat) :=
  match md with
  | 0 => some (vwA sv x, [], vnA sv x)
  | 1 => match lnA sv x with | some (t, ns) => some (t, ns, []) | none => none
  | _ => match exA sv x with | some (t, ns) => some (t, ns, []) | none => none
def argsI (sv : Sv) : List Nat → List AV → Option (List AV × List Nat × List Nat)
  | _, [] => some ([], [], [])
  | md, x :: r => match argI sv (md.headD 0) x, argsI sv md.tail r with
    | some (t, ns, vs), some (l, ms, us) => some (t :: l, ns ++ ms, vs ++ us)
    | _, _ => none
def argsOk (sv : Sv) (md : List Nat) (xs : List AV) : Option (List AV) :=
  match argsI sv md xs with
  | some (l, ns, vs) => bif nodupB ns && disjB ns vs then some l else none
  | none => none

abbrev Up := List (Nat × Option Blk)
def th1 (k : Nat) : AV → AV × Up
  | .sl true z r => (.ow k 0 r.length, [(k, some (.ar z 0 r))])
  | .pb true _ => (.no, [])
  | x => (x, [])
def thL : Nat → Row → Row × Up
  | _, [] => ([], [])
  | k, x :: r => ((th1 k x).1 :: (thL (k + 1) r).1, (th1 k x).2 ++ (thL (k + 1) r).2)
def wd : AV → Nat
  | .ag cs => cs.length
  | .pb true cs => cs.length + 1
  | _ => 1
def thA (k : Nat) : AV → AV × Up
  | .ag cs => (.ag (thL k cs).1, (thL k cs).2)
  | .pb true cs => (.pt k 0 0, (thL (k + 1) cs).2 ++ [(k, some (.bx (thL (k + 1) cs).1))])
  | x => th1 k x
def wds : List AV → Nat
  | [] => 0
  | x :: r => wd x + wds r
def thAs : Nat → List AV → List AV × Up
  | _, [] => ([], [])
  | k, x :: r => ((thA k x).1 :: (thAs (k + wd x) r).1, (thA k x).2 ++ (thAs (k + wd x) r).2)
def wdV : AV → Nat
  | .tu vs => wds vs
  | x => wd x
def thV (k : Nat) : AV → AV × Up
  | .tu vs => (.tu (thAs k vs).1, (thAs k vs).2)
  | x => thA k x
def own2 : AV → Bool
  | .sc _ | .er | .no => true
  | .sl true _ r => flatR r
  | _ => false
def own1 : AV → Bool
  | .sc _ | .er | .no => true
  | .sl true _ r => r.all fun row => row.all own2
  | _ => false
def ownA : AV → Bool
  | .ag cs => cs.all own1
  | .pb true cs => cs.all own1
  | x => own1 x
def ownV : AV → Bool
  | .tu vs => vs.all ownA
  | x => ownA x
def bk1 (sv : Sv) (x t : AV) : Option Up :=
  match x, t with
  | .ow m _ _, .sl true z r => match sv m with
    | some (.ar y v _) => bif y == z then some [(m, some (.ar z (v + 1) r))] else none
    | some (.sb p i j _) => match blkRows sv m, sv p with
      | some (y, _), some (.ar zp vp rp) => bif y == z then some [(p, some (.ar zp vp (rp.set i ((rp.getD i []).set j (.sl true z r)))))] else none
      | _, _ => none
    | _ => none
  | .ow m _ _, .sl false _ _ => match sv m with | some (.fz _ _) => some [] | _ => none
  | .ow _ _ _, _ => none
  | _, _ => some []
def bkL (sv : Sv) : Row → Row → Option Up
  | [], [] => some []
  | x :: r, t :: q => match bk1 sv x t, bkL sv r q with | some u, some v => some (u ++ v) | _, _ => none
  | _, _ => none
def bkA (sv : Sv) (k : Nat) (x t : AV) : Option Up :=
  match x, t with
  | .ag cs, .ag ts => bkL sv cs ts
  | .pt m _ _, .pb true cs => some ((thL k cs).2 ++ [(m, some (.bx (thL k cs).1))])
  | .pt _ _ _, _ => none
  | .ag _, _ => none
  | x, t => bk1 sv x t
abbrev Ans := AV × List (Option AV)
def bkS (sv : Sv) : Nat → List Nat → List AV → List (Option AV) → Option (Up × Nat)
  | k, _, [], _ => some ([], k)
  | k, md, x :: r, ts =>
    match md.headD 0 with
    | 1 => match ts.headD none with
      | some t => match bkA sv k x t, bkS sv (k + wd t) md.tail r ts.tail with
        | some u, some (v, k') => some (u ++ v, k')
        | _, _ => none
      | none => none
    | _ => bkS sv k md.tail r ts.tail
def callOut (md : List Nat) (b : Nat) (sv : Sv) (xs : List AV) (a : Ans) : Option Dl :=
  match argsI sv md xs, bkS sv (b + wdV a.1) md xs a.2 with
  | some (_, ns, vs), some (u, k) => bif decide (k ≤ b + 256) && (vs.isEmpty || (ownV a.1 && a.2.all fun t => match t with | some t => ownA t | none => true))
      then some ⟨(thV b a.1).1, kill ns ++ (u ++ (thV b a.1).2)⟩ else none
  | _, _ => none
end Go.Proofs.YtkkmgjhfjhcdmaaGreatDoor.Mx
