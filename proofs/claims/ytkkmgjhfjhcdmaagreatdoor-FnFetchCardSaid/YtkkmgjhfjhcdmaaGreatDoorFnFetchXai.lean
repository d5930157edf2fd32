/- A machine over values for Go functions, proved sound, and functions run on it: texts W4, W5, W6, Y1, S1, V1, V2, V3, B1. -/
import Derived.Laws.Sem
import Derived.Below
import Derived.Test.YtkkmgjhfjhcdmaaGreatDoorFnFetchXah
set_option linter.all false
namespace Go.Proofs.YtkkmgjhfjhcdmaaGreatDoor.Mx
open Go Go.RowKit
def tmsOf : Nat → List AV → List (Nat × AV)
  | _, [] => []
  | k, x :: r => (k, x) :: tmsOf (k + 1) r
def enter (avs : List AV) : St := ⟨tmsOf 0 (thAs 1 avs).1, sync (thAs 1 avs).2 [], 1 + wds avs⟩
def fin1 (T : Ty) (s : St) : ResultVar → Option AV
  | .tmp t => some (s.tv t)
  | .cell a t => match T t, s.tv a with
    | some ti, .pt m i j => match s.sv m with
      | some (.bx cs) => bif i == 0 then loaded ti (cs.drop j) else none
      | _ => none
    | _, _ => none
def finV (T : Ty) (s : St) : List ResultVar → Option (List AV)
  | [] => some []
  | r :: q => match fin1 T s r, finV T s q with | some x, some l => some (x :: l) | _, _ => none
def lentV (s : St) : Nat → List Bool → List AV
  | _, [] => []
  | i, q :: r => (bif q then s.tv i else .no) :: lentV s (i + 1) r
def outs : List Bool → List AV → List (Option AV)
  | q :: r, t :: ts => (bif q then some t else none) :: outs r ts
  | _, _ => []
def wrapR : List AV → AV
  | [x] => x
  | ts => .tu ts
def finish (T : Ty) (rs : List ResultVar) (lent : List Bool) (s : St) : Option Ans :=
  match finV T s rs with
  | some xs => match exL (exA s.sv) (xs ++ lentV s 0 lent) with
    | some (ts, ns) => bif nodupB ns then some (wrapR (ts.take xs.length), outs lent (ts.drop xs.length)) else none
    | none => none
  | none => none
def Fin (T : Ty) (rs : List ResultVar) (lent : List Bool) (r : Ans) : Po
  | .exit _, _ => False
  | _, s => finish T rs lent s = some r
def resG (tmps : Array Value) : ResultVar → Sem Value
  | .tmp t => pure (tmps.getD t undef)
  | .cell b t => do loadVar t (← asAddr (tmps.getD b undef))
theorem results_resG (fn : Func) (tmps : Array Value) : results fn tmps = (do let vs ← fn.results.mapM (resG tmps); pure (if h : vs.size = 1 then vs[0] else .tuple vs)) := by
  unfold results
  congr
section
variable {w0 : World} {M R : Nat → Prop} {γ : Gs} {φ : Fp} {tv : Tv} {sv : Sv} {a : Act} {w : World} {P : Program} {T : Ty} {E : Env} {args : List Value} {np N : Nat}
theorem exAL_ok (h : Sim w0 M R γ φ tv sv a w) : ∀ (cs l : Row) (N : List Nat) (vs : Nat → Value), (∀ (j : Nat) (x : AV), cs[j]? = some x → RepV w (okOf w0 M R φ sv w) γ (vs j) x) → exL (exA sv) cs = some (l, N) → nodupB N = true →
    l.length = cs.length ∧ (∀ n ∈ N, live sv n) ∧ ∃ Fs : Nat → Nat → Prop, (∀ j b, Fs j b → Nφ φ N b) ∧ (∀ i j b, Fs i b → Fs j b → i = j) ∧ ∀ (j : Nat) (y : AV), l[j]? = some y → OwnA w (okOf w0 M R φ sv w) (Fs j) (vs j) y
  | [], l, N, vs, hv, hx, hn => by
    simp only [exL] at hx
    cases hx
    exact ⟨rfl, fun n hn => by simp at hn, fun _ _ => False, fun _ _ h => h.elim, fun _ _ _ h => h.elim, fun j y hy => by simp at hy⟩
  | x :: r, l, N, vs, hv, hx, hn => by
    simp only [exL] at hx
    split at hx
    · rename_i y ns l' ms h1 h2
      cases hx
      obtain ⟨n1, n2, n3⟩ := nodupB_app hn
      obtain ⟨a1, a2⟩ := exA_ok h (hv 0 x rfl) h1 n1
      obtain ⟨b1, b2, Fs, b3, b4, b5⟩ := exAL_ok h r l' ms (fun j => vs (j + 1)) (fun j x hj => hv (j + 1) x (by simpa using hj)) h2 n2
      refine ⟨by simp [b1], fun n hn => ?_, fun j => match j with | 0 => Nφ φ ns | j + 1 => Fs j, ?_, ?_, ?_⟩
      · rcases List.mem_append.1 hn with hn | hn
        · exact a1 n hn
        · exact b2 n hn
      · rintro (_ | j) b hb
        · obtain ⟨n, hn, hb⟩ := hb; exact ⟨n, List.mem_append_left _ hn, hb⟩
        · obtain ⟨n, hn, hb⟩ := b3 j b hb; exact ⟨n, List.mem_append_right _ hn, hb⟩
      · rintro (_ | i) (_ | j) b hb hb'
        · rfl
        · exact (Nφ_dj h a1 b2 n3 b hb (b3 j b hb')).elim
        · exact (Nφ_dj h a1 b2 n3 b hb' (b3 i b hb)).elim
        · rw [b4 i j b hb hb']
      · rintro (_ | j) y hy
        · simp at hy; subst hy; exact a2
        · exact b5 j y (by simpa using hy)
    · cases hx
theorem fin1_ok (hT : TOk P T) {s : St} (h : Sim w0 M R γ φ s.tv s.sv a w) {r : ResultVar} {x : AV} (hx : fin1 T s r = some x) :
    ∃ v, (resG a.tmps r).run P w = .ok v w ∧ RepV w (okOf w0 M R φ s.sv w) γ v x := by
  cases r with
  | tmp t => simp only [fin1] at hx; cases hx; exact ⟨_, rfl, h.tm t⟩
  | cell b t =>
    simp only [fin1] at hx
    split at hx
    · rename_i ti m i j hti hb
      split at hx
      · rename_i cs hm
        rw [cond_eq_ite] at hx
        split at hx
        · rename_i hi
          have hi : i = 0 := by simpa using hi
          subst hi
          obtain ⟨c, cur, e, fr, k1, k2, k3, k4, k5, k6⟩ := h.bk m _ hm
          have hb' := h.tm b
          rw [hb] at hb'
          obtain ⟨v0, z, g1, g2⟩ := hb'
          rw [k1] at g1
          cases g1
          obtain ⟨_, e1⟩ := g2
          have ht := hT t ti hti
          unfold loaded at hx
          split at hx
          · rename_i l hl
            cases hx
            have hC : CellsAt w (RepC w (okOf w0 M R φ s.sv w) γ) c 0 cs := fun k x hk => ⟨_, by rw [Nat.zero_add]; exact cell_some k3 (Nat.lt_of_lt_of_le (idx_lt hk) k5), (k6 k x hk).1, (k6 k x hk).2⟩
            obtain ⟨p1, p2⟩ := part_at ht.st hC hl
            obtain ⟨v, q1, q2⟩ := load_rep (P := P) ht p1 p2
            refine ⟨v, ?_, q2⟩
            simp only [resG, e1]
            simpa [Instr.loadAt, Instr.sureAddr, asAddr] using q1
          · cases hx
        · cases hx
      · cases hx
    · cases hx
theorem finV_ok (hT : TOk P T) {s : St} (h : Sim w0 M R γ φ s.tv s.sv a w) : ∀ (rs : List ResultVar) (xs : List AV), finV T s rs = some xs → ∃ vs : List Value,
    (rs.mapM (resG a.tmps)).run P w = .ok vs w ∧ vs.length = xs.length ∧ ∀ (j : Nat) (v : Value) (x : AV), vs[j]? = some v → xs[j]? = some x → RepV w (okOf w0 M R φ s.sv w) γ v x
  | [], xs, hx => by
    simp only [finV] at hx
    cases hx
    exact ⟨[], by simp, rfl, fun j v x hv => by simp at hv⟩
  | r :: q, xs, hx => by
    simp only [finV] at hx
    split at hx
    · rename_i x l h1 h2
      cases hx
      obtain ⟨v, a1, a2⟩ := fin1_ok hT h h1
      obtain ⟨vs, b1, b2, b3⟩ := finV_ok hT h q l h2
      refine ⟨v :: vs, ?_, by simp [b2], ?_⟩
      · rw [List.mapM_cons]
        simp only [Sem.run_bind, a1, Result.andThen_ok, b1, Sem.run_pure]
      · rintro (_ | j) u y hu hy
        · simp at hu hy; subst hu hy; exact a2
        · exact b3 j u y (by simpa using hu) (by simpa using hy)
    · cases hx
theorem lentV_get (s : St) : ∀ (lent : List Bool) (i j : Nat) (x : AV), (lentV s i lent)[j]? = some x → x = s.tv (i + j) ∨ x = .no
  | [], i, j, x, h => by simp [lentV] at h
  | q :: r, i, j, x, h => by
    cases j with
    | zero => simp [lentV] at h; cases q <;> simp_all
    | succ j =>
      simp [lentV] at h
      rcases lentV_get s r (i + 1) j x h with h | h
      · left; rw [h]; congr 1; omega
      · exact .inr h
theorem outs_get : ∀ (lent : List Bool) (ts : List AV) (i : Nat) (t : AV), (outs lent ts)[i]? = some (some t) → lent[i]? = some true ∧ ts[i]? = some t
  | [], ts, i, t, h => by simp [outs] at h
  | _ :: _, [], i, t, h => by simp [outs] at h
  | q :: r, x :: ts, i, t, h => by
    cases i with
    | zero => cases q <;> simp [outs] at h; exact ⟨rfl, by simp [h]⟩
    | succ i => simp only [outs, List.getElem?_cons_succ] at h; simpa using outs_get r ts i t h
theorem lentV_true (s : St) : ∀ (lent : List Bool) (i j : Nat), lent[j]? = some true → (lentV s i lent)[j]? = some (s.tv (i + j))
  | [], i, j, h => by simp at h
  | q :: r, i, j, h => by
    cases j with
    | zero => simp at h; subst h; simp [lentV]
    | succ j =>
      simp only [List.getElem?_cons_succ] at h
      simp only [lentV, List.getElem?_cons_succ]
      rw [lentV_true s r (i + 1) j h]
      congr 2; omega
theorem finish_ok (hT : TOk P T) {G : Fp} {okc : Nat → Prop} {s : St} {a : Act} {w1 : World} {avs : List AV} (hA : ArgsRep w okc G args avs) (h : Sim w (fun b => ∃ i, G i b) okc γ φ s.tv s.sv a w1) {lent : List Bool} (hg : ∀ (i : Nat) (v : Value), (args.take lent.length)[i]? = some v → a.tmps.getD i undef = v)
    {fn : Func} {rs : List ResultVar} {r : Ans} (hr : fn.results = rs.toArray) (hl : lent.length ≤ avs.length) (hf : finish T rs lent s = some r) :
    ∃ v, (results fn a.tmps).run P w1 = .ok v w1 ∧ ∃ H, Post w okc G args r v w1 H := by
  unfold finish at hf
  split at hf
  · rename_i xs hxs
    split at hf
    · rename_i ts ns hts
      rw [cond_eq_ite] at hf
      split at hf
      · rename_i hnd
        cases hf
        obtain ⟨vs, r1, r2, r3⟩ := finV_ok hT h rs xs hxs
        obtain ⟨b1, b2, Fs, b3, b4, b5⟩ := exAL_ok h (xs ++ lentV s 0 lent) ts ns (fun j => if j < xs.length then vs.getD j undef else a.tmps.getD (j - xs.length) undef) (fun j x hj => by
          by_cases hjl : j < xs.length
          · rw [List.getElem?_append_left hjl] at hj
            simp only [hjl, if_true]
            refine r3 j _ x ?_ hj
            rw [List.getD_eq_getElem?_getD, List.getElem?_eq_getElem (by omega)]; rfl
          · rw [List.getElem?_append_right (by omega)] at hj
            simp only [hjl, if_false]
            rcases lentV_get s lent 0 _ x hj with e | e
            · rw [e, Nat.zero_add]; exact h.tm _
            · rw [e]; exact Rep.no _) hts hnd
        have hts' : xs.length ≤ ts.length := by rw [b1, List.length_append]; omega
        have hlive : ∀ j c, Fs j c → c < w1.heap.size ∧ (w.heap.size ≤ c ∨ ∃ i, G i c) := fun j c hc => by
          obtain ⟨n, hn, hc⟩ := b3 j c hc
          exact h.nw n c (b2 n hn) hc
        have hokF : ∀ c, okOf w (fun b => ∃ i, G i b) okc φ s.sv w1 c → ∀ (H : Fp), (∀ i c, H i c → ∃ j, Fs j c) → okP w okc G H w1 c := fun c hc H hH => by
          refine ⟨hc.1, hc.2.1, fun i hi => ?_⟩
          obtain ⟨j, hj⟩ := hH i c hi
          obtain ⟨n, hn, hc'⟩ := b3 j c hj
          exact hc.2.2 n (b2 n hn) hc'
        have hH : ∀ (i : Nat) (c : Nat), (fun i c => match i with | 0 => ∃ j, j < xs.length ∧ Fs j c | i + 1 => Fs (xs.length + i) c : Fp) i c → ∃ j, Fs j c := by
          rintro (_ | i) c hc
          · obtain ⟨q, _, hc⟩ := hc; exact ⟨q, hc⟩
          · exact ⟨_, hc⟩
        let v : Value := if hh : vs.toArray.size = 1 then vs.toArray[0] else .tuple vs.toArray
        refine ⟨v, ?_, fun i c => match i with | 0 => ∃ j, j < xs.length ∧ Fs j c | i + 1 => Fs (xs.length + i) c, h.fr, h.cl, ?_, ?_, ?_, ?_⟩
        · rw [results_resG, hr, List.mapM_toArray, map_eq_pure_bind]
          simp only [Sem.run_bind, r1, Result.andThen_ok, Sem.run_pure]
          rfl
        · rintro (_ | i) (_ | j) c hc hc'
          · rfl
          · obtain ⟨q, hq, hc⟩ := hc; have := b4 _ _ c hc hc'; omega
          · obtain ⟨q, hq, hc'⟩ := hc'; have := b4 _ _ c hc hc'; omega
          · have := b4 _ _ c hc hc'; omega
        · rintro (_ | i) c hc
          · obtain ⟨q, hq, hc⟩ := hc; exact hlive q c hc
          · exact hlive _ c hc
        · have ow : ∀ j t, j < xs.length → (ts.take xs.length)[j]? = some t → OwnA w1 (okP w okc G (fun i c => match i with | 0 => ∃ j, j < xs.length ∧ Fs j c | i + 1 => Fs (xs.length + i) c) w1) (fun c => j < xs.length ∧ Fs j c) (vs.getD j undef) t := fun j t hj ht => by
            rw [List.getElem?_take_of_lt hj] at ht
            have := b5 j t ht
            simp only [hj, if_true] at this
            exact this.mono (fun c hc => ⟨hokF c hc _ hH, rfl⟩) _ fun c hc => ⟨⟨hj, hc⟩, rfl⟩
          have tl : (ts.take xs.length).length = xs.length := by rw [List.length_take]; omega
          revert ow tl
          generalize htk : ts.take xs.length = tk
          intro ow tl
          by_cases h1 : xs.length = 1
          · obtain ⟨t0, rfl⟩ := List.length_eq_one_iff.1 (tl.trans h1)
            obtain ⟨v0, rfl⟩ := List.length_eq_one_iff.1 (r2.trans h1)
            have := ow 0 t0 (by omega) rfl
            show OwnV _ _ _ v0 t0
            have := this.mono (ok' := okP w okc G (fun i c => match i with | 0 => ∃ j, j < xs.length ∧ Fs j c | i + 1 => Fs (xs.length + i) c) w1) (fun c hc => ⟨hc, rfl⟩) (fun c => ∃ j, j < xs.length ∧ Fs j c) fun c hc => ⟨⟨0, hc⟩, rfl⟩
            cases t0 with
            | tu q => cases this with | rd _ _ _ _ _ hR => cases hR
            | _ => exact this
          · have e1 : wrapR tk = .tu tk := by
              match tk, tl with
              | [], _ => rfl
              | [x], tl => exact (h1 tl.symm).elim
              | _ :: _ :: _, _ => rfl
            have e2 : v = .tuple vs.toArray := by
              show (if hh : _ then _ else _) = _
              rw [dif_neg (by simp; omega)]
            rw [e1, e2]
            refine ⟨vs, fun j c => j < xs.length ∧ Fs j c, rfl, by omega, fun j c hc => ⟨j, hc⟩, fun i j c hc hc' => b4 i j c hc.2 hc'.2, fun j u t hu ht => ?_⟩
            have e : u = vs.getD j undef := by rw [List.getD_eq_getElem?_getD, hu]; rfl
            rw [e]
            exact ow j t (by have := idx_lt ht; omega) ht
        · intro i t ht
          obtain ⟨o1, o2⟩ := outs_get lent _ i t ht
          rw [List.getElem?_drop] at o2
          have hi : i < args.length := by have := idx_lt o1; have := hA.len; omega
          refine ⟨args[i], List.getElem?_eq_getElem hi, ?_⟩
          have := b5 _ t o2
          rw [if_neg (by omega), show xs.length + i - xs.length = i by omega, hg i args[i] (by rw [List.getElem?_take_of_lt (idx_lt o1)]; exact List.getElem?_eq_getElem hi)] at this
          exact this.mono (fun c hc => ⟨hokF c hc _ hH, rfl⟩) _ fun c hc => ⟨hc, rfl⟩
      · cases hf
    · cases hf
  · cases hf
end
end Go.Proofs.YtkkmgjhfjhcdmaaGreatDoor.Mx

namespace Go.Proofs.YtkkmgjhfjhcdmaaGreatDoor.Mx
open Go Go.RowKit
section
variable {P : Program} {E : Env}
theorem tmsOf_get : ∀ (l : List AV) (k t : Nat), tget (tmsOf k l) t = if k ≤ t ∧ t < k + l.length then l.getD (t - k) .no else .no
  | [], k, t => by rw [if_neg (by simp only [List.length_nil]; omega)]; rfl
  | x :: r, k, t => by
    simp only [tmsOf, tget, cond_eq_ite, beq_iff_eq]
    by_cases h : k = t
    · subst h
      rw [if_pos rfl, if_pos (by simp only [List.length_cons]; omega)]
      simp
    · rw [if_neg h, tmsOf_get r (k + 1) t]
      by_cases h2 : k ≤ t ∧ t < k + (x :: r).length
      · rw [if_pos h2, if_pos (by simp only [List.length_cons] at h2; omega), show t - k = (t - (k + 1)) + 1 by omega]
        simp
      · rw [if_neg h2, if_neg (by simp only [List.length_cons] at h2; omega)]
theorem thA_tu (k : Nat) (x : AV) (hx : ∀ cs, x ≠ .tu cs) (cs : List AV) : (thA k x).1 ≠ .tu cs := by
  cases x with
  | sl o z r => cases o <;> simp [thA, th1]
  | pb o cs => cases o <;> simp [thA, th1]
  | tu q => exact (hx q rfl).elim
  | _ => simp [thA, th1]
theorem repA_repV {w : World} {ok : Nat → Prop} {γ : Gs} {v : Value} {x : AV} (h : RepA w ok γ v x) : RepV w ok γ v x := by
  cases x <;> first | exact h | exact h.elim
theorem enter_ok {w : World} {okc : Nat → Prop} {G : Fp} {args : List Value} {avs : List AV} (hA : ArgsRep w okc G args avs) {N : Nat} (hN : avs.length ≤ N) :
    Inv w (fun b => ∃ i, G i b) okc args N (enter avs) { tmps := args.toArray ++ Array.replicate (N - args.toArray.size) undef, defers := [] } w := by
  classical
  have hvs : ∀ (i : Nat) (x : AV), avs[i]? = some x → args[i]? = some (args.getD i undef) := fun i x hx => by
    have := idx_lt hx
    have := hA.len
    rw [List.getD_eq_getElem?_getD, List.getElem?_eq_getElem (by omega)]; rfl
  obtain ⟨γd, φd, A, rv⟩ := thAs_ad avs 1 (fun i => args.getD i undef) G hA.dj (fun i x hx => hA.own i _ x (hvs i x hx) hx)
  let γ : Gs := fun n => if 1 ≤ n ∧ n < 1 + wds avs then γd n else none
  let φ : Fp := fun n b => (1 ≤ n ∧ n < 1 + wds avs) ∧ φd n b
  have hγ : Agr 1 (wds avs) γd γ := fun j h1 h2 => by show (if _ then _ else _) = _; rw [if_pos ⟨h1, h2⟩]
  have hφ : ∀ j, 1 ≤ j → j < 1 + wds avs → φ j = φd j := fun j h1 h2 => by funext b; exact propext ⟨fun h => h.2, fun h => ⟨⟨h1, h2⟩, h⟩⟩
  have hsv : (enter avs).sv = syncF (thAs 1 avs).2 (fun _ => none) := by
    show sget (sync _ []) = _
    rw [sget_sync]; rfl
  have hin : ∀ m B, (enter avs).sv m = some B → (m, some B) ∈ (thAs 1 avs).2 := fun m B h => by
    rw [hsv] at h
    by_cases he : ∃ C, (m, C) ∈ (thAs 1 avs).2
    · obtain ⟨C, hC⟩ := he
      rw [syncF_in (A.fn m) hC] at h
      subst h
      exact hC
    · rw [syncF_out fun C hC => he ⟨C, hC⟩] at h
      cases h
  have hok : ∀ b, okc b → okOf w (fun b => ∃ i, G i b) okc φ (enter avs).sv w b := fun b hb => ⟨hA.inn b hb, .inl hb, fun m _ hm => by
    obtain ⟨j, hj⟩ := A.sub m b hm.2
    exact (hA.sep j b hj).2.2 hb⟩
  have htm : ∀ t, t < args.length → (args.toArray ++ Array.replicate (N - args.toArray.size) undef).getD t undef = args.getD t undef := fun t ht => by
    rw [Array.getD_eq_getD_getElem?, Array.getElem?_append_left (by simpa using ht), List.getD_eq_getElem?_getD]
    simp
  refine ⟨γ, φ, ⟨⟨rfl, rfl, rfl, Nat.le_refl _, fun _ _ _ => rfl⟩, Kp.refl w, ⟨rfl, fun b hb => ⟨hA.gl b hb, fun ⟨j, hj⟩ => (hA.sep j b hj).2.2 (hA.gl b hb), hA.inn b (hA.gl b hb)⟩, hA.gw⟩, ?_, ?_, ?_, ?_⟩, ?_, ?_, ?_⟩
  · intro m n _ _ hne b hb hb'
    exact hne (A.dj m n b hb.2 hb'.2)
  · intro m b _ hb
    obtain ⟨j, hj⟩ := A.sub m b hb.2
    exact ⟨(hA.sep j b hj).2.1, .inr ⟨j, hj⟩⟩
  · intro t
    show RepV _ _ _ _ (tget (tmsOf 0 (thAs 1 avs).1) t)
    rw [tmsOf_get]
    split
    · rename_i ht
      rw [thAs_len] at ht
      rw [htm t (by rw [hA.len]; omega), Nat.sub_zero]
      have hx : (thAs 1 avs).1[t]? = some ((thAs 1 avs).1.getD t .no) := by
        rw [List.getD_eq_getElem?_getD, List.getElem?_eq_getElem (by rw [thAs_len]; omega)]; rfl
      exact (repA_repV (rv γ hγ t _ hx)).mono (fun b hb => ⟨hok b hb, rfl⟩) fun _ _ h => h
    · exact Rep.no _
  · intro m B hB
    exact (A.ok m B (hin m B hB) γ φ _ hγ hφ).up (φ' := φ) hok
  · intro n hn
    have hn : 1 + wds avs ≤ n := hn
    show (if _ then _ else _) = _
    rw [if_neg (by omega)]
  · intro i v hi
    have := idx_lt hi
    rw [htm i this, List.getD_eq_getElem?_getD, hi]; rfl
  · have := hA.len
    simp; omega
theorem Inv.take {w0 : World} {M R : Nat → Prop} {args : List Value} {N : Nat} {s : St} {a : Act} {w : World} (h : Inv w0 M R args N s a w) (k : Nat) : Inv w0 M R (args.take k) N s a w := by
  obtain ⟨γ, φ, h1, h2, h3, h4⟩ := h
  refine ⟨γ, φ, h1, h2, fun i v hi => ?_, h4⟩
  have := idx_lt hi
  rw [List.getElem?_take_of_lt (by rw [List.length_take] at this; omega)] at hi
  exact h3 i v hi
theorem meets_of (hT : TOk P E.T) (hm : P.follows .mixedOrders = true) {f : FuncId} {fn : Func} {c : Code} {rs : List ResultVar} {lent : List Bool} {avs : List AV} {r : Ans} (hf : P.funcs[f]? = some fn) (hb : fn.body = some c) (hn : (fn.name == "runtime.NumGoroutine") = false)
    (hr : fn.results = rs.toArray) (hd : dstOk lent.length fn.ntmps c = true) (hN : avs.length ≤ fn.ntmps) (hl : lent.length ≤ avs.length) (h : aw P E c (Fin E.T rs lent r) (enter avs)) : Meets P f avs r := by
  intro w ok G args hA
  left
  constructor
  · have h1 : fn.name ≠ "runtime.NumGoroutine" := by simpa using hn
    simp [callFunc, hf, h1, hb]
  · refine calls_of_wp hf hb (wp_mono (aw_ok hT hm (np := lent.length) (by rw [List.length_take]; omega) c _ _ _ w hd h ((enter_ok hA hN).take lent.length)) fun e a w1 he => ?_)
    have fin : ∀ s, finish E.T rs lent s = some r → Inv w (fun b => ∃ i, G i b) ok (args.take lent.length) fn.ntmps s a w1 → a.defers = [] ∧ ∃ v, (results fn a.tmps).run P w1 = .ok v w1 ∧ ∃ H, Post w ok G args r v w1 H := fun s hs ⟨γ, φ, hS, _, hg, _⟩ => ⟨hS.df.1, finish_ok hT hA hS hg hr hl hs⟩
    cases e with
    | normal => obtain ⟨s, hs, hI⟩ := he; exact fin s hs hI
    | ret => obtain ⟨s, hs, hI⟩ := he; exact fin s hs hI
    | exit id => obtain ⟨s, hs, hI⟩ := he; exact hs.elim
    | _ => exact he.elim
end
end Go.Proofs.YtkkmgjhfjhcdmaaGreatDoor.Mx

namespace Go.Proofs.YtkkmgjhfjhcdmaaGreatDoor.Mx
open Go Go.RowKit
theorem info_of {P : Program} {k : Nat} {t : TypeInfo} (h : P.types[k]? = some t) : P.info? k = some t := by
  have hk := (Array.getElem?_eq_some_iff.1 h).1
  show Tables.info? _ _ = _
  unfold Tables.info?
  rw [if_pos hk]
  exact h
theorem under_of {P : Program} {k : Nat} {t : TypeInfo} (h : P.types[k]? = some t) (hn : ∀ s u, t.desc ≠ .named s u) : P.underlying k = some t.desc := by
  unfold Program.underlying
  rw [info_of h]
  split
  · rename_i s u _ _ _ _ _ _ _ _ _ e
    cases e
    exact (hn _ _ rfl).elim
  · rename_i e; cases e; rfl
  · rename_i e; cases e
theorem tyOk_one {P : Program} {k : Nat} {t : TypeInfo} {z : Value} {ti : TI} (h : P.types[k]? = some t) (hz : t.zero = some z) (hc : z.cells.toList = [z]) (h1 : ti.size = 1) (hs : t.size = 1) (hb : t.bytes = ti.bytes) (hb1 : 1 ≤ ti.bytes) (hzz : ti.zero = [z])
    (hk : KindOk P k ti.kind) (hst : isStr ti.kind = false) (hcz : ti.cz = []) (hcm : ti.cmp = false) (ho : z.oneCell' = true) : TyOk P k ti := by
  refine ⟨⟨t, z, info_of h, by rw [hs, h1], hb, hz, by rw [hc, hzz]⟩, hk, by rw [hzz, h1]; rfl, by rw [h1]; decide, hb1, ?_, by rw [h1]; decide, ?_, ?_, fun _ => h1, fun _ => ⟨t, z, info_of h, hz, hzz⟩, by rw [hcm]; intro h; cases h⟩
  · intro fs hfs
    rw [hfs] at hst
    cases hst
  · intro v hv
    rw [hzz] at hv
    simp only [List.mem_singleton] at hv
    rw [hv]; exact ho
  · intro k z' hh
    rw [hcz] at hh
    simp at hh
def look : List (Nat × List Nat) → Nat → List Nat
  | [], _ => []
  | (k, l) :: r, n => bif k == n then l else look r n
section
variable {P : Program} {E : Env} {id i : Nat} {d : Option Tmp} {ty : TypeId} {ps : String} {af : Array Edge} {g : Option (Nat × Bool)} {K : St → Prop} {s : St}
theorem step_move (x : Operand) : step1 P E id i ⟨d, .move x, ty, ps, af, g⟩ K s ↔ After (fun x => K (s.go d x)) (aop E.T (.move x) ty s.ctr s.tv s.sv) := Iff.rfl
theorem step_assign (x : Operand) : step1 P E id i ⟨d, .assign x, ty, ps, af, g⟩ K s ↔ After (fun x => K (s.go d x)) (aop E.T (.assign x) ty s.ctr s.tv s.sv) := Iff.rfl
theorem step_pick (c x y : Operand) : step1 P E id i ⟨d, .pick c x y, ty, ps, af, g⟩ K s ↔ After (fun x => K (s.go d x)) (aop E.T (.pick c x y) ty s.ctr s.tv s.sv) := Iff.rfl
theorem step_alloc (e : TypeId) : step1 P E id i ⟨d, .alloc e, ty, ps, af, g⟩ K s ↔ After (fun x => K (s.go d x)) (aop E.T (.alloc e) ty s.ctr s.tv s.sv) := Iff.rfl
theorem step_box (e : TypeId) (x : Operand) : step1 P E id i ⟨d, .box e x, ty, ps, af, g⟩ K s ↔ After (fun x => K (s.go d x)) (aop E.T (.box e x) ty s.ctr s.tv s.sv) := Iff.rfl
theorem step_build (t : TypeId) (qs : Array (Nat × Operand)) : step1 P E id i ⟨d, .build t qs, ty, ps, af, g⟩ K s ↔ After (fun x => K (s.go d x)) (aop E.T (.build t qs) ty s.ctr s.tv s.sv) := Iff.rfl
theorem step_buildSlice (t : TypeId) (n : Nat) (qs : Array (Nat × Operand)) : step1 P E id i ⟨d, .buildSlice t n qs, ty, ps, af, g⟩ K s ↔ After (fun x => K (s.go d x)) (aop E.T (.buildSlice t n qs) ty s.ctr s.tv s.sv) := Iff.rfl
theorem step_load (t : TypeId) (x : Operand) : step1 P E id i ⟨d, .load t x, ty, ps, af, g⟩ K s ↔ After (fun x => K (s.go d x)) (aop E.T (.load t x) ty s.ctr s.tv s.sv) := Iff.rfl
theorem step_store (t : TypeId) (x y : Operand) : step1 P E id i ⟨d, .store t x y, ty, ps, af, g⟩ K s ↔ After (fun x => K (s.go d x)) (aop E.T (.store t x y) ty s.ctr s.tv s.sv) := Iff.rfl
theorem step_nilCheck (x : Operand) : step1 P E id i ⟨d, .nilCheck x, ty, ps, af, g⟩ K s ↔ After (fun x => K (s.go d x)) (aop E.T (.nilCheck x) ty s.ctr s.tv s.sv) := Iff.rfl
theorem step_binOp (o : BinOp) (t : TypeId) (x y : Operand) (u : TypeId) : step1 P E id i ⟨d, .binOp o t x y u, ty, ps, af, g⟩ K s ↔ After (fun x => K (s.go d x)) (aop E.T (.binOp o t x y u) ty s.ctr s.tv s.sv) := Iff.rfl
theorem step_unOp (o : UnOp) (t : TypeId) (x : Operand) : step1 P E id i ⟨d, .unOp o t x, ty, ps, af, g⟩ K s ↔ After (fun x => K (s.go d x)) (aop E.T (.unOp o t x) ty s.ctr s.tv s.sv) := Iff.rfl
theorem step_convert (t u : TypeId) (x : Operand) : step1 P E id i ⟨d, .convert t u x, ty, ps, af, g⟩ K s ↔ After (fun x => K (s.go d x)) (aop E.T (.convert t u x) ty s.ctr s.tv s.sv) := Iff.rfl
theorem step_makeSlice (t : TypeId) (x y : Operand) : step1 P E id i ⟨d, .makeSlice t x y, ty, ps, af, g⟩ K s ↔ After (fun x => K (s.go d x)) (aop E.T (.makeSlice t x y) ty s.ctr s.tv s.sv) := Iff.rfl
theorem step_slice (t : TypeId) (x : Operand) (lo hi mx : Option Operand) : step1 P E id i ⟨d, .slice t x lo hi mx, ty, ps, af, g⟩ K s ↔ After (fun x => K (s.go d x)) (aop E.T (.slice t x lo hi mx) ty s.ctr s.tv s.sv) := Iff.rfl
theorem step_fieldAddr (t : TypeId) (x : Operand) (f : Nat) : step1 P E id i ⟨d, .fieldAddr t x f, ty, ps, af, g⟩ K s ↔ After (fun x => K (s.go d x)) (aop E.T (.fieldAddr t x f) ty s.ctr s.tv s.sv) := Iff.rfl
theorem step_indexAddr (t : TypeId) (x y : Operand) : step1 P E id i ⟨d, .indexAddr t x y, ty, ps, af, g⟩ K s ↔ After (fun x => K (s.go d x)) (aop E.T (.indexAddr t x y) ty s.ctr s.tv s.sv) := Iff.rfl
theorem step_index (t : TypeId) (x y : Operand) : step1 P E id i ⟨d, .index t x y, ty, ps, af, g⟩ K s ↔ After (fun x => K (s.go d x)) (aop E.T (.index t x y) ty s.ctr s.tv s.sv) := Iff.rfl
theorem step_extract (x : Operand) (n : Nat) : step1 P E id i ⟨d, .extract x n, ty, ps, af, g⟩ K s ↔ After (fun x => K (s.go d x)) (aop E.T (.extract x n) ty s.ctr s.tv s.sv) := Iff.rfl
theorem step_makeMap (t : TypeId) (x : Option Operand) : step1 P E id i ⟨d, .makeMap t x, ty, ps, af, g⟩ K s ↔ After (fun x => K (s.go d x)) (aop E.T (.makeMap t x) ty s.ctr s.tv s.sv) := Iff.rfl
theorem step_lookup (t : TypeId) (x y : Operand) (q : Bool) : step1 P E id i ⟨d, .lookup t x y q, ty, ps, af, g⟩ K s ↔ After (fun x => K (s.go d x)) (aop E.T (.lookup t x y q) ty s.ctr s.tv s.sv) := Iff.rfl
theorem step_mapUpdate (t : TypeId) (x y z : Operand) : step1 P E id i ⟨d, .mapUpdate t x y z, ty, ps, af, g⟩ K s ↔ After (fun x => K (s.go d x)) (aop E.T (.mapUpdate t x y z) ty s.ctr s.tv s.sv) := Iff.rfl
theorem step_insert (t : TypeId) (x y z : Operand) : step1 P E id i ⟨d, .insert t x y z, ty, ps, af, g⟩ K s ↔ After (fun x => K (s.go d x)) (aop E.T (.insert t x y z) ty s.ctr s.tv s.sv) := Iff.rfl
theorem step_bi (b : Builtin) (xs : Array Operand) (ats : Array TypeId) : step1 P E id i ⟨d, .call { callee := .builtin b, args := xs, argTypes := ats }, ty, ps, af, g⟩ K s ↔ After (fun x => K (s.go d x)) (aop E.T (.call { callee := .builtin b, args := xs, argTypes := ats }) ty s.ctr s.tv s.sv) := Iff.rfl
end
theorem step_call {P : Program} {E : Env} {id i : Nat} {d : Option Tmp} {h : FuncId} {xs : Array Operand} {ats : Array TypeId} {ty : TypeId} {ps : String} {af : Array Edge} {g : Option (Nat × Bool)} {K : St → Prop} {s : St} :
    step1 P E id i ⟨d, .call { callee := .value (.func h), args := xs, argTypes := ats }, ty, ps, af, g⟩ K s ↔ AfterC P h (fun r => After (fun x => K (s.go d x)) (callOut (E.md id i) s.ctr s.sv (xs.toList.map (opv s.tv)) r)) (argsOk s.sv (E.md id i) (xs.toList.map (opv s.tv))) := Iff.rfl
theorem br_split {A B : Prop} {q : Bool} (h1 : q = true → A) (h2 : q = false → B) : Br A B q := by
  unfold Br
  split
  · exact h1 ‹_›
  · exact h2 (by simpa using ‹¬ q = true›)
theorem br_dec {A B p : Prop} {_ : Decidable p} (h1 : p → A) (h2 : ¬ p → B) : Br A B (decide p) := br_split (fun h => h1 (of_decide_eq_true h)) (fun h => h2 (of_decide_eq_false h))
section
variable {P : Program} {E : Env} {Q : Po} {s : St}
theorem aw_skip : aw P E .skip Q s ↔ Q .normal s := Iff.rfl
theorem aw_seq {x y : Code} : aw P E (.seq x y) Q s ↔ aw P E x (Po.then (aw P E y Q) Q) s := Iff.rfl
theorem aw_cond {t : Tmp} {x y : Code} : aw P E (.cond (.tmp t) x y) Q s ↔ CK (aw P E x Q s) (aw P E y Q s) (s.tv t) := Iff.rfl
theorem aw_block {id : Nat} {c : Code} : aw P E (.block id c) Q s ↔ aw P E c (Q.inBlock id) s := Iff.rfl
theorem aw_exit {id : Nat} : aw P E (.exit id) Q s ↔ Q (.exit id) s := Iff.rfl
theorem aw_ret : aw P E .ret Q s ↔ Q .ret s := Iff.rfl
theorem aw_region {id : Nat} {all : Array Oper} : aw P E (.region id all false) Q s ↔ RK P E id all Q s (E.ex id) := Iff.rfl
theorem rk_f {id : Nat} {all : Array Oper} : RK P E id all Q s (false : Bool) ↔ opsW P E id all.toList (Q .normal) 0 all.toList (keep (E.kp id) (frz (E.fz id) s)) := Iff.rfl
theorem loop_ind {c : Code} {α : Type} (I : α → Prop) (st : α → St) (μ : α → Nat) (x0 : α) (hx : I x0) (h0 : norm (E.kp (headId c)) s = st x0)
    (step : ∀ x, I x → (∀ y s, μ y < μ x → I y → norm (E.kp (headId c)) s = st y → aw P E (.loop c) Q s) → aw P E c (Po.then (aw P E (.loop c) Q) Q) (st x)) : aw P E (.loop c) Q s := by
  have key : ∀ n x s, μ x = n → I x → norm (E.kp (headId c)) s = st x → aw P E (.loop c) Q s := by
    intro n
    induction n using Nat.strongRecOn with
    | _ n ih =>
      intro x s hn hI hs
      rw [aw_loop, hs]
      exact step x hI fun y s hlt hIy hsy => ih (μ y) (hn ▸ hlt) y s rfl hIy hsy
  exact key _ x0 s rfl hx h0
end
section
variable {P : Program} {E : Env} {id i : Nat} {d : Option Tmp} {ty : TypeId} {ps : String} {af : Array Edge} {g : Option (Nat × Bool)} {K : Ac → St → Prop} {s : St}
theorem dstep_move (x : Operand) : stepR P E id i ⟨d, .move x, ty, ps, af, g⟩ K s ↔ After (fun dl => K ⟨rdsO (.move x) s, dl.upd.map (·.1)⟩ (s.go d dl)) (aop E.T (.move x) ty s.ctr s.tv s.sv) := Iff.rfl
theorem dstep_assign (x : Operand) : stepR P E id i ⟨d, .assign x, ty, ps, af, g⟩ K s ↔ After (fun dl => K ⟨rdsO (.assign x) s, dl.upd.map (·.1)⟩ (s.go d dl)) (aop E.T (.assign x) ty s.ctr s.tv s.sv) := Iff.rfl
theorem dstep_pick (c x y : Operand) : stepR P E id i ⟨d, .pick c x y, ty, ps, af, g⟩ K s ↔ After (fun dl => K ⟨rdsO (.pick c x y) s, dl.upd.map (·.1)⟩ (s.go d dl)) (aop E.T (.pick c x y) ty s.ctr s.tv s.sv) := Iff.rfl
theorem dstep_alloc (e : TypeId) : stepR P E id i ⟨d, .alloc e, ty, ps, af, g⟩ K s ↔ After (fun dl => K ⟨rdsO (.alloc e) s, dl.upd.map (·.1)⟩ (s.go d dl)) (aop E.T (.alloc e) ty s.ctr s.tv s.sv) := Iff.rfl
theorem dstep_box (e : TypeId) (x : Operand) : stepR P E id i ⟨d, .box e x, ty, ps, af, g⟩ K s ↔ After (fun dl => K ⟨rdsO (.box e x) s, dl.upd.map (·.1)⟩ (s.go d dl)) (aop E.T (.box e x) ty s.ctr s.tv s.sv) := Iff.rfl
theorem dstep_build (t : TypeId) (qs : Array (Nat × Operand)) : stepR P E id i ⟨d, .build t qs, ty, ps, af, g⟩ K s ↔ After (fun dl => K ⟨rdsO (.build t qs) s, dl.upd.map (·.1)⟩ (s.go d dl)) (aop E.T (.build t qs) ty s.ctr s.tv s.sv) := Iff.rfl
theorem dstep_buildSlice (t : TypeId) (n : Nat) (qs : Array (Nat × Operand)) : stepR P E id i ⟨d, .buildSlice t n qs, ty, ps, af, g⟩ K s ↔ After (fun dl => K ⟨rdsO (.buildSlice t n qs) s, dl.upd.map (·.1)⟩ (s.go d dl)) (aop E.T (.buildSlice t n qs) ty s.ctr s.tv s.sv) := Iff.rfl
theorem dstep_load (t : TypeId) (x : Operand) : stepR P E id i ⟨d, .load t x, ty, ps, af, g⟩ K s ↔ After (fun dl => K ⟨rdsO (.load t x) s, dl.upd.map (·.1)⟩ (s.go d dl)) (aop E.T (.load t x) ty s.ctr s.tv s.sv) := Iff.rfl
theorem dstep_store (t : TypeId) (x y : Operand) : stepR P E id i ⟨d, .store t x y, ty, ps, af, g⟩ K s ↔ After (fun dl => K ⟨rdsO (.store t x y) s, dl.upd.map (·.1)⟩ (s.go d dl)) (aop E.T (.store t x y) ty s.ctr s.tv s.sv) := Iff.rfl
theorem dstep_nilCheck (x : Operand) : stepR P E id i ⟨d, .nilCheck x, ty, ps, af, g⟩ K s ↔ After (fun dl => K ⟨rdsO (.nilCheck x) s, dl.upd.map (·.1)⟩ (s.go d dl)) (aop E.T (.nilCheck x) ty s.ctr s.tv s.sv) := Iff.rfl
theorem dstep_binOp (o : BinOp) (t : TypeId) (x y : Operand) (u : TypeId) : stepR P E id i ⟨d, .binOp o t x y u, ty, ps, af, g⟩ K s ↔ After (fun dl => K ⟨rdsO (.binOp o t x y u) s, dl.upd.map (·.1)⟩ (s.go d dl)) (aop E.T (.binOp o t x y u) ty s.ctr s.tv s.sv) := Iff.rfl
theorem dstep_unOp (o : UnOp) (t : TypeId) (x : Operand) : stepR P E id i ⟨d, .unOp o t x, ty, ps, af, g⟩ K s ↔ After (fun dl => K ⟨rdsO (.unOp o t x) s, dl.upd.map (·.1)⟩ (s.go d dl)) (aop E.T (.unOp o t x) ty s.ctr s.tv s.sv) := Iff.rfl
theorem dstep_convert (t u : TypeId) (x : Operand) : stepR P E id i ⟨d, .convert t u x, ty, ps, af, g⟩ K s ↔ After (fun dl => K ⟨rdsO (.convert t u x) s, dl.upd.map (·.1)⟩ (s.go d dl)) (aop E.T (.convert t u x) ty s.ctr s.tv s.sv) := Iff.rfl
theorem dstep_makeSlice (t : TypeId) (x y : Operand) : stepR P E id i ⟨d, .makeSlice t x y, ty, ps, af, g⟩ K s ↔ After (fun dl => K ⟨rdsO (.makeSlice t x y) s, dl.upd.map (·.1)⟩ (s.go d dl)) (aop E.T (.makeSlice t x y) ty s.ctr s.tv s.sv) := Iff.rfl
theorem dstep_slice (t : TypeId) (x : Operand) (lo hi mx : Option Operand) : stepR P E id i ⟨d, .slice t x lo hi mx, ty, ps, af, g⟩ K s ↔ After (fun dl => K ⟨rdsO (.slice t x lo hi mx) s, dl.upd.map (·.1)⟩ (s.go d dl)) (aop E.T (.slice t x lo hi mx) ty s.ctr s.tv s.sv) := Iff.rfl
theorem dstep_fieldAddr (t : TypeId) (x : Operand) (f : Nat) : stepR P E id i ⟨d, .fieldAddr t x f, ty, ps, af, g⟩ K s ↔ After (fun dl => K ⟨rdsO (.fieldAddr t x f) s, dl.upd.map (·.1)⟩ (s.go d dl)) (aop E.T (.fieldAddr t x f) ty s.ctr s.tv s.sv) := Iff.rfl
theorem dstep_indexAddr (t : TypeId) (x y : Operand) : stepR P E id i ⟨d, .indexAddr t x y, ty, ps, af, g⟩ K s ↔ After (fun dl => K ⟨rdsO (.indexAddr t x y) s, dl.upd.map (·.1)⟩ (s.go d dl)) (aop E.T (.indexAddr t x y) ty s.ctr s.tv s.sv) := Iff.rfl
theorem dstep_index (t : TypeId) (x y : Operand) : stepR P E id i ⟨d, .index t x y, ty, ps, af, g⟩ K s ↔ After (fun dl => K ⟨rdsO (.index t x y) s, dl.upd.map (·.1)⟩ (s.go d dl)) (aop E.T (.index t x y) ty s.ctr s.tv s.sv) := Iff.rfl
theorem dstep_extract (x : Operand) (n : Nat) : stepR P E id i ⟨d, .extract x n, ty, ps, af, g⟩ K s ↔ After (fun dl => K ⟨rdsO (.extract x n) s, dl.upd.map (·.1)⟩ (s.go d dl)) (aop E.T (.extract x n) ty s.ctr s.tv s.sv) := Iff.rfl
theorem dstep_makeMap (t : TypeId) (x : Option Operand) : stepR P E id i ⟨d, .makeMap t x, ty, ps, af, g⟩ K s ↔ After (fun dl => K ⟨rdsO (.makeMap t x) s, dl.upd.map (·.1)⟩ (s.go d dl)) (aop E.T (.makeMap t x) ty s.ctr s.tv s.sv) := Iff.rfl
theorem dstep_lookup (t : TypeId) (x y : Operand) (q : Bool) : stepR P E id i ⟨d, .lookup t x y q, ty, ps, af, g⟩ K s ↔ After (fun dl => K ⟨rdsO (.lookup t x y q) s, dl.upd.map (·.1)⟩ (s.go d dl)) (aop E.T (.lookup t x y q) ty s.ctr s.tv s.sv) := Iff.rfl
theorem dstep_mapUpdate (t : TypeId) (x y z : Operand) : stepR P E id i ⟨d, .mapUpdate t x y z, ty, ps, af, g⟩ K s ↔ After (fun dl => K ⟨rdsO (.mapUpdate t x y z) s, dl.upd.map (·.1)⟩ (s.go d dl)) (aop E.T (.mapUpdate t x y z) ty s.ctr s.tv s.sv) := Iff.rfl
theorem dstep_insert (t : TypeId) (x y z : Operand) : stepR P E id i ⟨d, .insert t x y z, ty, ps, af, g⟩ K s ↔ After (fun dl => K ⟨rdsO (.insert t x y z) s, dl.upd.map (·.1)⟩ (s.go d dl)) (aop E.T (.insert t x y z) ty s.ctr s.tv s.sv) := Iff.rfl
theorem dstep_bi (b : Builtin) (xs : Array Operand) (ats : Array TypeId) : stepR P E id i ⟨d, .call { callee := .builtin b, args := xs, argTypes := ats }, ty, ps, af, g⟩ K s ↔ After (fun dl => K ⟨rdsO (.call { callee := .builtin b, args := xs, argTypes := ats }) s, dl.upd.map (·.1)⟩ (s.go d dl)) (aop E.T (.call { callee := .builtin b, args := xs, argTypes := ats }) ty s.ctr s.tv s.sv) := Iff.rfl
end
theorem dstep_call {P : Program} {E : Env} {id i : Nat} {d : Option Tmp} {h : FuncId} {xs : Array Operand} {ats : Array TypeId} {ty : TypeId} {ps : String} {af : Array Edge} {g : Option (Nat × Bool)} {K : Ac → St → Prop} {s : St} :
    stepR P E id i ⟨d, .call { callee := .value (.func h), args := xs, argTypes := ats }, ty, ps, af, g⟩ K s ↔ AfterC P h (fun r => After (fun x => K ⟨rdsO (.call { callee := .value (.func h), args := xs, argTypes := ats }) s, x.upd.map (·.1)⟩ (s.go d x)) (callOut (E.md id i) s.ctr s.sv (xs.toList.map (opv s.tv)) r)) (argsOk s.sv (E.md id i) (xs.toList.map (opv s.tv))) := Iff.rfl
theorem aw_draw {P : Program} {E : Env} {id : Nat} {all : Array Oper} {Q : Po} {s : St} (h : okD all.toList (E.dp id) = true) : aw P E (.region id all true) Q s ↔ drW P E id (E.dp id) all.toList (Q .normal) 0 all.toList [] (keep (E.kp id) (frz (E.fz id) s)) := ⟨fun h' => h'.2, fun h' => ⟨h, h'⟩⟩
theorem wr_id {n : Int} (h1 : -9223372036854775808 ≤ n) (h2 : n < 9223372036854775808) : wr .i64 n = n := by
  show wrap64 n = n
  unfold wrap64
  omega
theorem ofNat_nn (n : Nat) : (0 ≤ (n : Int)) = True := by simp
end Go.Proofs.YtkkmgjhfjhcdmaaGreatDoor.Mx

namespace Go.Proofs.YtkkmgjhfjhcdmaaGreatDoor.Mx
open Go Go.RowKit
def czB (c : List (Option Nat)) (vs : List Value) : Bool := (List.range c.length).all fun k => match c[k]?, vs[k]? with
  | some (some _), some (.slice none 0 0) => true
  | some (some _), _ => false
  | _, _ => true
theorem czB_ok (c : List (Option Nat)) (vs : List Value) (hb : czB c vs = true) (k z : Nat) (h : c[k]? = some (some z)) : vs[k]? = some (.slice none 0 0) := by
  have := List.all_eq_true.1 hb k (List.mem_range.2 (idx_lt h))
  rw [h] at this
  split at this
  · assumption
  · cases this
  · rename_i h1 _
    exact (h1 _ rfl).elim
def fldsB (P : Program) (fs : List (Nat × TypeId)) : Bool := fs.all fun q => (P.info? q.2).isSome
theorem flds_ok {P : Program} {fs : List (Nat × TypeId)} (h : fldsB P fs = true) : ∀ q ∈ fs, ∃ i, P.info? q.2 = some i := fun q hq =>
  Option.isSome_iff_exists.1 (List.all_eq_true.1 h q hq)
theorem tyOk_str {P : Program} {k : Nat} {t : TypeInfo} {z : Value} {ti : TI} {fs : List (Nat × TypeId)} (h : P.info? k = some t) (hz : t.zero = some z) (hc : z.cells.toList = ti.zero) (hs : t.size = ti.size) (hb : t.bytes = ti.bytes)
    (hn : (decide (ti.zero.length = ti.size) && decide (ti.size ≤ 60) && decide (1 ≤ ti.bytes) && decide (1 ≤ ti.size)) = true) (hf : ti.kind = .struct fs) (hk : ∃ a : Array Field, P.underlying k = some (.struct a) ∧ (a.toList.map fun f => (f.offset, f.type)) = fs)
    (ho : ti.zero.all (·.oneCell') = true) (hfl : ∀ q ∈ fs, ∃ i, P.info? q.2 = some i) (hcz : czB ti.cz ti.zero = true) (hst : isStr ti.kind = true) (hcm : ti.cmp = false) : TyOk P k ti := by
  simp only [Bool.and_eq_true, decide_eq_true_eq] at hn
  refine ⟨⟨t, z, h, hs, hb, hz, hc⟩, by rw [hf]; exact hk, hn.1.1.1, hn.1.1.2, hn.1.2, ?_, hn.2, fun v hv => List.all_eq_true.1 ho v hv, czB_ok _ _ hcz, fun hh => ?_, fun hh => ?_, by rw [hcm]; intro h; cases h⟩
  · intro fs' hfs'
    rw [hf] at hfs'
    cases hfs'
    exact hfl
  · rw [hst] at hh; cases hh
  · rw [hst] at hh; cases hh
theorem tyOk_sl {P : Program} {k : Nat} {t : TypeInfo} {z : Value} {ti : TI} (h : P.types[k]? = some t) (hz : t.zero = some z) (hc : z.cells.toList = [z]) (h1 : ti.size = 1) (hs : t.size = 1) (hb : t.bytes = ti.bytes) (hb1 : 1 ≤ ti.bytes) (hzz : ti.zero = [z])
    (hk : KindOk P k ti.kind) (hst : isStr ti.kind = false) (hcz : czB ti.cz ti.zero = true) (hcm : ti.cmp = false) (ho : z.oneCell' = true) : TyOk P k ti := by
  refine ⟨⟨t, z, info_of h, by rw [hs, h1], hb, hz, by rw [hc, hzz]⟩, hk, by rw [hzz, h1]; rfl, by rw [h1]; decide, hb1, ?_, by rw [h1]; decide, ?_, czB_ok _ _ hcz, fun _ => h1, fun _ => ⟨t, z, info_of h, hz, hzz⟩, by rw [hcm]; intro h; cases h⟩
  · intro fs hfs
    rw [hfs] at hst
    cases hst
  · intro v hv
    rw [hzz] at hv
    simp only [List.mem_singleton] at hv
    rw [hv]; exact ho
theorem nm_of {P : Program} {k : Nat} {a : Array Field} (h : P.underlying k = some (.struct a)) (hb : (a.toList.all fun f => f.name != "_") = true) : ∀ fs, P.underlying k = some (.struct fs) → ∀ f ∈ fs, f.name ≠ "_" := by
  intro fs h2 f hf
  rw [h] at h2
  cases h2
  have := List.all_eq_true.1 hb f (by simpa using hf)
  simpa using this
theorem tyOk_strC {P : Program} {k : Nat} {t : TypeInfo} {z : Value} {ti : TI} {fs : List (Nat × TypeId)} (h : P.info? k = some t) (hz : t.zero = some z) (hc : z.cells.toList = ti.zero) (hs : t.size = ti.size) (hb : t.bytes = ti.bytes)
    (hn : (decide (ti.zero.length = ti.size) && decide (ti.size ≤ 60) && decide (1 ≤ ti.bytes) && decide (1 ≤ ti.size)) = true) (hf : ti.kind = .struct fs) (hk : ∃ a : Array Field, P.underlying k = some (.struct a) ∧ (a.toList.map fun f => (f.offset, f.type)) = fs)
    (ho : ti.zero.all (·.oneCell') = true) (hfl : ∀ q ∈ fs, ∃ i, P.info? q.2 = some i) (hcz : czB ti.cz ti.zero = true) (hst : isStr ti.kind = true) (c1 : P.stoodInHeld k = false) (c2 : P.eqGuardType P.depth k = false)
    (c3 : ∀ fs, P.underlying k = some (.struct fs) → ∀ f ∈ fs, f.name ≠ "_") : TyOk P k ti := by
  simp only [Bool.and_eq_true, decide_eq_true_eq] at hn
  refine ⟨⟨t, z, h, hs, hb, hz, hc⟩, by rw [hf]; exact hk, hn.1.1.1, hn.1.1.2, hn.1.2, ?_, hn.2, fun v hv => List.all_eq_true.1 ho v hv, czB_ok _ _ hcz, fun hh => ?_, fun hh => ?_, fun _ => ⟨c1, c2, c3⟩⟩
  · intro fs' hfs'
    rw [hf] at hfs'
    cases hfs'
    exact hfl
  · rw [hst] at hh; cases hh
  · rw [hst] at hh; cases hh
end Go.Proofs.YtkkmgjhfjhcdmaaGreatDoor.Mx

namespace Go.Proofs.YtkkmgjhfjhcdmaaGreatDoor.Mx
open Go Go.RowKit
def mkG {α : Type} (f : α → Int → α) (c : α → Int) : List α → Int → List α
  | [], _ => []
  | a :: r, k => f a k :: mkG f c r (k + c a)
theorem mkG_len {α : Type} (f : α → Int → α) (c : α → Int) : ∀ (l : List α) (k : Int), (mkG f c l k).length = l.length
  | [], _ => rfl
  | a :: r, k => by rw [mkG, List.length_cons, List.length_cons, mkG_len f c r]
theorem LR : (∀ {α : Type} (a : α) (l : List α), (a :: l).length = l.length + 1) ∧ (∀ {α : Type}, ([] : List α).length = 0) ∧ (∀ {α β : Type} (f : α → β) (l : List α), (l.map f).length = l.length) ∧
    (∀ {α : Type} (a b : List α), (a ++ b).length = a.length + b.length) ∧ (∀ {α : Type} (n : Nat) (l : List α), (l.take n).length = min n l.length) ∧ (∀ {α : Type} (n : Nat) (l : List α), (l.drop n).length = l.length - n) ∧
    (∀ {α : Type} (n : Nat) (a : α), (List.replicate n a).length = n) ∧ (∀ {α : Type} (l : List α) (n : Nat) (a : α), (l.set n a).length = l.length) ∧ ∀ {α : Type} (f : α → Int → α) (c : α → Int) (l : List α) (k : Int), (mkG f c l k).length = l.length :=
  ⟨fun _ _ => rfl, rfl, fun _ _ => List.length_map .., fun _ _ => List.length_append, fun _ _ => List.length_take, fun _ _ => List.length_drop, fun _ _ => List.length_replicate, fun _ _ _ => List.length_set, mkG_len⟩
attribute [push_cast] if_pos decide_eq_true decide_eq_false
def look2 : List (Nat × List (List Nat)) → Nat → List (List Nat)
  | [], _ => []
  | (k, l) :: r, n => bif k == n then l else look2 r n
def look3 : List (Nat × Nat × List Nat) → Nat → Nat → List Nat
  | [], _, _ => []
  | (k, j, l) :: r, n, m => bif k == n && j == m then l else look3 r n m
def lookB : List Nat → Nat → Bool
  | [], _ => false
  | k :: r, n => bif k == n then true else lookB r n
theorem lookB_nil (n : Nat) : lookB [] n = false := rfl
theorem lookB_cons (m n : Nat) (r : List Nat) : lookB (m :: r) n = if m = n then true else lookB r n := by rw [lookB, cond_eq_ite]; simp only [beq_iff_eq]
attribute [push_cast] lookB_nil lookB_cons
attribute [push_cast] drW chkAll chkTo okPair depB disjB rts
attribute [push_cast] dstep_move dstep_assign dstep_pick dstep_alloc dstep_box dstep_build dstep_buildSlice dstep_load dstep_store dstep_nilCheck dstep_binOp dstep_unOp dstep_convert dstep_makeSlice dstep_slice dstep_fieldAddr dstep_indexAddr dstep_index dstep_extract dstep_makeMap dstep_lookup dstep_mapUpdate dstep_insert dstep_bi dstep_call
attribute [push_cast] aw_skip aw_seq aw_cond aw_block aw_exit aw_ret aw_region rk_f enter thAs thA th1 thL tmsOf sync supd wds wd List.map cond_true cond_false if_true if_false opsW step_call step_bi step_move step_assign step_pick step_alloc step_box step_build step_buildSlice step_load step_store step_nilCheck step_binOp step_unOp step_convert step_makeSlice step_slice step_fieldAddr step_indexAddr step_index step_extract step_makeMap step_lookup step_mapUpdate step_insert after_some aop isNil opv scp plain St.go St.put St.tv St.sv
  Po.then Po.inBlock bop bopI bopS bopB uop gq dstAt gk_bool gk_tu ck_bool br_true br_false Bool.false_eq_true beq_self_eq_true List.append_nil List.nil_append List.cons_append
  beq_true beq_false Fin finish finV fin1 lentV outs wrapR exL exA ex1 nodupB List.contains_nil List.take List.drop List.length_cons List.length_nil List.append_eq one toI optI elemOf isSrc pBuiltin
attribute [push_cast] pLen cellsOf zbox getP fillP setR takeN isStr part wrapA loaded List.headD pFieldAddr pStore pIndexAddr List.getElem?_cons_zero List.getElem?_cons_succ
attribute [push_cast] norm namesA names1 below rnA rn1 rnS rnB headId List.flatMap_cons List.flatMap_nil
attribute [push_cast] pConvert eqs ne_eq not_false_eq_true not_true_eq_false and_true true_and and_false false_and Option.getD_some Option.getD_none
attribute [push_cast] decide_true decide_false Bool.not_true Bool.not_false Bool.and_true Bool.and_false Bool.and_self Bool.or_true Bool.or_false Bool.true_and Bool.false_and Bool.true_or Bool.false_or List.length_map Int.natCast_inj Int.ofNat_lt Int.ofNat_le ofNat_nn Int.toNat_natCast List.getElem?_map Option.map_some
attribute [push_cast] argsOk argsI argI vwA vnA vw1 vn1 rt lnA ln1 rdC callOut bkS bkA bk1 bkL wdV thV thAs List.tail List.isEmpty_nil Bool.true_or List.map_cons List.map_nil List.any_cons List.all_cons List.all_nil List.flatMap_cons List.flatMap_nil
theorem ex_get {α : Type} {a : List α} {i : Nat} (h : i < a.length) : ∃ x, a[i]? = some x := ⟨_, List.getElem?_eq_getElem h⟩
theorem take_step {α : Type} {a : List α} {i : Nat} {x : α} (h : a[i]? = some x) : a.take (i + 1) = a.take i ++ [x] := by rw [List.take_add_one, h]; rfl
def supO (s : St) (l : List Operand) : List Nat := l.flatMap fun x => supA s.sv (opv s.tv x)
section
variable {s : St}
theorem rds_0 : supO s [] = [] := rfl
theorem supO_cons (x : Operand) (l : List Operand) : supO s (x :: l) = supA s.sv (opv s.tv x) ++ supO s l := rfl
theorem rds_move (x : Operand) : rdsO (.move x) s = [] := rfl
theorem rds_assign (x : Operand) : rdsO (.assign x) s = supO s [x] := rfl
theorem rds_pick (c x y : Operand) : rdsO (.pick c x y) s = supO s [c, x, y] := rfl
theorem rds_alloc (t : TypeId) : rdsO (.alloc t) s = [] := rfl
theorem rds_box (t : TypeId) (x : Operand) : rdsO (.box t x) s = supO s [x] := rfl
theorem rds_load (t : TypeId) (x : Operand) : rdsO (.load t x) s = (namesA (opv s.tv x)).flatMap (rts s.sv) := rfl
theorem rds_store (t : TypeId) (x y : Operand) : rdsO (.store t x y) s = supO s [x, y] := rfl
theorem rds_nilCheck (x : Operand) : rdsO (.nilCheck x) s = [] := rfl
theorem rds_binOp (o : BinOp) (t u : TypeId) (x y : Operand) : rdsO (.binOp o t x y u) s = supO s [x, y] := rfl
theorem rds_unOp (o : UnOp) (t : TypeId) (x : Operand) : rdsO (.unOp o t x) s = supO s [x] := rfl
theorem rds_convert (t u : TypeId) (x : Operand) : rdsO (.convert t u x) s = supO s [x] := rfl
theorem rds_makeSlice (t : TypeId) (x y : Operand) : rdsO (.makeSlice t x y) s = supO s [x, y] := rfl
theorem rds_fieldAddr (t : TypeId) (x : Operand) (k : Nat) : rdsO (.fieldAddr t x k) s = [] := rfl
theorem rds_indexAddr (t : TypeId) (x y : Operand) : rdsO (.indexAddr t x y) s = supO s [x, y] := rfl
theorem rds_index (t : TypeId) (x y : Operand) : rdsO (.index t x y) s = supO s [x, y] := rfl
theorem rds_extract (x : Operand) (k : Nat) : rdsO (.extract x k) s = supO s [x] := rfl
theorem rds_lookup (t : TypeId) (x y : Operand) (q : Bool) : rdsO (.lookup t x y q) s = supO s [x, y] := rfl
theorem rds_mapUpdate (t : TypeId) (x y z : Operand) : rdsO (.mapUpdate t x y z) s = supO s [x, y, z] := rfl
theorem rds_insert (t : TypeId) (x y z : Operand) : rdsO (.insert t x y z) s = supO s [x, y, z] := rfl
theorem rds_makeMap (t : TypeId) (x : Option Operand) : rdsO (.makeMap t x) s = supO s x.toList := by cases x <;> rfl
theorem rds_slice (t : TypeId) (x : Operand) (l h m : Option Operand) : rdsO (.slice t x l h m) s = supO s (x :: (l.toList ++ h.toList ++ m.toList)) := by cases l <;> cases h <;> cases m <;> rfl
theorem rds_build (t : TypeId) (ps : Array (Nat × Operand)) : rdsO (.build t ps) s = supO s (ps.toList.map (·.2)) := rfl
theorem rds_buildSlice (t : TypeId) (n : Nat) (ps : Array (Nat × Operand)) : rdsO (.buildSlice t n ps) s = supO s (ps.toList.map (·.2)) := rfl
theorem rds_bi (b : Builtin) (xs : Array Operand) (ats : Array TypeId) : rdsO (.call { callee := .builtin b, args := xs, argTypes := ats }) s = supO s xs.toList := by simp [rdsO, supO, Op.operands, Call.operands]
theorem rds_call (h : FuncId) (xs : Array Operand) (ats : Array TypeId) : rdsO (.call { callee := .value (.func h), args := xs, argTypes := ats }) s = supO s xs.toList := by simp [rdsO, supO, Op.operands, Call.operands, opv, supA, namesA, names1]
end
attribute [push_cast] rds_0 supO_cons rds_move rds_assign rds_pick rds_alloc rds_box rds_load rds_store rds_nilCheck rds_binOp rds_unOp rds_convert rds_makeSlice rds_fieldAddr rds_indexAddr rds_index rds_extract rds_lookup rds_mapUpdate rds_insert rds_makeMap rds_slice rds_build rds_buildSlice rds_bi rds_call Option.toList kill List.reverse_cons List.reverse_nil
theorem seg_full {α : Type} {r : List α} {n : Nat} (h : r.length ≤ n) : seg r 0 n = r := by unfold seg; simp [List.take_of_length_le h]
theorem flatR_app (a b : List Row) : flatR (a ++ b) = (flatR a && flatR b) := by simp [flatR]
theorem flatR_cons (x : Row) (b : List Row) : flatR (x :: b) = (x.all isSc && flatR b) := rfl
theorem flatR_nil : flatR [] = true := rfl
theorem wr_u8 (n : Int) : wr .u8 n = n % 256 := rfl
theorem wr_u64 (n : Int) : wr .u64 n = n % 18446744073709551616 := rfl
theorem blkRows_ar {sv : Sv} {m z v : Nat} {r : List Row} (h : sv m = some (.ar z v r)) : blkRows sv m = some (z, r) := by simp [blkRows, h]
theorem blkRows_fz {sv : Sv} {m z : Nat} {r : List Row} (h : sv m = some (.fz z r)) : blkRows sv m = some (z, r) := by simp [blkRows, h]
theorem room_cast : ((room : Nat) : Int) = 140737488355328 := rfl
theorem le_room (n : Nat) : (n ≤ room) = (n ≤ 140737488355328) := rfl
attribute [push_cast] List.isEmpty_cons ownV ownA own1 List.getD_cons_zero List.getD_cons_succ Int.sub_zero List.contains_cons Nat.zero_add List.any_nil room_cast le_room flatR_app flatR_cons flatR_nil seg_full fillS zrow cnv List.replicate_one List.replicate_zero List.set_cons_zero List.set_cons_succ bytesOf byteOf srcOf pAppend blkRows nest rowsOf isSc pSlice pCut cutOf blkZ flatT putRows pCopy ldA Option.isSome_none Option.isSome_some Option.isNone_none Option.isNone_some List.zip_nil_right
structure Does (P : Program) (f : FuncId) (avs : List AV) (r : Ans) : Prop where
  m : Meets P f avs r
theorem callC {P : Program} {h : FuncId} {f : Ans → Prop} {l : List AV} {r : Ans} (hm : Does P h l r) (hf : f r) : AfterC P h f (some l) := ⟨l, r, rfl, hm.m, hf⟩
theorem callC_eq {P : Program} {h : FuncId} {f : Ans → Prop} {l l' : List AV} {r : Ans} (hm : Does P h l' r) (e : l = l') (hf : f r) : AfterC P h f (some l) := ⟨l, r, rfl, e ▸ hm.m, hf⟩
theorem does_of {P : Program} {E : Env} (hT : TOk P E.T) (hm : P.follows .mixedOrders = true) {f : FuncId} {fn : Func} {c : Code} {rs : List ResultVar} {lent : List Bool} {avs : List AV} {r : Ans} (hf : P.funcs[f]? = some fn) (hb : fn.body = some c) (hn : (fn.name == "runtime.NumGoroutine") = false)
    (hr : fn.results = rs.toArray) (hd : dstOk lent.length fn.ntmps c = true) (hN : avs.length ≤ fn.ntmps) (hl : lent.length ≤ avs.length) (h : aw P E c (Fin E.T rs lent r) (enter avs)) : Does P f avs r := ⟨meets_of hT hm hf hb hn hr hd hN hl h⟩
theorem tget_nil (n : Nat) : tget [] n = .no := rfl
theorem tget_cons (m n : Nat) (x : AV) (r : List (Nat × AV)) : tget ((m, x) :: r) n = if m = n then x else tget r n := by rw [tget, cond_eq_ite]; simp only [beq_iff_eq]
theorem sget_nil (n : Nat) : sget [] n = none := rfl
theorem sget_cons (m n : Nat) (x : Blk) (r : Sto) : sget ((m, x) :: r) n = if m = n then some x else sget r n := by rw [sget, cond_eq_ite]; simp only [beq_iff_eq]
theorem srem_nil (n : Nat) : srem [] n = [] := rfl
theorem srem_cons (m n : Nat) (x : Blk) (r : Sto) : srem ((m, x) :: r) n = if m = n then srem r n else (m, x) :: srem r n := by rw [srem, cond_eq_ite]; simp only [beq_iff_eq]
theorem look_nil (n : Nat) : look [] n = [] := rfl
theorem look_cons (m n : Nat) (x : List Nat) (r : List (Nat × List Nat)) : look ((m, x) :: r) n = if m = n then x else look r n := by rw [look, cond_eq_ite]; simp only [beq_iff_eq]
theorem look2_nil (n : Nat) : look2 [] n = [] := rfl
theorem look2_cons (m n : Nat) (x : List (List Nat)) (r : List (Nat × List (List Nat))) : look2 ((m, x) :: r) n = if m = n then x else look2 r n := by rw [look2, cond_eq_ite]; simp only [beq_iff_eq]
theorem look3_nil (n k : Nat) : look3 [] n k = [] := rfl
theorem look3_cons (m j n k : Nat) (x : List Nat) (r : List (Nat × Nat × List Nat)) : look3 ((m, j, x) :: r) n k = if m = n ∧ j = k then x else look3 r n k := by rw [look3, cond_eq_ite]; simp only [Bool.and_eq_true, beq_iff_eq]
theorem idx_nil (k n : Nat) : idx [] k n = none := rfl
theorem idx_cons (x k n : Nat) (r : List Nat) : idx (x :: r) k n = if x = n then some k else idx r (k + 1) n := by rw [idx, cond_eq_ite]; simp only [beq_iff_eq]
theorem dedup_nil (acc : List Nat) : dedup acc [] = acc.reverse := rfl
theorem dedup_cons (acc : List Nat) (x : Nat) (r : List Nat) : dedup acc (x :: r) = dedup (if acc.contains x = true then acc else x :: acc) r := by rw [dedup]; cases acc.contains x <;> simp
def kpL (tm : List (Nat × AV)) : List Nat → List (Nat × AV)
  | [] => []
  | t :: r => (t, tget tm t) :: kpL tm r
theorem keep_eq (ks : List Nat) (s : St) : keep ks s = ⟨kpL s.tm ks, s.sto, s.ctr⟩ := by
  have : (ks.map fun t => (t, tget s.tm t)) = kpL s.tm ks := by induction ks with | nil => rfl | cons a r ih => rw [List.map_cons, ih]; rfl
  unfold keep; rw [this]
def nmL (L : List Nat) (tm : List (Nat × AV)) : List Nat → List (Nat × AV)
  | [] => []
  | t :: r => (t, rnA L (tget tm t)) :: nmL L tm r
theorem normL_eq (L ks : List Nat) (s : St) : normL L ks s = ⟨nmL L s.tm ks, rnS L s.sv 1 L, L.length + 1⟩ := by
  have : (ks.map fun t => (t, rnA L (s.tv t))) = nmL L s.tm ks := by induction ks with | nil => rfl | cons a r ih => rw [List.map_cons, ih]; rfl
  unfold normL; rw [this]
def bl2 (sto : Sto) : List Nat → List Nat
  | [] => []
  | m :: r => below (sget sto) m ++ bl2 sto r
def bl1 (sto : Sto) : List Nat → List Nat
  | [] => []
  | m :: r => bl2 sto (below (sget sto) m) ++ bl1 sto r
def rcL (sto : Sto) (tm : List (Nat × AV)) : List Nat → List Nat
  | [] => []
  | t :: r => bl1 sto (namesA (tget tm t)) ++ rcL sto tm r
theorem bl2_eq (sto : Sto) : ∀ l, l.flatMap (below (sget sto)) = bl2 sto l
  | [] => rfl
  | a :: r => by rw [List.flatMap_cons, bl2_eq sto r]; rfl
theorem bl1_eq (sto : Sto) : ∀ l, l.flatMap (fun m => (below (sget sto) m).flatMap (below (sget sto))) = bl1 sto l
  | [] => rfl
  | a :: r => by rw [List.flatMap_cons, bl1_eq sto r, bl2_eq]; rfl
theorem reach_eq (ks : List Nat) (s : St) : reach ks s = dedup [] (rcL s.sto s.tm ks) := by
  have : ∀ ks, (ks.flatMap fun t => (namesA (s.tv t)).flatMap fun m => (below s.sv m).flatMap (below s.sv)) = rcL s.sto s.tm ks := fun ks => by
    induction ks with
    | nil => rfl
    | cons a r ih => rw [List.flatMap_cons, ih]; show List.flatMap (fun m => (below (sget s.sto) m).flatMap (below (sget s.sto))) _ ++ _ = _; rw [bl1_eq]; rfl
  unfold reach; rw [this]
def ctL (sv : Sv) : Row → List Nat
  | [] => []
  | c :: r => (match c with | .ow m _ _ | .pt m _ _ | .mv m => rts sv m | _ => []) ++ ctL sv r
def spL (sv : Sv) : List Nat → List Nat
  | [] => []
  | m :: r => rts sv m ++ ((match sv m with | some (.bx cs) => ctL sv cs | _ => []) ++ spL sv r)
theorem ctL_eq (sv : Sv) : ∀ cs : Row, (cs.flatMap fun c => (names1 c).flatMap (rts sv)) = ctL sv cs
  | [] => rfl
  | c :: r => by
    rw [List.flatMap_cons, ctL_eq sv r]
    cases c <;> simp [names1, ctL]
theorem supA_eq (sv : Sv) (x : AV) : supA sv x = spL sv (namesA x) := by
  have : ∀ l : List Nat, (l.flatMap fun m => rts sv m ++ (match sv m with | some (.bx cs) => cs.flatMap fun c => (names1 c).flatMap (rts sv) | _ => [])) = spL sv l := fun l => by
    induction l with
    | nil => rfl
    | cons m r ih =>
      rw [List.flatMap_cons, ih, spL, List.append_assoc]
      congr 2
      cases sv m with
      | none => rfl
      | some B => cases B <;> first | rfl | exact ctL_eq sv _
  unfold supA; exact this _
attribute [push_cast] keep_eq kpL normL_eq nmL bl2 bl1 rcL reach_eq ctL spL supA_eq
attribute [push_cast] tget_nil tget_cons sget_nil sget_cons srem_nil srem_cons look_nil look_cons look2_nil look2_cons look3_nil look3_cons idx_nil idx_cons dedup_nil dedup_cons
section
variable {P : Program} {E : Env} {id i : Nat} {d : Option Tmp} {ty : TypeId} {ps : String} {af : Array Edge} {g : Option (Nat × Bool)} {K : St → Prop} {s : St}
theorem step_range (t : TypeId) (x : Operand) : step1 P E id i ⟨d, .range t x, ty, ps, af, g⟩ K s ↔ RgK E.T t s d K (opv s.tv x) := Iff.rfl
theorem step_next (x : Operand) : step1 P E id i ⟨d, .next x false, ty, ps, af, g⟩ K s ↔ NxK E.T 0 s d K (opv s.tv x) := Iff.rfl
theorem step_entry (x : Operand) : step1 P E id i ⟨d, .entry x, ty, ps, af, g⟩ K s ↔ EnK E.T 0 s d K (opv s.tv x) := Iff.rfl
end
theorem rgk_mc {T : Ty} {t : TypeId} {s : St} {d : Option Tmp} {K : St → Prop} (es : List (Value × Value)) (h : isMap T t = true) : RgK T t s d K (.mc es : AV) ↔ K (s.go d ⟨.pt s.ctr 0 0, [(s.ctr, some (.im es none))]⟩) := ⟨fun h => h.2, fun k => ⟨h, k⟩⟩
theorem rgk_mv {T : Ty} {t : TypeId} {s : St} {d : Option Tmp} {K : St → Prop} (m : Nat) (h : isMap T t = true) : RgK T t s d K (.mv m : AV) ↔ RgB s d K m (s.sv m) := ⟨fun h => h.2, fun k => ⟨h, k⟩⟩
theorem rgb_mp {s : St} {d : Option Tmp} {K : St → Prop} (m v : Nat) (es : List (Value × Value)) : RgB s d K m (some (.mp v es) : Option Blk) ↔ K (s.go d ⟨.pt s.ctr 0 0, [(m, none), (s.ctr, some (.im es none))]⟩) := Iff.rfl
theorem nxk_pt {T : Ty} {t : TypeId} {s : St} {d : Option Tmp} {K : St → Prop} (m : Nat) : NxK T t s d K (.pt m 0 0 : AV) ↔ NxB s d K m (s.sv m) := Iff.rfl
theorem enk_pt {T : Ty} {t : TypeId} {s : St} {d : Option Tmp} {K : St → Prop} (m : Nat) : EnK T t s d K (.pt m 0 0 : AV) ↔ EnB s d K m (s.sv m) := Iff.rfl
theorem next_im {s : St} {d : Option Tmp} {K : St → Prop} {m : Nat} {rem : List (Value × Value)} {last : Option (Value × Value)} (hp : (rem.all fun e => plain e.1 && plain e.2) = true) (h0 : rem = [] → K (s.go d ⟨.tu [.sc (.bool false)], []⟩))
    (h1 : ∀ kv rem', rem.Perm (kv :: rem') → K (s.go d ⟨.tu [.sc (.bool true), .sc kv.1, .sc kv.2], [(m, some (.im rem' (some kv)))]⟩)) : NxB s d K m (some (.im rem last) : Option Blk) := ⟨hp, h0, h1⟩
theorem enb_im {s : St} {d : Option Tmp} {K : St → Prop} {m : Nat} (rem : List (Value × Value)) (kv : Value × Value) (hp : (plain kv.1 && plain kv.2) = true) : EnB s d K m (some (.im rem (some kv)) : Option Blk) ↔ K (s.go d ⟨.tu [.sc kv.1, .sc kv.2], []⟩) := ⟨fun h => h.2, fun k => ⟨hp, k⟩⟩
attribute [push_cast] frz frz1 unn1 unnL notSb
attribute [push_cast] step_range step_next step_entry rgb_mp nxk_pt enk_pt
def zF0 : Nat := 0
theorem zF : zF0 = 0 := rfl
theorem an {a b : Prop} (h : a) (k : b) : a ∧ b := ⟨h, k⟩
theorem go0 {p q : Prop} (k : q) (h : p = q := by conv => lhs; simp -dsimp (disch := first | omega | (simp only [zF, LR] <;> omega) | fail) only [push_cast, zF, simprocAttr, -Nat.reduceSubDiff]) : p := h.mpr k
theorem dr {P : Program} {E : Env} {id : Nat} {all : Array Oper} {Q : Po} {s : St} (k : drW P E id (E.dp id) all.toList (Q .normal) 0 all.toList [] (keep (E.kp id) (frz (E.fz id) s))) (h : okD all.toList (E.dp id) = true := by kernel_rfl) : aw P E (.region id all true) Q s := (aw_draw h).2 k
theorem go1 {p q : Prop} (k : q) (h : p = q := by conv => lhs; simp -dsimp (disch := first | omega | (simp only [zF, wr_id, LR] <;> omega) | fail) only [push_cast, zF, wr_id, simprocAttr, -Nat.reduceSubDiff]) : p := h.mpr k
theorem nop {p : Prop} (h : p := by with_reducible exact trivial) : p := h
end Go.Proofs.YtkkmgjhfjhcdmaaGreatDoor.Mx

namespace Go.Proofs.YtkkmgjhfjhcdmaaGreatDoor.Mx
open Go Go.RowKit
abbrev Str := ByteArray
def em : Str := ⟨#[]⟩
def inB (a b c : Int) : Bool := decide (b ≤ a ∧ a ≤ c)
def strN (l : List Int) : Str := ⟨(l.map fun n => UInt8.ofNat n.toNat).toArray⟩
def numR (n : Int) : Row := [.sc (.int .u8 n)]
def strR (s : Str) : Row := [.sc (.string s)]
def boolR (b : Bool) : Row := [.sc (.bool b)]
def step64 (h : Int) (b : UInt8) : Int := wr .u64 (wr .u64 (BitVec.ofInt IntKind.u64.bits h ^^^ BitVec.ofInt IntKind.u64.bits (wr .u64 b.toNat)).toNat * 1099511628211)
def hash64 (l : List UInt8) : Int := l.foldl step64 14695981039346656037
def be : Nat → Int → List Int
  | 0, _ => []
  | n + 1, h => h / 256 ^ n % 256 :: be n h
def sumS (t : Str) (w : Int) : Str := if 1 ≤ w ∧ w ≤ 8 then strN (be w.toNat (hash64 (bt t))) else em
theorem be_len : ∀ (n : Nat) (h : Int), (be n h).length = n
  | 0, _ => rfl
  | n + 1, h => by rw [be, List.length_cons, be_len n h]
theorem be_get : ∀ (n : Nat) (h : Int) (i : Nat), i < n → (be n h)[i]? = some (h / 256 ^ (n - 1 - i) % 256)
  | 0, _, _, hi => by omega
  | n + 1, h, 0, _ => by rw [be]; rfl
  | n + 1, h, i + 1, hi => by
    rw [be, List.getElem?_cons_succ, be_get n h i (by omega)]
    congr 4
    omega
theorem strN_size (l : List Int) : (strN l).size = l.length := by simp [strN, ByteArray.size]
theorem sumS_size {t : Str} {w : Int} (h1 : 1 ≤ w) (h2 : w ≤ 8) : ((sumS t w).size : Int) = w := by
  unfold sumS
  rw [if_pos ⟨h1, h2⟩, strN_size, be_len]
  omega
theorem strN_app (a b : List Int) : strN a ++ strN b = strN (a ++ b) := by
  unfold strN
  apply ByteArray.ext
  simp
theorem strN_one (x : Int) : (⟨#[UInt8.ofNat x.toNat]⟩ : ByteArray) = strN [x] := rfl
theorem bytesOf_num (l : List Int) : bytesOf (l.map numR) = some (l.map fun n => UInt8.ofNat n.toNat) := by
  induction l with
  | nil => rfl
  | cons x r ih =>
    rw [List.map_cons, List.map_cons]
    unfold bytesOf
    rw [show byteOf (numR x) = some (UInt8.ofNat x.toNat) from rfl]
    simp only []
    rw [ih]
theorem u64r (n : Int) : 0 ≤ wr .u64 n ∧ wr .u64 n < 18446744073709551616 := by
  show 0 ≤ IntKind.u64.wrap n ∧ IntKind.u64.wrap n < _
  have : IntKind.u64.wrap n = n % 18446744073709551616 := rfl
  omega
theorem hash64_r (l : List UInt8) : 0 ≤ hash64 l ∧ hash64 l < 18446744073709551616 := by
  unfold hash64
  generalize hx : (14695981039346656037 : Int) = x
  have h : 0 ≤ x ∧ x < 18446744073709551616 := by omega
  clear hx
  induction l generalizing x with
  | nil => exact h
  | cons b r ih => exact ih _ (u64r _)
end Go.Proofs.YtkkmgjhfjhcdmaaGreatDoor.Mx

namespace Go.Proofs.YtkkmgjhfjhcdmaaGreatDoor.Mx
open Go Go.RowKit
theorem drop_step {α : Type} {a : List α} {i : Nat} {x : α} (h : a[i]? = some x) : a.drop i = x :: a.drop (i + 1) := by
  obtain ⟨h1, h2⟩ := List.getElem?_eq_some_iff.1 h
  rw [List.drop_eq_getElem_cons h1, h2]
theorem set_over {α : Type} {a b : List α} {i : Nat} {x : α} (hl : a.length = b.length) (h : a[i]? = some x) : (a.take i ++ b.drop i).set i x = a.take (i + 1) ++ b.drop (i + 1) := by
  have hi := (List.getElem?_eq_some_iff.1 h).1
  obtain ⟨y, hy⟩ := ex_get (hl ▸ hi : i < b.length)
  rw [take_step h, List.set_append_right _ _ (by simp [List.length_take]; omega), drop_step hy]
  simp [List.length_take, Nat.min_eq_left (Nat.le_of_lt hi)]
theorem get_over {α : Type} {a b : List α} {i : Nat} (hl : a.length = b.length) (hi : i ≤ a.length) : (a.take i ++ b.drop i)[i]? = b[i]? := by
  rw [List.getElem?_append_right (by simp; omega)]
  simp [List.length_take, Nat.min_eq_left hi]
end Go.Proofs.YtkkmgjhfjhcdmaaGreatDoor.Mx
namespace Go.Proofs.YtkkmgjhfjhcdmaaGreatDoor.Mx
abbrev c1 {α : Type} (_ : α) : Int := 1
def okStr (s : Str) : Prop := s.size ≤ 2097152
def okBool (_ : Bool) : Prop := True
def okL {α : Type} (ok : α → Prop) (l : List α) : Prop := l.length ≤ 2097152 ∧ ∀ a ∈ l, ok a
@[push_cast] theorem rd_String (l : List Str) : rdR (l.map strR) = l.map strR := by simp [rdR, strR, rdC]
@[push_cast] theorem flat_String (l : List Str) : flatR (l.map strR) = true := by simp [flatR, strR, isSc]
@[push_cast] theorem flat_Bool (l : List Bool) : flatR (l.map boolR) = true := by simp [flatR, boolR, isSc]
@[push_cast] theorem flat_num (l : List Int) : flatR (l.map numR) = true := by simp [flatR, numR, isSc]
@[push_cast] theorem own_String (l : List Str) : (l.map strR).all (fun row => row.all own2) = true := by simp [strR, own2]
@[push_cast] theorem own_Bool (l : List Bool) : (l.map boolR).all (fun row => row.all own2) = true := by simp [boolR, own2]
@[push_cast] theorem rd_Bool (l : List Bool) : rdR (l.map boolR) = l.map boolR := by simp [rdR, boolR, rdC]
attribute [push_cast] strR boolR
def bdL {α : Type} (bd : α → Prop) (l : List α) : Prop := l.length ≤ 9223372036854775807 ∧ ∀ a ∈ l, bd a
end Go.Proofs.YtkkmgjhfjhcdmaaGreatDoor.Mx

namespace Go.Proofs.YtkkmgjhfjhcdmaaGreatDoor.Mx
open Go Go.RowKit
structure Item where
  t : Str
  u : Int
  deriving DecidableEq
@[push_cast] def itemC (_ : Bool) (x : Item) : Row := [.sc (.string x.t), .sc (.int .i64 x.u)]
def okItem (x : Item) : Prop := okStr x.t
@[push_cast] theorem flat_Item (o : Bool) (l : List Item) : flatR (l.map (itemC o)) = true := by simp [flatR, itemC, isSc]
@[push_cast] theorem own_Item (l : List Item) : (l.map (itemC true)).all (fun row => row.all own2) = true := by simp [itemC, own2]
@[push_cast] theorem own_Itemf (l : List Item) : (l.map (itemC false)).all (fun row => row.all own2) = true := by simp [itemC, own2]
@[push_cast] theorem rd_Item (o : Bool) (l : List Item) : rdR (l.map (itemC o)) = l.map (itemC false) := by simp [rdR, itemC, rdC]
structure Store where
  w : Int
  r : Int
  I : List Item
  P : List Str
  deriving DecidableEq
@[push_cast] def storeC (o : Bool) (x : Store) : Row := [.sc (.int .i64 x.w), .sc (.int .i64 x.r), .sl o 2 (x.I.map (itemC o)), .sl o 1 (x.P.map strR)]
def okStore (x : Store) : Prop := okL okItem x.I ∧ okL okStr x.P
@[push_cast] theorem own_Store (l : List Store) : (l.map (storeC true)).all (fun row => row.all own2) = true := by simp [storeC, own2, flat_Item, flat_String]
@[push_cast] theorem rd_Store (o : Bool) (l : List Store) : rdR (l.map (storeC o)) = l.map (storeC false) := by simp [rdR, storeC, rdC, itemC]
structure Peer where
  lies : Int
  wait : Int
  last : Int
  ask : Str
  N : List Str
  deriving DecidableEq
@[push_cast] def peerC (o : Bool) (x : Peer) : Row := [.sc (.int .i64 x.lies), .sc (.int .i64 x.wait), .sc (.int .i64 x.last), .sc (.string x.ask), .sl o 1 (x.N.map strR)]
def okPeer (x : Peer) : Prop := okStr x.ask ∧ okL okStr x.N
@[push_cast] theorem own_Peer (l : List Peer) : (l.map (peerC true)).all (fun row => row.all own2) = true := by simp [peerC, own2, flat_String]
@[push_cast] theorem rd_Peer (o : Bool) (l : List Peer) : rdR (l.map (peerC o)) = l.map (peerC false) := by simp [rdR, peerC, rdC]
structure Fetch where
  nm : Str
  now : Int
  full : Bool
  st : Store
  Q : List Peer
  deriving DecidableEq
@[push_cast] def fetchC (o : Bool) (x : Fetch) : Row := [.sc (.string x.nm), .sc (.int .i64 x.now), .sc (.bool x.full), .sc (.int .i64 x.st.w), .sc (.int .i64 x.st.r), .sl o 2 (x.st.I.map (itemC o)), .sl o 1 (x.st.P.map strR), .sl o 5 (x.Q.map (peerC o))]
def okFetch (x : Fetch) : Prop := okStr x.nm ∧ okStore x.st ∧ okL okPeer x.Q
structure Message where
  fr : Int
  «to» : Int
  sum : Str
  has : Bool
  tx : Str
  deriving DecidableEq
@[push_cast] def messageC (_ : Bool) (x : Message) : Row := [.sc (.int .i64 x.fr), .sc (.int .i64 x.to), .sc (.string x.sum), .sc (.bool x.has), .sc (.string x.tx)]
def okMessage (x : Message) : Prop := okStr x.sum ∧ okStr x.tx
@[push_cast] theorem flat_Message (o : Bool) (l : List Message) : flatR (l.map (messageC o)) = true := by simp [flatR, messageC, isSc]
@[push_cast] theorem own_Message (l : List Message) : (l.map (messageC true)).all (fun row => row.all own2) = true := by simp [messageC, own2]
@[push_cast] theorem own_Messagef (l : List Message) : (l.map (messageC false)).all (fun row => row.all own2) = true := by simp [messageC, own2]
@[push_cast] theorem rd_Message (o : Bool) (l : List Message) : rdR (l.map (messageC o)) = l.map (messageC false) := by simp [rdR, messageC, rdC]
structure World where
  f : Fetch
  up : List Bool
  ss : List Store
  fl : List Message
  wa : Int
  deriving DecidableEq
@[push_cast] def worldC (o : Bool) (x : World) : Row := [.sc (.string x.f.nm), .sc (.int .i64 x.f.now), .sc (.bool x.f.full), .sc (.int .i64 x.f.st.w), .sc (.int .i64 x.f.st.r), .sl o 2 (x.f.st.I.map (itemC o)), .sl o 1 (x.f.st.P.map strR), .sl o 5 (x.f.Q.map (peerC o)), .sl o 1 (x.up.map boolR), .sl o 4 (x.ss.map (storeC o)), .sl o 5 (x.fl.map (messageC o)), .sc (.int .i64 x.wa)]
def okWorld (x : World) : Prop := okFetch x.f ∧ okL okBool x.up ∧ okL okStore x.ss ∧ okL okMessage x.fl
end Go.Proofs.YtkkmgjhfjhcdmaaGreatDoor.Mx

namespace Go.Proofs.YtkkmgjhfjhcdmaaGreatDoor.Mx
open Go Go.RowKit Go.Proofs
theorem does_pure {P : Program} {f : FuncId} {fn : Func} {c : Code} {avs : List AV} {v : Value} (hf : P.funcs[f]? = some fn) (hb : fn.body = some c) (hn : (fn.name == "runtime.NumGoroutine") = false) (hv : plain v = true)
    (H : ∀ (w : Go.World) (ok : Nat → Prop) (G : Fp) (args : List Value), ArgsRep w ok G args avs → Calls P f args.toArray w fun e w' => e = .returned v ∧ Below w.heap.size w w') : Does P f avs (.sc v, []) := by
  constructor
  intro w ok G args hA
  left
  have h1 : fn.name ≠ "runtime.NumGoroutine" := by simpa using hn
  refine ⟨by simp [callFunc, hf, h1, hb], (H w ok G args hA).mono fun e w' h => ?_⟩
  obtain ⟨rfl, hB⟩ := h
  refine ⟨fun _ _ => False, ⟨⟨hB.os, hB.tape, hB.output, hB.size, fun k hk _ => hB.block k hk⟩, Kp.old hB.block, fun _ _ _ h => h.elim, fun _ _ h => h.elim, ?_, fun i t h => by simp at h⟩⟩
  exact Own.rd _ _ _ (by intro z r h; cases h) (by intro cs h; cases h) (.sc v hv)
theorem rep_str {w : Go.World} {ok : Nat → Prop} {v : Value} {x : Str} (h : Rep w ok v (.sc (.string x))) : v = .string x := by cases h; rfl
theorem rep_int {w : Go.World} {ok : Nat → Prop} {v : Value} {k : IntKind} {x : Int} (h : Rep w ok v (.sc (.int k x))) : v = .int k x := by cases h; rfl
theorem rep_strs {w : Go.World} {ok : Nat → Prop} {v : Value} {o : Bool} {l : List Str} (h : Rep w ok v (.sl o 1 (l.map strR))) :
    (l = [] ∧ ∃ A c, v = .slice A 0 c) ∨ ∃ b off cap, v = .slice (some ⟨b, off, none⟩) l.length cap ∧ l.length ≤ cap ∧ ok b ∧ ∀ i x, l[i]? = some x → w.cell? ⟨b, off + i, none⟩ = some (.string x) := by
  generalize hr : l.map strR = rows at h
  cases h with
  | nil => left; exact ⟨by simpa using hr, _, _, rfl⟩
  | emp => left; exact ⟨by simpa using hr, _, _, rfl⟩
  | sl _ _ b off cap _ vs h1 h2 h3 h4 h5 =>
    right
    subst hr
    refine ⟨b, off, cap, by rw [List.length_map], by simpa using h2, h1, fun i x hx => ?_⟩
    have hi : (l.map strR)[i]? = some [.sc (.string x)] := by rw [List.getElem?_map, hx]; rfl
    have a := (h4 i _ 0 _ hi rfl).1
    have b := rep_str (h5 i _ 0 _ hi rfl)
    rw [b] at a
    simpa using a
theorem own_rep {w : Go.World} {ok F : Nat → Prop} {v : Value} {x : AV} (h : Own w ok F v x) (h1 : ∀ z r, x ≠ .sl true z r) (h2 : ∀ cs, x ≠ .pb true cs) : Rep w ok v x := by
  cases h with
  | rd _ _ _ _ _ h => exact h
  | nil => exact (h1 _ _ rfl).elim
  | emp => exact (h1 _ _ rfl).elim
  | sl => exact (h1 _ _ rfl).elim
  | pb => exact (h2 _ rfl).elim
theorem args2 {w : Go.World} {ok : Nat → Prop} {G : Fp} {args : List Value} {x y : AV} (h : ArgsRep w ok G args [x, y]) : ∃ u v, args = [u, v] ∧ OwnA w ok (G 0) u x ∧ OwnA w ok (G 1) v y := by
  match args, h.len with
  | [u, v], _ => exact ⟨u, v, rfl, h.own 0 u x rfl rfl, h.own 1 v y rfl rfl⟩
end Go.Proofs.YtkkmgjhfjhcdmaaGreatDoor.Mx
