/- A machine over values for Go functions, proved sound, and functions run on it: texts O2, O3, O4, O5. -/
import Derived.IntWalk
import Derived.Laws.StructEq
import Derived.WideShapes
import Derived.Test.YtkkmgjhfjhcdmaaGreatDoorFnFetchXaa
set_option linter.all false
namespace Go.Proofs.YtkkmgjhfjhcdmaaGreatDoor.Mx
open Go Go.RowKit
theorem wr_wrap (k : IntKind) (n : Int) : k.wrap n = wr k n := by
  cases k <;> first | rfl | (simp only [wr, wrap64]; rw [IntKind.wrap_i64])
theorem eqs_eq (a b : ByteArray) : (a.toList == b.toList) = eqs a b := by
  rw [ByteArray.toList_eq, ByteArray.toList_eq]
  unfold eqs
  by_cases h : a = b
  · subst h; simp
  · have : a.data.toList ≠ b.data.toList := fun e => h (WideShapes.bytes_inj e)
    rw [decide_eq_false h]
    exact beq_eq_false_iff_ne.2 this
theorem bopI_ok {P : Program} {w : World} {t : TypeId} {op : BinOp} {d : IntKind} {x y : Int} {v : Value} (hs : op ≠ .shl) (hs2 : op ≠ .shr) (h : bopI op d x y = some v) :
    (binOp op t (.int d x) (.int d y)).run P w = .ok v w := by
  unfold bopI at h
  cases op <;> simp only [] at h <;> first
    | (cases h; done)
    | exact (hs rfl).elim
    | exact (hs2 rfl).elim
    | (obtain rfl := Option.some.inj h
       simp [binOp, Op.intArith, Op.intBits, Op.intCmp, wr_wrap]
       done)
    | (obtain rfl := Option.some.inj h
       simp [binOp, Op.intArith, Op.intBits, Op.intCmp, wr_wrap, bne, BEq.beq]
       done)
    | (split at h
       · rename_i h0
         obtain rfl := Option.some.inj h
         simp [binOp, Op.intDiv, h0, wr_wrap]
       · cases h)
    | skip
theorem bopS_ok {P : Program} {w : World} {t : TypeId} {op : BinOp} {x y : ByteArray} {v : Value} (h : bopS op x y = some v) :
    (binOp op t (.string x) (.string y)).run P w = .ok v w := by
  have hlt : Op.bytesLess x.toList y.toList = lts x y := by rw [ByteArray.toList_eq, ByteArray.toList_eq]; rfl
  have heq := eqs_eq x y
  have red : ∀ o, binOp o t (.string x) (.string y) = Op.stringOp o x y := fun o => by cases o <;> rfl
  rw [red]
  unfold bopS at h
  cases op <;> simp only [] at h <;> first
    | (cases h; done)
    | (obtain rfl := Option.some.inj h
       simp only [Op.stringOp, heq, hlt]; rfl)
    | (split at h
       · rename_i hle
         obtain rfl := Option.some.inj h
         have : ¬ ((x.size + y.size : Nat) : Int) > IntKind.i64.max := by simp [IntKind.max, IntKind.signed, IntKind.bits]; omega
         simp only [Op.stringOp, this, if_false, Sem.run_pure]
       · cases h)
theorem guard_ok {P : Program} {w : World} {t : TypeId} {op : BinOp} {x y : Value} {ox oy : Operand} (h1 : plain x = true) (h2 : plain y = true) (h : x ≠ .nilIface ∨ y ≠ .nilIface) : (eqGuard op t ox oy x y).run P w = .ok () w := by
  unfold eqGuard
  cases x <;> first | (simp [plain] at h1; done) | skip
  all_goals (cases y <;> first | (simp [plain] at h2; done) | (simp at h; done) | (cases op <;> rfl))
theorem bop_plain {op : BinOp} {x y v : Value} (h : bop op x y = some v) : plain x = true ∧ plain y = true ∧ x ≠ .nilIface := by
  unfold bop at h
  split at h <;> first | exact ⟨rfl, rfl, by simp⟩ | (cases h; done)
theorem bop_ok {P : Program} {w : World} {t : TypeId} {op : BinOp} {x y v : Value} {ox oy : Operand} (h : bop op x y = some v) :
    (do eqGuard op t ox oy x y; binOp op t x y : Sem Value).run P w = .ok v w := by
  obtain ⟨p1, p2, p3⟩ := bop_plain h
  simp only [Sem.run_bind, guard_ok p1 p2 (.inl p3), Result.andThen_ok]
  unfold bop at h
  split at h
  · split at h
    · rename_i hb
      obtain rfl := Option.some.inj h
      have hb : ¬ _ < (0 : Int) := Int.not_lt.2 hb
      simp only [binOp, Op.shift, hb, if_false, Sem.run_pure, wr_wrap]
    · cases h
  · split at h
    · rename_i hb
      obtain rfl := Option.some.inj h
      have hb : ¬ _ < (0 : Int) := Int.not_lt.2 hb
      simp only [binOp, Op.shift, hb, if_false, Sem.run_pure]
    · cases h
  · split at h
    · rename_i h1 h2 e
      subst e
      exact bopI_ok h1 h2 h
    · cases h
  · exact bopS_ok h
  · cases h
theorem bopI_val {op : BinOp} {d : IntKind} {x y : Int} {v : Value} (h : bopI op d x y = some v) : plain v = true := by
  unfold bopI at h
  cases op <;> simp only [] at h <;> first
    | (cases h; done)
    | (obtain rfl := Option.some.inj h; rfl)
    | (split at h
       · obtain rfl := Option.some.inj h; rfl
       · cases h)
theorem bopS_val {op : BinOp} {x y : ByteArray} {v : Value} (h : bopS op x y = some v) : plain v = true := by
  unfold bopS at h
  cases op <;> simp only [] at h <;> first
    | (cases h; done)
    | (obtain rfl := Option.some.inj h; rfl)
    | (split at h
       · obtain rfl := Option.some.inj h; rfl
       · cases h)
theorem bop_val {op : BinOp} {x y v : Value} (h : bop op x y = some v) : plain v = true := by
  unfold bop at h
  split at h
  · split at h
    · obtain rfl := Option.some.inj h; rfl
    · cases h
  · split at h
    · obtain rfl := Option.some.inj h; rfl
    · cases h
  · split at h
    · exact bopI_val h
    · cases h
  · exact bopS_val h
  · cases h
theorem beq_ok {P : Program} {w : World} {t : TypeId} {op : BinOp} {a c : Bool} {v : Value} {ox oy : Operand} (h : P.underlying t = some .bool) (hv : bopB op a c = some v) :
    (do eqGuard op t ox oy (.bool a) (.bool c); binOp op t (.bool a) (.bool c) : Sem Value).run P w = .ok v w := by
  have e := run_equalIn_bool (P := P) w 9999 t a c h
  have g := guard_ok (P := P) (w := w) (t := t) (op := op) (x := .bool a) (y := .bool c) (ox := ox) (oy := oy) rfl rfl (.inl (by simp))
  unfold bopB at hv
  split at hv
  · cases hv; simp only [Sem.run_bind, g, Result.andThen_ok, binOp, Op.equal, Op.maxDepth, e, Sem.run_pure]
  · cases hv; simp only [Sem.run_bind, g, Result.andThen_ok, binOp, Op.equal, Op.maxDepth, e, Sem.run_pure]
  · cases hv
theorem uop_ok {P : Program} {w : World} {op : UnOp} {x v : Value} (h : uop op x = some v) : (Op.unary op x).run P w = .ok v w := by
  unfold uop at h
  split at h
  · obtain rfl := Option.some.inj h; simp [Op.unary, Op.intArith, wr_wrap]
  · obtain rfl := Option.some.inj h; simp [Op.unary]
  · cases h
theorem uop_val {op : UnOp} {x v : Value} (h : uop op x = some v) : plain v = true := by
  unfold uop at h
  split at h
  · obtain rfl := Option.some.inj h; rfl
  · obtain rfl := Option.some.inj h; rfl
  · cases h
section
variable {w0 : World} {M R : Nat → Prop} {γ : Gs} {φ : Fp} {tv : Tv} {sv : Sv} {a : Act} {w : World} {P : Program} {ok : Nat → Prop}
theorem rep_sc {u v : Value} (h : RepV w ok γ v (.sc u)) : v = u ∧ plain u = true := by
  have h : Rep w ok v (.sc u) := h
  cases h; exact ⟨rfl, ‹_›⟩
theorem rep_sc' {u : Value} (h : plain u = true) : RepV w ok γ u (.sc u) := Rep.sc u h
theorem rep_no {v : Value} : RepV w ok γ v .no := Rep.no v
theorem rep_er {v : Value} (h : RepV w ok γ v .er) : ∃ t u, v = .iface t u := by
  have h : Rep w ok v .er := h
  cases h; exact ⟨_, _, rfl⟩
theorem opv_ok (h : Sim w0 M R γ φ tv sv a w) (x : Operand) : RepV w (okOf w0 M R φ sv w) γ (a.eval x) (opv tv x) := by
  cases x with
  | tmp t => simpa [Act.eval, opv] using h.tm t
  | const v =>
    simp only [Act.eval, opv, scp]
    cases hp : plain v
    · exact rep_no
    · exact rep_sc' hp
  | global g => exact rep_no
  | func f => exact rep_no
theorem toI_ok {v : Value} {x : AV} {n : Int} (h : RepV w ok γ v x) (hx : toI x = some n) : ∃ k, v = .int k n := by
  unfold toI at hx
  split at hx
  · cases hx; exact ⟨_, (rep_sc h).1⟩
  · cases hx
theorem eq1_ok {T : Ty} (hT : TOk P T) {t : TypeId} {ti : TI} (ht : T t = some ti) {x y : AV} {u v : Value} {q : Bool}
    (hx : RepC w ok γ u x) (hy : RepC w ok γ v y) (h : eq1 ti.kind x y = some q) (n : Nat) : (Op.equalIn (n + 1) t u v).run P w = .ok q w ∧ (isAgg t).run P w = .ok false w := by
  have hag := isAgg_run (w := w) (hT t ti ht)
  have hkd := (hT t ti ht).kd
  generalize ti.kind = tk at h hkd hag
  unfold eq1 at h
  split at h
  · have h1 : Rep w ok u _ := hx
    have h2 : Rep w ok v _ := hy
    cases h1; cases h2
    split at h
    · rename_i e
      subst e
      cases h
      exact ⟨by simp [Op.equalIn, run_underlying hkd, BEq.beq], hag⟩
    · cases h
  · have h1 : Rep w ok u _ := hx
    have h2 : Rep w ok v _ := hy
    cases h1; cases h2
    cases h
    exact ⟨by simp only [Op.equalIn, Sem.run_bind, run_underlying hkd, Result.andThen_ok, Sem.run_pure, beq_toListBytes, eqs_eq], hag⟩
  · have h1 : Rep w ok u _ := hx
    have h2 : Rep w ok v _ := hy
    cases h1; cases h2
    cases h
    exact ⟨by simp [Op.equalIn, run_underlying hkd], hag⟩
  · cases h
theorem eqF_ok {T : Ty} (hT : TOk P T) (n : Nat) (xs ys : List Value) : ∀ (fs : List Field) (k : Nat) (r q : Row) (b : Bool), (∀ f ∈ fs, f.name ≠ "_") →
    (∀ j v x, xs[k + j]? = some v → r[j]? = some x → RepC w ok γ v x) → (∀ j v x, ys[k + j]? = some v → q[j]? = some x → RepC w ok γ v x) → xs.length = k + r.length → ys.length = k + q.length →
    eqF T (fs.map fun f => (f.offset, f.type)) k r q = some b → (Op.eqFields (n + 1) xs.toArray ys.toArray fs).run P w = .ok b w
  | [], k, r, q, b, _, _, _, _, _, h => by simp [eqF] at h; subst h; simp [Op.eqFields]
  | f :: fs, k, [], q, b, _, _, _, _, _, h => by simp [eqF] at h
  | f :: fs, k, x :: r, [], b, _, _, _, _, _, h => by simp [eqF] at h
  | f :: fs, k, x :: r, y :: q, b, hn, hx, hy, hlx, hly, h => by
    simp only [List.map_cons, eqF, cond_eq_ite, beq_iff_eq] at h
    split at h
    · rename_i hoff
      split at h
      · rename_i ti hti
        split at h
        · rename_i b1 b2 h1 h2
          cases h
          have hkx : k < xs.length := by simp at hlx; omega
          have hky : k < ys.length := by simp at hly; omega
          obtain ⟨e1, e2⟩ := eq1_ok hT hti (hx 0 xs[k] x (by simp [hkx]) rfl) (hy 0 ys[k] y (by simp [hky]) rfl) h1 n
          have ih := eqF_ok hT n xs ys fs (k + 1) r q b2 (fun f hf => hn f (by simp [hf])) (fun j v x' h1 h2 => hx (j + 1) v x' (by rw [← h1]; congr 1; omega) (by simpa using h2))
            (fun j v x' h1 h2 => hy (j + 1) v x' (by rw [← h1]; congr 1; omega) (by simpa using h2)) (by simp at hlx; omega) (by simp at hly; omega) h2
          have p1 : (Go.part f.type xs.toArray f.offset).run P w = .ok xs[k] w := by simp [Go.part, e2, hoff, hkx]
          have p2 : (Go.part f.type ys.toArray f.offset).run P w = .ok ys[k] w := by simp [Go.part, e2, hoff, hky]
          simp only [Op.eqFields, hn f (by simp), ne_eq, not_false_eq_true, if_true, Sem.run_bind, p1, p2, Result.andThen_ok, e1]
          cases b1
          · simp
          · simp [ih]
        · cases h
      · cases h
    · cases h
theorem eqAg_ok {T : Ty} (hT : TOk P T) {t : TypeId} {ti : TI} (ht : T t = some ti) {fs : List (Nat × TypeId)} (hk : ti.kind = .struct fs) (hc : ti.cmp = true) {r q : Row} {u v : Value} {b : Bool}
    (hx : RepA w ok γ u (.ag r)) (hy : RepA w ok γ v (.ag q)) (h : eqF T fs 0 r q = some b) {ox oy : Operand} :
    (do eqGuard .eql t ox oy u v; binOp .eql t u v : Sem Value).run P w = .ok (.bool b) w ∧ (do eqGuard .neq t ox oy u v; binOp .neq t u v : Sem Value).run P w = .ok (.bool !b) w := by
  obtain ⟨xs, rfl, hxl, hxr⟩ := hx
  obtain ⟨ys, rfl, hyl, hyr⟩ := hy
  obtain ⟨c1, c2, c3⟩ := (hT t ti ht).cm hc
  have hkd := (hT t ti ht).kd
  rw [hk] at hkd
  obtain ⟨fa, hu, hfa⟩ := hkd
  have hfo : P.fieldsOf t = fa := by simp [Program.fieldsOf, hu]
  have hu' : P.underlying t = some (.struct (P.fieldsOf t)) := by rw [hfo]; exact hu
  have e := run_equalIn_struct w 9999 t xs.toArray ys.toArray hu' c1
  rw [hfo] at e
  have e2 := eqF_ok (P := P) (w := w) hT 9998 xs ys fa.toList 0 r q b (fun f hf => c3 fa hu f (by simpa using hf)) (fun j v x h1 h2 => (hxr j v x (by simpa using h1) h2).1) (fun j v x h1 h2 => (hyr j v x (by simpa using h1) h2).1) (by simpa using hxl) (by simpa using hyl) (by rw [hfa]; exact h)
  rw [e2] at e
  constructor
  · simp only [Sem.run_bind, run_eqGuard_agg w _ t ox oy _ _ c2, Result.andThen_ok, run_eql_struct, e]
  · simp only [Sem.run_bind, run_eqGuard_agg w _ t ox oy _ _ c2, Result.andThen_ok, run_neq_struct, e]
end
end Go.Proofs.YtkkmgjhfjhcdmaaGreatDoor.Mx

namespace Go.Proofs.YtkkmgjhfjhcdmaaGreatDoor.Mx
open Go Go.RowKit
section
variable {w0 : World} {M R : Nat → Prop} {γ : Gs} {φ : Fp} {tv : Tv} {sv : Sv} {a : Act} {w : World} {P : Program} {T : Ty}
theorem syncF_app (u v : List (Nat × Option Blk)) (s : Sv) : syncF (u ++ v) s = syncF v (syncF u s) := by
  induction u generalizing s with
  | nil => rfl
  | cons p u ih => obtain ⟨m, B⟩ := p; simp only [List.cons_append, syncF, ih]
theorem Sim.nilN (h : Sim w0 M R γ φ tv sv a w) {n : Nat} (hn : γ n = none) (z : Nat) :
    Sim w0 M R (γN γ n (.slice none 0 0, z)) (φN φ n fun _ => False) tv (updS sv n (some (.ar z 0 []))) a w ∧ ∀ b, okOf w0 M R φ sv w b → okOf w0 M R (φN φ n fun _ => False) (updS sv n (some (.ar z 0 []))) w b := by
  have := h.new hn [] (fun k hk => by cases hk) (w' := w) (g := (.slice none 0 0, z)) (F := fun _ => False) (B := .ar z 0 []) rfl rfl rfl (Kp.refl _) (Nat.le_refl _) (fun _ _ _ => rfl) (fun b hb => hb.elim) (fun hok => ⟨_, γN_self, .nil _ _⟩)
  exact ⟨this.1, fun b hb => (this.2 b hb).1⟩
theorem zbox_ok (b0 : Nat) : ∀ (vs : List Value) (cz : List (Option Nat)) (b : Nat) {γ : Gs} {φ : Fp} {sv : Sv}, Sim w0 M R γ φ tv sv a w → (∀ n, b ≤ n → n < b + vs.length → γ n = none) →
    (∀ (k z : Nat), cz[k]? = some (some z) → vs[k]? = some (.slice none 0 0)) →
    ∃ γ' φ', (∀ n, ¬ (b ≤ n ∧ n < b + vs.length) → γ' n = γ n ∧ φ' n = φ n) ∧ (∀ m g, γ m = some g → γ' m = some g) ∧ (∀ c, okOf w0 M R φ sv w c → okOf w0 M R φ' (syncF (zbox b vs cz).2 sv) w c) ∧
      Sim w0 M R γ' φ' tv (syncF (zbox b vs cz).2 sv) a w ∧ (zbox b vs cz).1.length = vs.length ∧
      ∀ (j : Nat) (v : Value) (x : AV), vs[j]? = some v → (zbox b vs cz).1[j]? = some x → RepC w (okOf w0 M R φ' (syncF (zbox b vs cz).2 sv) w) γ' v x
  | [], cz, b, γ, φ, sv, h, _, _ => ⟨γ, φ, fun _ _ => ⟨rfl, rfl⟩, fun _ _ h => h, fun _ h => by simpa [zbox, syncF] using h, by simpa [zbox, syncF] using h, by simp [zbox], fun j v x hv _ => by simp at hv⟩
  | u :: vs, cz, b, γ, φ, sv, h, hf, hc => by
    have plainCase : ∀ (cz' : List (Option Nat)), (∀ (k z : Nat), cz'[k]? = some (some z) → vs[k]? = some (.slice none 0 0)) → zbox b (u :: vs) cz = (scp u :: (zbox (b + 1) vs cz').1, (zbox (b + 1) vs cz').2) →
        ∃ γ' φ', (∀ n, ¬ (b ≤ n ∧ n < b + (u :: vs).length) → γ' n = γ n ∧ φ' n = φ n) ∧ (∀ m g, γ m = some g → γ' m = some g) ∧ (∀ c, okOf w0 M R φ sv w c → okOf w0 M R φ' (syncF (zbox b (u :: vs) cz).2 sv) w c) ∧
      Sim w0 M R γ' φ' tv (syncF (zbox b (u :: vs) cz).2 sv) a w ∧ (zbox b (u :: vs) cz).1.length = (u :: vs).length ∧
      ∀ (j : Nat) (v : Value) (x : AV), (u :: vs)[j]? = some v → (zbox b (u :: vs) cz).1[j]? = some x → RepC w (okOf w0 M R φ' (syncF (zbox b (u :: vs) cz).2 sv) w) γ' v x := by
      intro cz' hc' he
      obtain ⟨γ', φ', h1, h2, h3, h4, h5, h6⟩ := zbox_ok b0 vs cz' (b + 1) h (fun n h1 h2 => hf n (by omega) (by simp; omega)) hc'
      rw [he]
      refine ⟨γ', φ', fun n hn => h1 n (fun hh => hn (by simp at hh ⊢; omega)), h2, h3, h4, by simp [h5], ?_⟩
      intro j v x hv hx
      cases j with
      | zero =>
        simp at hv hx
        subst hv hx
        unfold scp
        cases hp : plain u
        · exact Rep.no _
        · exact Rep.sc _ hp
      | succ j => exact h6 j v x (by simpa using hv) (by simpa using hx)
    cases cz with
    | nil => exact plainCase [] (fun k z hk => by simp at hk) (by simp [zbox])
    | cons c cz =>
      cases c with
      | none => exact plainCase cz (fun k z hk => by have := hc (k + 1) z (by simpa using hk); simpa using this) (by simp [zbox])
      | some z =>
        have hu : u = .slice none 0 0 := by simpa using hc 0 z (by simp)
        subst hu
        have hfb := hf b (Nat.le_refl _) (by simp)
        obtain ⟨hs1, ho1⟩ := h.nilN hfb z
        obtain ⟨γ', φ', h1, h2, h3, h4, h5, h6⟩ := zbox_ok b0 vs cz (b + 1) hs1 (fun n h1 h2 => by rw [γN_ne (by omega)]; exact hf n (by omega) (by simp; omega)) (fun k z hk => by have := hc (k + 1) z (by simpa using hk); simpa using this)
        have he : zbox b (.slice none 0 0 :: vs) (some z :: cz) = (.ow b 0 0 :: (zbox (b + 1) vs cz).1, (b, some (.ar z 0 [])) :: (zbox (b + 1) vs cz).2) := by simp [zbox]
        rw [he]
        refine ⟨γ', φ', ?_, ?_, ?_, ?_, by simp [h5], ?_⟩
        · intro n hn
          have hne : n ≠ b := fun e => hn (by subst e; simp)
          obtain ⟨g1, g2⟩ := h1 n (fun hh => hn (by simp at hh ⊢; omega))
          rw [γN_ne hne] at g1
          rw [φN_ne hne] at g2
          exact ⟨g1, g2⟩
        · intro m g hg
          exact h2 m g (γN_ext hfb m g hg)
        · intro c hcok
          exact h3 c (ho1 c hcok)
        · exact h4
        · intro j v x hv hx
          cases j with
          | zero =>
            simp at hv hx
            subst hv hx
            exact ⟨_, z, h2 b _ γN_self, rfl, rfl, rfl⟩
          | succ j => exact h6 j v x (by simpa using hv) (by simpa using hx)
theorem move_ok (hT : TOk P T) (h : Sim w0 M R γ φ tv sv a w) {b : Nat} (hf : Fresh γ b) {x : Operand} {ty : TypeId} {d : Dl} (hd : aop T (.move x) ty b tv sv = some d) :
    OpRes P w0 M R γ tv sv a w b (pure (.value (a.eval x))) d := by
  simp only [aop] at hd
  cases hx : isNil x with
  | false =>
    rw [hx] at hd
    simp only [cond_false] at hd
    cases hd
    exact opres_pure' h (opv_ok h x)
  | true =>
    rw [hx] at hd
    simp only [cond_true] at hd
    split at hd
    · rename_i te he
      cases hd
      have hv : a.eval x = .slice none 0 0 := by
        unfold isNil at hx
        split at hx
        · rfl
        · cases hx
      rw [hv]
      have hb := hf b (Nat.le_refl _) (by omega)
      obtain ⟨hs, _⟩ := h.nilN hb te.size
      exact ⟨_, w, _, _, .inl (by simp), fun n hn => by rw [γN_ne (by omega)], hs, _, te.size, γN_self, rfl, rfl, rfl⟩
    · cases hd
theorem Sim.boxN (h : Sim w0 M R γ φ tv sv a w) {n : Nat} (hn : γ n = none) {cs : Row} {cur : Array Value} {e : TypeId} (hl : cs.length ≤ cur.size) (h1 : ∀ (j : Nat) (v : Value), cur[j]? = some v → v.oneCell' = true)
    (hr : ∀ (j : Nat) (v : Value) (x : AV), cur[j]? = some v → cs[j]? = some x → RepC w (okOf w0 M R φ sv w) γ v x) :
    Sim w0 M R (γN γ n (.pointer (some ⟨w.heap.size, 0, none⟩), 0)) (φN φ n fun b => b = w.heap.size) tv (updS sv n (some (.bx cs))) a (w.alloc (.cells cur e)) := by
  refine (h.new hn [] (fun k hk => by cases hk) (w' := w.alloc (.cells cur e)) (g := (.pointer (some ⟨w.heap.size, 0, none⟩), 0)) (F := fun b => b = w.heap.size) (B := .bx cs) rfl rfl rfl (Kp.old fun k hk => by rw [alloc_heap, if_neg (by omega)]) (by rw [alloc_size]; omega)
    (fun b hb _ => by rw [alloc_heap, if_neg (by omega)]) (fun b hb => by subst hb; rw [alloc_size]; exact ⟨by omega, .inl (Nat.le_refl _)⟩) (fun hok => ?_)).1
  refine ⟨w.heap.size, cur, e, (0, 0), γN_self, by rw [φN_self], by rw [alloc_heap, if_pos rfl], fun o ho => by simp, hl, fun j x hj => ?_⟩
  have hj' : j < cur.size := Nat.lt_of_lt_of_le (idx_lt hj) hl
  have hv := getD_some (d := undef) hj'
  exact ⟨(hr j _ x hv hj).mono hok (γN_ext hn), h1 j _ hv⟩
theorem box_run {e : TypeId} {v : Value} : (Instr.box e v).run P w = .ok (.pointer (some ⟨w.heap.size, 0, none⟩)) (w.alloc (.cells v.cells e)) := by
  simp [Instr.box, newVar, newRow]
theorem cells_rep {ok : Nat → Prop} {v : Value} {x : AV} {cs : Row} (hv : RepV w ok γ v x) (hc : cellsOf x = some cs) :
    v.cells.size = cs.length ∧ (∀ (j : Nat) (u : Value), v.cells[j]? = some u → u.oneCell' = true) ∧ ∀ (j : Nat) (u : Value) (y : AV), v.cells[j]? = some u → cs[j]? = some y → RepC w ok γ u y := by
  have single : (∀ l, x ≠ .ag l) → x ≠ .no → (∀ l, x ≠ .tu l) → RepC w ok γ v x → cs = [x] → v.cells.size = cs.length ∧ (∀ (j : Nat) (u : Value), v.cells[j]? = some u → u.oneCell' = true) ∧ ∀ (j : Nat) (u : Value) (y : AV), v.cells[j]? = some u → cs[j]? = some y → RepC w ok γ u y := by
    intro hx hno htu hr he
    subst he
    have hna : v.oneCell' = true ∧ v.cells = #[v] := by
      cases x with
      | ag l => exact (hx l rfl).elim
      | no => exact (hno rfl).elim
      | tu l => exact (htu l rfl).elim
      | ow m lo n =>
        obtain ⟨v0, z, _, hs⟩ := hr
        unfold Sub at hs
        split at hs
        · obtain ⟨rfl, _⟩ := hs; exact ⟨rfl, rfl⟩
        · obtain ⟨o', c', rfl, _⟩ := hs; exact ⟨rfl, rfl⟩
        · exact hs.elim
      | pt m i j =>
        obtain ⟨v0, z, _, hs⟩ := hr
        unfold PtAt at hs
        split at hs
        · obtain ⟨_, rfl⟩ := hs; exact ⟨rfl, rfl⟩
        · obtain ⟨_, rfl⟩ := hs; exact ⟨rfl, rfl⟩
        · exact hs.elim
      | mv m => obtain ⟨r, z, rfl, _⟩ := hr; exact ⟨rfl, rfl⟩
      | sc u =>
        have hr : Rep w ok v (.sc u) := hr
        cases hr with
        | sc _ hp => cases v <;> first | exact ⟨rfl, rfl⟩ | (simp [plain] at hp; done)
      | er => have hr : Rep w ok v .er := hr; cases hr; exact ⟨rfl, rfl⟩
      | sl o z r => have hr : Rep w ok v (.sl o z r) := hr; cases hr <;> exact ⟨rfl, rfl⟩
      | pb o c => have hr : Rep w ok v (.pb o c) := hr; cases hr; exact ⟨rfl, rfl⟩
      | mc es => have hr : Rep w ok v (.mc es) := hr; cases hr; exact ⟨rfl, rfl⟩
    rw [hna.2]
    refine ⟨rfl, fun j u hu => ?_, fun j u y hu hy => ?_⟩
    · cases j with
      | zero => simp at hu; subst hu; exact hna.1
      | succ j => simp at hu
    · cases j with
      | zero => simp at hu hy; subst hu hy; exact hr
      | succ j => simp at hu
  cases x with
  | ag l =>
    simp only [cellsOf] at hc
    cases hc
    obtain ⟨vs, rfl, hl, hr⟩ := hv
    refine ⟨by simpa [Value.cells] using hl, fun j u hu => ?_, fun j u y hu hy => (hr j u y (by simpa [Value.cells] using hu) hy).1⟩
    have hu' : vs[j]? = some u := by simpa [Value.cells] using hu
    have hj := idx_lt hu'
    exact (hr j u cs[j] hu' (by rw [List.getElem?_eq_getElem])).2
  | no => simp [cellsOf] at hc
  | tu l => simp [cellsOf] at hc
  | _ =>
    simp only [cellsOf, Option.some.injEq] at hc
    exact single (fun _ => by simp) (by simp) (fun _ => by simp) (by simpa only [RepV, RepA] using hv) hc.symm
theorem box_ok (h : Sim w0 M R γ φ tv sv a w) {b : Nat} (hf : Fresh γ b) {e : TypeId} {x : Operand} {cs : Row} (hc : cellsOf (opv tv x) = some cs) :
    OpRes P w0 M R γ tv sv a w b (do pure (.value (← Instr.box e (a.eval x)))) ⟨.pt b 0 0, [(b, some (.bx cs))]⟩ := by
  obtain ⟨h1, h2, h3⟩ := cells_rep (opv_ok h x) hc
  have hs := h.boxN (hf b (Nat.le_refl _) (by omega)) (cs := cs) (cur := (a.eval x).cells) (e := e) (by omega) h2 h3
  exact ⟨_, _, _, _, .inl (by simp only [Sem.run_bind, box_run, Result.andThen_ok, Sem.run_pure]), fun n hn => by rw [γN_ne (by omega)], hs, _, 0, γN_self, rfl, rfl⟩
theorem pt_rep {ok : Nat → Prop} {m c : Nat} (h : γ m = some (.pointer (some ⟨c, 0, none⟩), 0)) : RepV w ok γ (.pointer (some ⟨c, 0, none⟩)) (.pt m 0 0) := ⟨_, 0, h, rfl, rfl⟩
theorem alloc_run {e : TypeId} {ti : TI} (ht : TyOk P e ti) : ∃ cur : Array Value, cur.toList = ti.zero ∧ (Instr.alloc e true (.tuple #[])).run P w = .ok (.pointer (some ⟨w.heap.size, 0, none⟩)) (w.alloc (.cells cur e)) := by
  obtain ⟨z, h1, h2⟩ := zero_run (w := w) ht
  exact ⟨z.cells, h2, by simp [Instr.alloc, h1, newVar, newRow]⟩
theorem alloc_ok (hT : TOk P T) (h : Sim w0 M R γ φ tv sv a w) {b : Nat} (hf : Fresh γ b) {e : TypeId} {ti : TI} (ht : T e = some ti) :
    OpRes P w0 M R γ tv sv a w b (do pure (.value (← Instr.alloc e true (.tuple #[])))) ⟨.pt b 0 0, (zbox (b + 1) ti.zero ti.cz).2 ++ [(b, some (.bx (zbox (b + 1) ti.zero ti.cz).1))]⟩ := by
  have hti := hT e ti ht
  obtain ⟨cur, hcur, hrun⟩ := alloc_run (w := w) hti
  have hsz : ti.zero.length ≤ 60 := by rw [hti.zl]; exact hti.sm
  obtain ⟨γ', φ', h1, h2, h3, h4, h5, h6⟩ := zbox_ok b ti.zero ti.cz (b + 1) h (fun n h1 h2 => hf n (by omega) (by omega)) hti.cz
  have hb : γ' b = none := by rw [(h1 b (by omega)).1]; exact hf b (Nat.le_refl _) (by omega)
  have hs := h4.boxN hb (cs := (zbox (b + 1) ti.zero ti.cz).1) (cur := cur) (e := e) (by rw [h5, ← hcur]; simp) (fun j v hv => hti.zc v (by rw [← hcur]; exact List.mem_of_getElem? (by simpa using hv)))
    (fun j v x hv hx => h6 j v x (by rw [← hcur]; simpa using hv) hx)
  rw [← show syncF ((zbox (b + 1) ti.zero ti.cz).2 ++ [(b, some (.bx (zbox (b + 1) ti.zero ti.cz).1))]) sv = updS (syncF (zbox (b + 1) ti.zero ti.cz).2 sv) b (some (.bx (zbox (b + 1) ti.zero ti.cz).1)) from by rw [syncF_app]; rfl] at hs
  exact ⟨_, _, _, _, .inl (by simp only [Sem.run_bind, hrun, Result.andThen_ok, Sem.run_pure]), fun n hn => by rw [γN_ne (by omega)]; exact (h1 n (by omega)).1, hs, pt_rep γN_self⟩
end
end Go.Proofs.YtkkmgjhfjhcdmaaGreatDoor.Mx

namespace Go.Proofs.YtkkmgjhfjhcdmaaGreatDoor.Mx
open Go Go.RowKit
section
variable {w0 : World} {M R : Nat → Prop} {γ : Gs} {φ : Fp} {tv : Tv} {sv : Sv} {a : Act} {w : World} {P : Program} {T : Ty} {ok : Nat → Prop}
theorem seg_get {α : Type} {r : List α} {lo n i : Nat} (h : i < n) : (seg r lo n)[i]? = r[lo + i]? := by
  unfold seg
  rw [List.getElem?_take_of_lt h, List.getElem?_drop]
theorem seg_len {α : Type} {r : List α} {lo n : Nat} (h : lo + n ≤ r.length) : (seg r lo n).length = n := by
  unfold seg
  rw [List.length_take, List.length_drop]
  omega
theorem Rep.sub {v0 v : Value} {o o' : Bool} {z lo n : Nat} {rows : List Row} (r : Rep w ok v0 (.sl o z rows)) (hs : Sub v0 z lo n v) : Rep w ok v (.sl o' z (seg rows lo n)) := by
  cases r with
  | nil =>
    obtain ⟨rfl, rfl, rfl⟩ := hs
    exact .nil _ _
  | emp _ _ A cap =>
    obtain ⟨b, off, q⟩ := A
    cases q with
    | none =>
      obtain ⟨p, cap', rfl, hle, hc, ho⟩ := hs
      have : n = 0 := by omega
      subst this
      rw [show seg ([] : List Row) lo 0 = [] from rfl.trans (by simp [seg])]
      exact .emp _ _ _ _
    | some q =>
      exact hs.elim
  | sl _ _ b off cap _ vs h1 h2 h3 h4 h5 =>
    obtain ⟨p, cap', rfl, hle, hc, ho⟩ := hs
    have hl := seg_len (r := rows) hle
    by_cases hn : n = 0
    · subst hn
      have : seg rows lo 0 = [] := List.eq_nil_of_length_eq_zero hl
      rw [this]
      exact Rep.sl (rows := []) o' z b p cap' (fun _ _ => undef) h1 (Nat.zero_le _) (fun i row hi => by simp at hi) (fun i row j x hi => by simp at hi) (fun i row j x hi => by simp at hi)
    · have hp : p = off + lo * z := by
        rcases ho with h | h
        · exact h.1
        · omega
      have key : ∀ i row, (seg rows lo n)[i]? = some row → rows[lo + i]? = some row := fun i row hi => by
        have := idx_lt hi
        rw [seg_get (by omega)] at hi
        exact hi
      have hR := Rep.sl (w := w) (ok := ok) o' z b p cap' (seg rows lo n) (fun i j => vs (lo + i) j) h1 (by omega) (fun i row hi => h3 _ _ (key i row hi)) (fun i row j x hi hj => by
          have := h4 _ _ j x (key i row hi) hj
          rw [Nat.add_mul] at this
          rw [hp, show off + lo * z + (i * z + j) = off + (lo * z + i * z + j) by omega]
          exact this) (fun i row j x hi hj => h5 _ _ j x (key i row hi) hj)
      rw [hl] at hR
      exact hR
theorem Sub.trans {v0 v v' : Value} {z lo n l k : Nat} (h : Sub v0 z lo n v) (h' : Sub v z l k v') : Sub v0 z (lo + l) k v' := by
  unfold Sub at h
  split at h
  · obtain ⟨rfl, rfl, rfl⟩ := h
    obtain ⟨rfl, rfl, rfl⟩ := h'
    exact ⟨rfl, rfl, rfl⟩
  · obtain ⟨o', c', rfl, h1, h2, h3⟩ := h
    obtain ⟨o'', c'', rfl, k1, k2, k3⟩ := h'
    refine ⟨o'', c'', rfl, by omega, k2, ?_⟩
    rcases k3 with ⟨e, hc⟩ | hc
    · rcases h3 with ⟨e2, hc2⟩ | hc2
      · left
        refine ⟨?_, by omega⟩
        rw [e, e2, Nat.add_mul]; omega
      · right; omega
    · exact .inr hc
  · exact h.elim
theorem Sub.idx {v0 v : Value} {z lo n i : Nat} (h : Sub v0 z lo n v) (hi : i < n) : ∃ b o' cap', v = .slice (some ⟨b, o', none⟩) n cap' ∧ PtAt v0 z (lo + i) 0 (.pointer (some ⟨b, o' + i * z, none⟩)) := by
  unfold Sub at h
  split at h
  · omega
  · obtain ⟨o', c', rfl, h1, h2, h3⟩ := h
    refine ⟨_, o', c', rfl, by omega, ?_⟩
    rcases h3 with ⟨e, _⟩ | e
    · rw [e, Nat.add_mul]; congr 3; omega
    · omega
  · exact h.elim
theorem Sub.len {v0 v : Value} {z lo n : Nat} (h : Sub v0 z lo n v) : ∃ ad cap, v = .slice ad n cap ∧ n ≤ cap := by
  unfold Sub at h
  split at h
  · obtain ⟨rfl, rfl, rfl⟩ := h; exact ⟨_, _, rfl, Nat.le_refl _⟩
  · obtain ⟨o', c', rfl, h1, h2, h3⟩ := h; exact ⟨_, _, rfl, h2⟩
  · exact h.elim
theorem nest_some {rows : List Row} {i j z : Nat} {r : List Row} (h : nest rows i j = some (z, r)) : ∃ row, rows[i]? = some row ∧ row[j]? = some (.sl true z r) := by
  unfold nest at h
  split at h
  · rename_i row hr
    split at h
    · rename_i hj
      cases h
      exact ⟨row, hr, hj⟩
    · cases h
  · cases h
theorem blkRows_ok (h : Sim w0 M R γ φ tv sv a w) {m z : Nat} {r : List Row} (hb : blkRows sv m = some (z, r)) : ∃ v0, γ m = some (v0, z) ∧ Rep w (fun b => b < w.heap.size) v0 (.sl true z r) := by
  have lo : ∀ b, okOf w0 M R φ sv w b → b < w.heap.size := fun b hb => hb.1
  unfold blkRows at hb
  split at hb
  · rename_i z' v' r' hm
    cases hb
    obtain ⟨v0, h1, h2⟩ := h.bk m _ hm
    exact ⟨v0, h1, h2.rep lo fun b hb => (h.nw m b (by unfold live; rw [hm]; rfl) hb).1⟩
  · rename_i z' r' hm
    cases hb
    obtain ⟨v0, h1, h2⟩ := h.bk m _ hm
    exact ⟨v0, h1, (h2.mono fun b hb => ⟨lo b hb, rfl⟩).flag⟩
  · rename_i p i j v hm
    split at hb
    · rename_i zp v' rp hp
      rw [cond_eq_ite] at hb
      split at hb
      · rename_i hv
        have hv : v = v' := by simpa using hv
        obtain ⟨_, _, h2⟩ := h.bk m _ hm
        obtain ⟨v0, b, off, len, cap, k1, k2, k3⟩ := (h2 zp v' rp hp).2 hv z r hb
        obtain ⟨vp, q1, q2⟩ := h.bk p _ hp
        rw [k2] at q1
        cases q1
        obtain ⟨row, hr, hj⟩ := nest_some hb
        have hlp : live sv p := by unfold live; rw [hp]; rfl
        cases q2 with
        | rd _ _ _ h1 => exact (h1 _ _ rfl).elim
        | emp => simp at hr
        | sl _ _ _ _ _ _ cur e fr Fs a1 a2 a3 a4 a5 a6 a7 a8 a9 a10 a11 =>
          have hj' := a11 i row j _ hr hj
          have hc := cell_some a2 (in_row (idx_lt hr) (by rw [← a9 i row hr]; exact idx_lt hj) a4 a5)
          rw [k3] at hc
          cases hc
          exact ⟨_, k1, hj'.rep lo fun b hb => (h.nw p b hlp (a7 i j b hb).1).1⟩
      · cases hb
    · cases hb
  · cases hb
theorem rowsOf_ok (h : Sim w0 M R γ φ tv sv a w) {v : Value} {x : AV} {z : Nat} {r : List Row} (hv : RepV w (okOf w0 M R φ sv w) γ v x) (hx : rowsOf sv x = some (z, r)) : Rep w (fun b => b < w.heap.size) v (.sl false z r) := by
  unfold rowsOf at hx
  split at hx
  · cases hx
    have hv : Rep w (okOf w0 M R φ sv w) v _ := hv
    exact (hv.mono fun b hb => ⟨hb.1, rfl⟩).flag
  · rename_i m lo n
    split at hx
    · rename_i z' r' hm
      cases hx
      obtain ⟨v0, k1, k2⟩ := blkRows_ok h hm
      obtain ⟨v0', z'', g1, g2⟩ := hv
      rw [k1] at g1
      cases g1
      exact k2.sub g2
    · cases hx
  · cases hx
theorem idx_run {t e : TypeId} {te : TI} (ht : P.underlying t = some (.slice e)) (he : TyOk P e te) (b o len cap : Nat) (k : IntKind) (i : Int) (h0 : 0 ≤ i) (h1 : i < (len : Int)) :
    (Instr.indexAt t (.slice (some ⟨b, o, none⟩) len cap) (.int k i)).run P w = .ok (.pointer (some ⟨b, o + i.toNat * te.size, none⟩)) w := by
  have hs := sizeOf_run (P := P) (w := w) he
  simp only [Instr.indexAt, asIntOf, Sem.run_bind, Sem.run_pure, Result.andThen_ok, run_underlying ht, h0, h1, and_self, if_true, hs, add_flat]
theorem idx_rep {t e : TypeId} {te : TI} (ht : P.underlying t = some (.slice e)) (he : TyOk P e te) {v : Value} {o : Bool} {r : List Row} {row : Row} {k : IntKind} {i : Int} (hi : 0 ≤ i) (hr : r[i.toNat]? = some row)
    (hv : Rep w ok v (.sl o te.size r)) : ∃ u, (Instr.indexAt t v (.int k i)).run P w = .ok u w ∧ Rep w ok u (.pb false row) := by
  have hl := idx_lt hr
  cases hv with
  | nil => simp at hl
  | emp => simp at hl
  | sl _ _ b off cap _ vs h1 h2 h3 h4 h5 =>
    refine ⟨_, idx_run ht he b off _ cap k i hi (by omega), ?_⟩
    refine .pb false b _ row (vs i.toNat) h1 (fun j x hj => ?_) (fun j x hj => h5 _ _ j x hr hj)
    rw [Nat.add_assoc]
    exact h4 _ _ j x hr hj
theorem indexAddr_ok (h : Sim w0 M R γ φ tv sv a w) {t e : TypeId} {te : TI} (ht : P.underlying t = some (.slice e)) (he : TyOk P e te) {v : Value} {x y : AV} {k : IntKind} {i : Int}
    (hv : RepV w (okOf w0 M R φ sv w) γ v x) (hy : pIndexAddr te.size x i sv = some y) : ∃ u, (Instr.indexAt t v (.int k i)).run P w = .ok u w ∧ RepV w (okOf w0 M R φ sv w) γ u y := by
  have owned : ∀ m lo n z v0, x = .ow m lo n → γ m = some (v0, z) → z = te.size → 0 ≤ i → i < (n : Int) → y = .pt m (lo + i.toNat) 0 → ∃ u, (Instr.indexAt t v (.int k i)).run P w = .ok u w ∧ RepV w (okOf w0 M R φ sv w) γ u y := by
    rintro m lo n z v0 rfl hg rfl h0 h1 rfl
    obtain ⟨v0', z', g1, g2⟩ := hv
    rw [hg] at g1
    cases g1
    obtain ⟨b, o', c', rfl, hp⟩ := g2.idx (i := i.toNat) (by omega)
    exact ⟨_, idx_run ht he b o' n c' k i h0 h1, _, _, hg, hp⟩
  unfold pIndexAddr at hy
  split at hy
  · rename_i o y0 r
    split at hy
    · rename_i row hr
      split at hy
      · rename_i hc
        obtain ⟨rfl, h0⟩ := hc
        cases hy
        exact idx_rep ht he h0 hr hv
      · cases hy
    · cases hy
  · rename_i m lo n
    split at hy
    · rename_i y0 ver rows hm
      split at hy
      · rename_i hc
        cases hy
        obtain ⟨v0, h1, _⟩ := h.bk m _ hm
        exact owned m lo n y0 v0 rfl h1 hc.1 hc.2.1 hc.2.2 rfl
      · cases hy
    · rename_i y0 r hm
      split at hy
      · rename_i row hr
        split at hy
        · rename_i hc
          obtain ⟨rfl, h0⟩ := hc
          cases hy
          obtain ⟨v0, h1, h2⟩ := h.bk m _ hm
          obtain ⟨v0', z', g1, g2⟩ := hv
          rw [h1] at g1
          cases g1
          exact idx_rep ht he h0 hr (h2.sub (o' := false) g2)
        · cases hy
      · cases hy
    · split at hy
      · rename_i y0 r0 hb
        split at hy
        · rename_i hc
          cases hy
          obtain ⟨v0, h1, _⟩ := blkRows_ok h hb
          exact owned m lo n y0 v0 rfl h1 hc.1 hc.2.1 hc.2.2 rfl
        · cases hy
      · cases hy
    · cases hy
  · cases hy
theorem cutOf_some {lo hi mx : Option Int} {n l k : Nat} (h : cutOf lo hi mx n = some (l, k)) :
    0 ≤ lo.getD 0 ∧ lo.getD 0 ≤ hi.getD n ∧ hi.getD n ≤ mx.getD n ∧ mx.getD n ≤ (n : Int) ∧ l = (lo.getD 0).toNat ∧ l + k = (hi.getD n).toNat ∧ l + k ≤ n := by
  unfold cutOf at h
  split at h
  · rename_i hc
    simp at h
    obtain ⟨h1, h2⟩ := h
    refine ⟨hc.1, hc.2.1, hc.2.2.1, hc.2.2.2, h1.symm, ?_, ?_⟩ <;> omega
  · cases h
theorem bounds_run {isS : Bool} {len cap : Nat} (hlc : len ≤ cap) {lo hi mx : Option Int} {vl vh vm : Option Value} {l k : Nat}
    (hl : ∀ n, lo = some n → ∃ d, vl = some (.int d n)) (hl0 : lo = none → vl = none) (hh : ∀ n, hi = some n → ∃ d, vh = some (.int d n)) (hh0 : hi = none → vh = none)
    (hm : ∀ n, mx = some n → ∃ d, vm = some (.int d n)) (hm0 : mx = none → vm = none) (hmh : mx ≠ none → hi ≠ none) (hc : cutOf lo hi mx len = some (l, k)) :
    ∃ m, (Instr.sliceBounds isS len cap vl vh vm).run P w = .ok (l, l + k, m) w ∧ l + k ≤ m ∧ m ≤ cap := by
  obtain ⟨c1, c2, c3, c4, c5, c6, c7⟩ := cutOf_some hc
  cases mx with
  | none =>
    obtain rfl := hm0 rfl
    simp only [Option.getD_none] at c3 c4
    refine ⟨cap, ?_, by omega, Nat.le_refl _⟩
    cases hi with
    | none =>
      obtain rfl := hh0 rfl
      cases lo with
      | none =>
        obtain rfl := hl0 rfl
        simp only [Option.getD_none] at *
        simp [Instr.sliceBounds]
        omega
      | some n =>
        obtain ⟨d, rfl⟩ := hl n rfl
        simp only [Option.getD_none, Option.getD_some] at *
        simp only [Instr.sliceBounds, Instr.sliceBound, asIntOf, Sem.run_bind, Sem.run_pure, Result.andThen_ok, Option.isSome_none]
        rw [if_pos (by omega)]
        simp
        omega
    | some q =>
      obtain ⟨d2, rfl⟩ := hh q rfl
      simp only [Option.getD_some] at *
      cases lo with
      | none =>
        obtain rfl := hl0 rfl
        simp only [Option.getD_none] at *
        simp only [Instr.sliceBounds, Instr.sliceBound, asIntOf, Sem.run_bind, Sem.run_pure, Result.andThen_ok]
        rw [if_pos (by omega)]
        simp
        omega
      | some n =>
        obtain ⟨d, rfl⟩ := hl n rfl
        simp only [Option.getD_some] at *
        simp only [Instr.sliceBounds, Instr.sliceBound, asIntOf, Sem.run_bind, Sem.run_pure, Result.andThen_ok, Option.isSome_none]
        rw [if_pos (by omega)]
        simp only [Sem.run_bind, Sem.run_pure, Result.andThen_ok]
        rw [if_pos (by omega)]
        simp
        omega
  | some u =>
    obtain ⟨d3, rfl⟩ := hm u rfl
    cases hi with
    | none => exact ((hmh (by simp)) rfl).elim
    | some q =>
      obtain ⟨d2, rfl⟩ := hh q rfl
      simp only [Option.getD_some] at *
      refine ⟨u.toNat, ?_, by omega, by omega⟩
      cases lo with
      | none =>
        obtain rfl := hl0 rfl
        simp only [Option.getD_none] at *
        simp only [Instr.sliceBounds, Instr.sliceBound, asIntOf, Sem.run_bind, Sem.run_pure, Result.andThen_ok]
        rw [if_pos (by omega)]
        simp only [Sem.run_bind, Sem.run_pure, Result.andThen_ok]
        rw [if_pos (by omega)]
        simp
        omega
      | some n =>
        obtain ⟨d, rfl⟩ := hl n rfl
        simp only [Option.getD_some] at *
        simp only [Instr.sliceBounds, Instr.sliceBound, asIntOf, Sem.run_bind, Sem.run_pure, Result.andThen_ok, Option.isSome_some]
        rw [if_pos (by omega)]
        simp only [Sem.run_bind, Sem.run_pure, Result.andThen_ok]
        rw [if_pos (by omega)]
        simp only [Sem.run_bind, Sem.run_pure, Result.andThen_ok]
        rw [if_pos (by omega)]
        simp
        omega
theorem sl_run {t e : TypeId} {te : TI} (ht : P.underlying t = some (.slice e)) (he : TyOk P e te) {ad : Option Addr} {len cap : Nat} {vl vh vm : Option Value} {l h m : Nat}
    (hb : (Instr.sliceBounds true len cap vl vh vm).run P w = .ok (l, h, m) w) :
    (Instr.sliceAt t (.slice ad len cap) vl vh vm).run P w = .ok (.slice (if m = l then ad else ad.map (·.add (l * te.size))) (h - l) (m - l)) w := by
  have hs := sizeOf_run (P := P) (w := w) he
  simp only [Instr.sliceAt, Instr.slice, Sem.run_bind, run_underlying ht, Result.andThen_ok, hb, hs, Sem.run_pure]
def FlatSl (v : Value) : Prop := v = .slice none 0 0 ∨ ∃ b o n cap, v = .slice (some ⟨b, o, none⟩) n cap ∧ n ≤ cap
theorem cut_sub {t e : TypeId} {te : TI} (ht : P.underlying t = some (.slice e)) (he : TyOk P e te) {v : Value} {lo hi mx : Option Int} {vl vh vm : Option Value} {n l k : Nat}
    (hl : ∀ n, lo = some n → ∃ d, vl = some (.int d n)) (hl0 : lo = none → vl = none) (hh : ∀ n, hi = some n → ∃ d, vh = some (.int d n)) (hh0 : hi = none → vh = none)
    (hm : ∀ n, mx = some n → ∃ d, vm = some (.int d n)) (hm0 : mx = none → vm = none) (hmh : mx ≠ none → hi ≠ none)
    (hf : (v = .slice none 0 0 ∧ n = 0) ∨ ∃ b o cap, v = .slice (some ⟨b, o, none⟩) n cap ∧ n ≤ cap) (hc : cutOf lo hi mx n = some (l, k)) : ∃ u, (Instr.sliceAt t v vl vh vm).run P w = .ok u w ∧ Sub v te.size l k u := by
  have c7 := (cutOf_some hc).2.2.2.2.2.2
  rcases hf with ⟨rfl, rfl⟩ | ⟨b, o, cap, rfl, hcap⟩
  · obtain ⟨m, hbr, h1, h2⟩ := bounds_run (P := P) (w := w) (isS := true) (Nat.le_refl 0) hl hl0 hh hh0 hm hm0 hmh hc
    refine ⟨_, sl_run ht he hbr, ?_⟩
    have e1 : m = 0 := by omega
    have e2 : l = 0 := by omega
    have e3 : k = 0 := by omega
    subst e1 e2 e3
    exact ⟨rfl, rfl, rfl⟩
  · obtain ⟨m, hbr, h1, h2⟩ := bounds_run (P := P) (w := w) (isS := true) hcap hl hl0 hh hh0 hm hm0 hmh hc
    refine ⟨_, sl_run ht he hbr, ?_⟩
    have hk : l + k - l = k := by omega
    rw [hk]
    by_cases hml : m = l
    · rw [if_pos hml]
      exact ⟨o, m - l, rfl, c7, by omega, .inr (by omega)⟩
    · rw [if_neg hml]
      simp only [Option.map_some, add_flat]
      exact ⟨o + l * te.size, m - l, rfl, c7, by omega, .inl ⟨rfl, by omega⟩⟩
theorem slice_ok (h : Sim w0 M R γ φ tv sv a w) {t e : TypeId} {te : TI} (ht : P.underlying t = some (.slice e)) (he : TyOk P e te) {v : Value} {x y : AV} {lo hi mx : Option Int} {vl vh vm : Option Value}
    (hl : ∀ n, lo = some n → ∃ d, vl = some (.int d n)) (hl0 : lo = none → vl = none) (hh : ∀ n, hi = some n → ∃ d, vh = some (.int d n)) (hh0 : hi = none → vh = none)
    (hm : ∀ n, mx = some n → ∃ d, vm = some (.int d n)) (hm0 : mx = none → vm = none) (hmh : mx ≠ none → hi ≠ none)
    (hv : RepV w (okOf w0 M R φ sv w) γ v x) (hy : pSlice te.size x lo hi mx sv = some y) : ∃ u, (Instr.sliceAt t v vl vh vm).run P w = .ok u w ∧ RepV w (okOf w0 M R φ sv w) γ u y := by
  unfold pSlice at hy
  split at hy
  · rename_i o z r
    split at hy
    · rename_i l k hc
      rw [cond_eq_ite] at hy
      split at hy
      · rename_i hz
        have hz : z = te.size ∧ r ≠ [] := by simpa using hz
        obtain ⟨hz, hrn⟩ := hz
        subst hz
        cases hy
        have hv : Rep w (okOf w0 M R φ sv w) v _ := hv
        have hf : (v = .slice none 0 0 ∧ r.length = 0) ∨ ∃ b o cap, v = .slice (some ⟨b, o, none⟩) r.length cap ∧ r.length ≤ cap := by
          cases hv with
          | nil => exact .inl ⟨rfl, rfl⟩
          | emp => exact (hrn rfl).elim
          | sl _ _ b off cap _ vs h1 h2 => exact .inr ⟨b, off, cap, rfl, h2⟩
        obtain ⟨u, h1, h2⟩ := cut_sub (w := w) ht he hl hl0 hh hh0 hm hm0 hmh hf hc
        exact ⟨u, h1, hv.sub h2⟩
      · cases hy
    · cases hy
  · rename_i m l0 n0
    split at hy
    · rename_i y0 l k hb hc
      rw [cond_eq_ite] at hy
      split at hy
      · rename_i hz
        have hz : y0 = te.size := by simpa using hz
        subst hz
        cases hy
        obtain ⟨v0, z, g1, g2⟩ := hv
        have hzz : z = te.size := by
          unfold blkZ at hb
          split at hb
          · rename_i z' r' hbr
            cases hb
            obtain ⟨v0', k1, _⟩ := blkRows_ok h hbr
            rw [g1] at k1
            cases k1; rfl
          · cases hb
        subst hzz
        have hf : (v = .slice none 0 0 ∧ n0 = 0) ∨ ∃ b o cap, v = .slice (some ⟨b, o, none⟩) n0 cap ∧ n0 ≤ cap := by
          unfold Sub at g2
          split at g2
          · obtain ⟨rfl, rfl, rfl⟩ := g2; exact .inl ⟨rfl, rfl⟩
          · obtain ⟨o', c', rfl, _, h2, _⟩ := g2; exact .inr ⟨_, _, _, rfl, h2⟩
          · exact g2.elim
        obtain ⟨u, h1, h2⟩ := cut_sub (w := w) ht he hl hl0 hh hh0 hm hm0 hmh hf hc
        exact ⟨u, h1, v0, _, g1, g2.trans h2⟩
      · cases hy
    · cases hy
  · cases hy
theorem cut_ok {t : TypeId} (ht : P.underlying t = some .string) {s : ByteArray} {y : AV} {lo hi mx : Option Int} {vl vh vm : Option Value}
    (hl : ∀ n, lo = some n → ∃ d, vl = some (.int d n)) (hl0 : lo = none → vl = none) (hh : ∀ n, hi = some n → ∃ d, vh = some (.int d n)) (hh0 : hi = none → vh = none) (hm0 : mx = none → vm = none)
    (hy : pCut s lo hi mx = some y) : ∃ u, (Instr.sliceAt t (.string s) vl vh vm).run P w = .ok u w ∧ RepV w ok γ u y := by
  unfold pCut at hy
  split at hy
  · split at hy
    · rename_i l k hc
      obtain rfl := hm0 rfl
      cases hy
      obtain ⟨m, hbr, h1, h2⟩ := bounds_run (P := P) (w := w) (isS := false) (mx := none) (vm := none) (Nat.le_refl s.size) hl hl0 hh hh0 (fun _ h => by cases h) (fun _ => rfl) (fun h => (h rfl).elim) hc
      refine ⟨_, ?_, rep_sc' rfl⟩
      simp only [Instr.sliceAt, Instr.slice, Sem.run_bind, run_underlying ht, Result.andThen_ok, Option.isSome_none, Bool.false_eq_true, if_false, Sem.run_pure, hbr]
    · cases hy
  · cases hy
theorem len_ok {ats : Array TypeId} {t : TypeId} {ti : TI} (ht : TyOk P t ti) (hat : ats[0]? = some t) {ty : TypeId} {v : Value} {x y : AV}
    (hv : RepV w ok γ v x) (hy : pLen ti.kind x = some y) : ∃ u, (Builtin.len_ ats ty #[v]).run P w = .ok u w ∧ RepV w ok γ u y := by
  have slen : ∀ (e : TypeId) (ad : Option Addr) (n cap : Nat), P.underlying t = some (.slice e) → (Builtin.len_ ats ty #[.slice ad n cap]).run P w = .ok (.int .i64 n) w := by
    intro e ad n cap hu
    simp [Builtin.len_, hat, run_underlying hu, goInt]
  have hkd := ht.kd
  generalize ti.kind = tk at hy hkd
  unfold pLen at hy
  split at hy
  · cases hy
    obtain ⟨rfl, _⟩ := rep_sc hv
    exact ⟨_, by simp [Builtin.len_, hat, run_underlying (show P.underlying t = some .string from hkd), goInt], rep_sc' rfl⟩
  · cases hy
    have hv : Rep w ok v _ := hv
    cases hv with
    | nil => exact ⟨_, slen _ _ _ _ hkd, rep_sc' rfl⟩
    | emp => exact ⟨_, slen _ _ _ _ hkd, rep_sc' rfl⟩
    | sl _ _ b off cap _ vs _ _ => exact ⟨_, slen _ _ _ _ hkd, rep_sc' rfl⟩
  · cases hy
    obtain ⟨v0, z, g1, g2⟩ := hv
    obtain ⟨ad, cap, rfl, _⟩ := g2.len
    exact ⟨_, slen _ _ _ _ hkd, rep_sc' rfl⟩
  · cases hy
end
end Go.Proofs.YtkkmgjhfjhcdmaaGreatDoor.Mx

namespace Go.Proofs.YtkkmgjhfjhcdmaaGreatDoor.Mx
open Go Go.RowKit
section
variable {w0 : World} {M R : Nat → Prop} {γ : Gs} {φ : Fp} {tv : Tv} {sv : Sv} {a : Act} {w : World} {P : Program} {T : Ty} {ok : Nat → Prop}
theorem load_rep {t : TypeId} {ti : TI} (ht : TyOk P t ti) {b o : Nat} {l : Row} (hl : l.length = ti.size) (h : CellsAt w (RepC w ok γ) b o l) :
    ∃ v, (Instr.loadAt t (.pointer (some ⟨b, o, none⟩))).run P w = .ok v w ∧ RepV w ok γ v (wrapA ti l) := by
  obtain ⟨vs, h1, h2, h3⟩ := load_cells (P := P) ht hl h
  refine ⟨_, h3, ?_⟩
  unfold wrapA
  cases hk : isStr ti.kind with
  | true =>
    simp only [if_true, cond_true]
    exact ⟨vs, rfl, h1, fun j v x hv hx => h2 j v x hv hx⟩
  | false =>
    have h1' := ht.st hk
    simp only [Bool.false_eq_true, if_false, cond_false]
    match l, vs, hl, h1 with
    | [x], [v], _, _ =>
      have := (h2 0 v x rfl rfl).1
      simp only [List.getD_cons_zero, List.headD_cons]
      cases x <;> first | exact this | exact this.elim
    | [], _, hl, _ => simp at hl; omega
    | _ :: _ :: _, _, hl, _ => simp at hl; omega
theorem part_at {Q : Value → AV → Prop} {ti : TI} {b o j : Nat} {cs l : Row} (hs : isStr ti.kind = false → ti.size = 1) (h : CellsAt w Q b o cs) (hp : part ti (cs.drop j) = some l) : l.length = ti.size ∧ CellsAt w Q b (o + j) l := by
  obtain ⟨h1, rfl⟩ := part_some hs hp
  refine ⟨by rw [List.length_take]; omega, fun k x hk => ?_⟩
  have hlt := idx_lt hk
  rw [List.length_take] at hlt
  rw [List.getElem?_take_of_lt (by omega)] at hk
  exact h.drop k x hk
theorem own_cases {F : Nat → Prop} {v : Value} {x : AV} (h : Own w ok F v x) : (∃ z r, x = .sl true z r) ∨ (∃ cs, x = .pb true cs) ∨ (Rep w ok v x ∧ (∀ z r, x ≠ .sl true z r) ∧ ∀ cs, x ≠ .pb true cs) := by
  cases h with
  | rd _ _ _ n1 n2 hR => exact .inr (.inr ⟨hR, n1, n2⟩)
  | nil => exact .inl ⟨_, _, rfl⟩
  | emp => exact .inl ⟨_, _, rfl⟩
  | sl => exact .inl ⟨_, _, rfl⟩
  | pb => exact .inr (.inl ⟨_, rfl⟩)
theorem rep_kinds {v : Value} {x : AV} (h : Rep w ok v x) : (∀ r, x ≠ .ag r) ∧ (∀ r, x ≠ .tu r) ∧ (∀ p q r, x ≠ .ow p q r) ∧ (∀ p q r, x ≠ .pt p q r) ∧ ∀ p, x ≠ .mv p := by
  cases h <;> simp
theorem ldA_ok {m i ver j0 : Nat} {zp : Nat} {rp : List Row} {row : Row} {pb off len cap : Nat} {vs : Nat → Value} (hrow : rp[i]? = some row)
    (hcell : ∀ k x, row[k]? = some x → w.cell? ⟨pb, off + (i * zp + k), none⟩ = some (vs k) ∧ (vs k).oneCell' = true) (b : Nat) : ∀ (l : Row) (k : Nat) {γ : Gs} {φ : Fp} {sv : Sv}, Sim w0 M R γ φ tv sv a w →
    (∀ n, b + k ≤ n → n < b + k + l.length → γ n = none) → γ m = some (.slice (some ⟨pb, off, none⟩) len cap, zp) → sv m = some (.ar zp ver rp) → (∀ q x, l[q]? = some x → row[j0 + k + q]? = some x) →
    (∀ q x, l[q]? = some x → ∃ F, Own w (okOf w0 M R φ sv w) F (vs (j0 + k + q)) x) →
    ∃ γ' φ', (∀ n, ¬ (b + k ≤ n ∧ n < b + k + l.length) → γ' n = γ n) ∧ (∀ c, okOf w0 M R φ sv w c → okOf w0 M R φ' (syncF (ldA b m i ver j0 k l).2 sv) w c) ∧
      Sim w0 M R γ' φ' tv (syncF (ldA b m i ver j0 k l).2 sv) a w ∧ (ldA b m i ver j0 k l).1.length = l.length ∧
      ∀ q y, (ldA b m i ver j0 k l).1[q]? = some y → RepC w (okOf w0 M R φ' (syncF (ldA b m i ver j0 k l).2 sv) w) γ' (vs (j0 + k + q)) y
  | [], k, γ, φ, sv, h, _, _, _, _, _ => ⟨γ, φ, fun _ _ => rfl, fun _ h => by simpa [ldA, syncF] using h, by simpa [ldA, syncF] using h, by simp [ldA], fun q y hq => by simp [ldA] at hq⟩
  | x :: l, k, γ, φ, sv, h, hf, hg, hm, hr, hO => by
    have hr0 := hr 0 x rfl
    obtain ⟨F0, hO0⟩ := hO 0 x rfl
    rw [Nat.add_zero] at hr0 hO0
    have rest : ∀ (y : AV), ldA b m i ver j0 k (x :: l) = (y :: (ldA b m i ver j0 (k + 1) l).1, (ldA b m i ver j0 (k + 1) l).2) → Rep w (okOf w0 M R φ sv w) (vs (j0 + k)) y → (∀ r, y ≠ .ag r) → (∀ r, y ≠ .tu r) → (∀ p q r, y ≠ .ow p q r) → (∀ p q r, y ≠ .pt p q r) → (∀ p, y ≠ .mv p) →
        ∃ γ' φ', (∀ n, ¬ (b + k ≤ n ∧ n < b + k + (x :: l).length) → γ' n = γ n) ∧ (∀ c, okOf w0 M R φ sv w c → okOf w0 M R φ' (syncF (ldA b m i ver j0 k (x :: l)).2 sv) w c) ∧
      Sim w0 M R γ' φ' tv (syncF (ldA b m i ver j0 k (x :: l)).2 sv) a w ∧ (ldA b m i ver j0 k (x :: l)).1.length = (x :: l).length ∧
      ∀ q y, (ldA b m i ver j0 k (x :: l)).1[q]? = some y → RepC w (okOf w0 M R φ' (syncF (ldA b m i ver j0 k (x :: l)).2 sv) w) γ' (vs (j0 + k + q)) y := by
      intro y he hy n1 n2 n3 n4 n5
      obtain ⟨γ', φ', h1, h2, h3, h4, h5⟩ := ldA_ok (j0 := j0) (len := len) (cap := cap) hrow hcell b l (k + 1) h (fun n h1 h2 => hf n (by omega) (by simp; omega)) hg hm (fun q x' hq => by have := hr (q + 1) x' (by simpa using hq); rw [← this]; congr 1; omega)
        (fun q x' hq => by obtain ⟨F, hF⟩ := hO (q + 1) x' (by simpa using hq); exact ⟨F, by rw [show j0 + (k + 1) + q = j0 + k + (q + 1) by omega]; exact hF⟩)
      rw [he]
      refine ⟨γ', φ', fun n hn => h1 n (fun hh => hn (by simp at hh ⊢; omega)), h2, h3, by simp [h4], ?_⟩
      intro q y' hq
      cases q with
      | zero =>
        simp at hq
        subst hq
        have := hy.mono (w' := w) (ok' := okOf w0 M R φ' (syncF (ldA b m i ver j0 (k + 1) l).2 sv) w) (fun c hc => ⟨h2 c hc, rfl⟩)
        cases y <;> first | exact this | exact (n1 _ rfl).elim | exact (n2 _ rfl).elim | exact (n3 _ _ _ rfl).elim | exact (n4 _ _ _ rfl).elim | exact (n5 _ rfl).elim
      | succ q =>
        have := h5 q y' (by simpa using hq)
        rwa [show j0 + (k + 1) + q = j0 + k + (q + 1) by omega] at this
    by_cases hx : ∃ z r, x = .sl true z r
    · obtain ⟨z, r, rfl⟩ := hx
      have hhead : Sub (vs (j0 + k)) z 0 r.length (vs (j0 + k)) := by
        rcases hO0.head with ⟨rfl, e2 | ⟨b', off', e2⟩⟩ | ⟨b', off', cap', cur, e, fr, e1, e2, e3, e4, e5⟩
        · rw [e2]; exact ⟨rfl, rfl, rfl⟩
        · rw [e2]; exact ⟨off', 0, rfl, Nat.le_refl _, Nat.le_refl _, .inr rfl⟩
        · rw [e1]; exact ⟨off', cap', rfl, by omega, e5, .inl ⟨by omega, by omega⟩⟩
      have hfb : γ (b + k) = none := hf (b + k) (Nat.le_refl _) (by simp)
      have hne : m ≠ b + k := by rintro rfl; rw [hg] at hfb; cases hfb
      obtain ⟨hs, hok⟩ := h.new hfb [] (fun k hk => by cases hk) (w' := w) (g := (vs (j0 + k), z)) (F := fun _ => False) (B := .sb m i (j0 + k) ver) rfl rfl rfl (Kp.refl _) (Nat.le_refl _) (fun _ _ _ => rfl) (fun b hb => hb.elim) (fun hok => by
        refine ⟨⟨_, γN_self⟩, ⟨_, γN_ext hfb _ _ hg⟩, fun zp' v' rp' hs' => ?_⟩
        rw [upd_ne (Ne.symm hne)] at hs'
        rw [show syncF (Mx.kill []) sv = sv from rfl, hm] at hs'
        cases hs'
        refine ⟨Nat.le_refl _, fun _ z' r' hn => ?_⟩
        have : nest rp i (j0 + k) = some (z, r) := by simp [nest, hrow, hr0]
        rw [this] at hn
        cases hn
        exact ⟨_, pb, off, len, cap, γN_self, γN_ext hfb _ _ hg, (hcell _ _ hr0).1⟩)
      obtain ⟨γ', φ', h1, h2, h3, h4, h5⟩ := ldA_ok (j0 := j0) (len := len) (cap := cap) hrow hcell b l (k + 1) hs (fun n h1 h2 => by rw [γN_ne (by omega)]; exact hf n (by omega) (by simp; omega)) (γN_ext hfb _ _ hg) (by rw [upd_ne (Ne.symm hne)]; exact hm)
        (fun q x' hq => by have := hr (q + 1) x' (by simpa using hq); rw [← this]; congr 1; omega)
        (fun q x' hq => by
          obtain ⟨F, hF⟩ := hO (q + 1) x' (by simpa using hq)
          exact ⟨F, by rw [show j0 + (k + 1) + q = j0 + k + (q + 1) by omega]; exact hF.mono hok F fun c hc => ⟨hc, rfl⟩⟩)
      have he : ldA b m i ver j0 k (.sl true z r :: l) = (.ow (b + k) 0 r.length :: (ldA b m i ver j0 (k + 1) l).1, (b + k, some (.sb m i (j0 + k) ver)) :: (ldA b m i ver j0 (k + 1) l).2) := rfl
      rw [he]
      refine ⟨γ', φ', fun n hn => ?_, fun c hc => h2 c (hok c hc).1, h3, by simp [h4], ?_⟩
      · have hne' : n ≠ b + k := fun e => hn (by subst e; simp)
        rw [h1 n (fun hh => hn (by simp at hh ⊢; omega)), γN_ne hne']
      · intro q y' hq
        cases q with
        | zero =>
          simp at hq
          subst hq
          refine ⟨vs (j0 + k), z, ?_, hhead⟩
          rw [h1 _ (by omega)]; exact γN_self
        | succ q =>
          have := h5 q y' (by simpa using hq)
          rwa [show j0 + (k + 1) + q = j0 + k + (q + 1) by omega] at this
    · rcases own_cases hO0 with h1 | ⟨cs, rfl⟩ | ⟨hR, n1, n2⟩
      · exact (hx h1).elim
      · exact rest .no rfl (.no _) (by simp) (by simp) (by simp) (by simp) (by simp)
      · obtain ⟨m1, m2, m3, m4, m5⟩ := rep_kinds hR
        refine rest x ?_ hR m1 m2 m3 m4 m5
        cases x with
        | sl o z r => cases o <;> first | rfl | exact (n1 _ _ rfl).elim
        | pb o c => cases o <;> first | rfl | exact (n2 _ rfl).elim
        | _ => rfl
theorem rep_cells {b off : Nat} {o : Bool} {cs : Row} (h : Rep w ok (.pointer (some ⟨b, off, none⟩)) (.pb o cs)) : CellsAt w (Rep w ok) b off cs := by
  cases h with
  | pb _ _ _ _ vs h1 h2 h3 => exact fun j x hj => ⟨vs j, (h2 j x hj).1, h3 j x hj, (h2 j x hj).2⟩
theorem rep_repC {v : Value} {x : AV} (h : Rep w ok v x) : RepC w ok γ v x := by
  cases h <;> first | exact .no _ | exact .sc _ ‹_› | exact .er _ _ | exact .nil _ _ | exact .emp _ _ _ _ | skip
  · exact .sl _ _ _ _ _ _ _ ‹_› ‹_› ‹_› ‹_› ‹_›
  · exact .pb _ _ _ _ _ ‹_› ‹_› ‹_›
  · exact .mc _ _ _ _ ‹_› ‹_› ‹_› ‹_›
theorem load_ok (hT : TOk P T) (h : Sim w0 M R γ φ tv sv a w) {b : Nat} (hf : Fresh γ b) {t : TypeId} {p : Operand} {ty : TypeId} {d : Dl} (hd : aop T (.load t p) ty b tv sv = some d) :
    OpRes P w0 M R γ tv sv a w b (do pure (.value (← Instr.loadAt t (a.eval p)))) d := by
  have hp := opv_ok h p
  simp only [aop] at hd
  split at hd
  · cases hd
  · rename_i ti hti
    have ht := hT t ti hti
    generalize opv tv p = x at hd hp
    generalize a.eval p = v at hp
    split at hd
    · rename_i m i j
      obtain ⟨v0, z, g1, g2⟩ := hp
      split at hd
      · rename_i cs hm
        split at hd
        · rename_i hi
          subst hi
          unfold loaded at hd
          cases hpt : part ti (cs.drop j) with
          | none => rw [hpt] at hd; cases hd
          | some l =>
            rw [hpt] at hd
            cases hd
            obtain ⟨pb, cur, e, fr, k1, k2, k3, k4, k5, k6⟩ := h.bk m _ hm
            rw [g1] at k1
            cases k1
            obtain ⟨_, rfl⟩ := g2
            have hc : CellsAt w (RepC w (okOf w0 M R φ sv w) γ) pb 0 cs := fun k x hk => ⟨cur.getD k undef, by rw [Nat.zero_add]; exact cell_some k3 (Nat.lt_of_lt_of_le (idx_lt hk) k5), (k6 k x hk).1, (k6 k x hk).2⟩
            obtain ⟨q1, q2⟩ := part_at ht.st hc hpt
            obtain ⟨u, u1, u2⟩ := load_rep (P := P) ht q1 q2
            exact opres_pure h u1 u2
        · cases hd
      · rename_i zp ver rows hm
        split at hd
        · rename_i row hrow
          split at hd
          · rename_i l hpt
            cases hd
            obtain ⟨v0', k1, k2⟩ := h.bk m _ hm
            rw [g1] at k1
            cases k1
            cases k2 with
            | rd _ _ _ n1 => exact (n1 _ _ rfl).elim
            | nil => simp at hrow
            | emp => simp at hrow
            | sl _ _ pb off cap _ cur e fr Fs a1 a2 a3 a4 a5 a6 a7 a8 a9 a10 a11 =>
              obtain ⟨_, rfl⟩ := g2
              have hcell : ∀ k x, row[k]? = some x → w.cell? ⟨pb, off + (i * z + k), none⟩ = some (cur.getD (off + (i * z + k)) undef) ∧ (cur.getD (off + (i * z + k)) undef).oneCell' = true := fun k x hk =>
                ⟨cell_some a2 (in_row (idx_lt hrow) (by rw [← a9 i row hrow]; exact idx_lt hk) a4 a5), a10 i row k x hrow hk⟩
              obtain ⟨s1, s2⟩ := part_some ht.st hpt
              have hll : l.length = ti.size := by rw [s2, List.length_take]; omega
              have hget : ∀ q x, l[q]? = some x → row[j + q]? = some x := fun q x hq => by
                have hlt := idx_lt hq
                rw [s2, List.getElem?_take_of_lt (by omega), List.getElem?_drop] at hq
                exact hq
              obtain ⟨γ', φ', h1, h2, h3, h4, h5⟩ := ldA_ok (j0 := j) (vs := fun k => cur.getD (off + (i * z + k)) undef) hrow hcell b l 0 h (fun n h1 h2 => hf n (by omega) (by have := ht.sm; omega)) g1 hm (fun q x hq => by rw [Nat.add_zero]; exact hget q x hq)
                (fun q x hq => ⟨Fs i (j + 0 + q), a11 i row (j + 0 + q) x hrow (by rw [Nat.add_zero]; exact hget q x hq)⟩)
              have hc : CellsAt w (RepC w (okOf w0 M R φ' (syncF (ldA b m i ver j 0 l).2 sv) w) γ') pb (off + (i * z + j)) (ldA b m i ver j 0 l).1 := fun q y hq => by
                have hlt := idx_lt hq
                rw [h4] at hlt
                have hr := hget q l[q] (List.getElem?_eq_getElem hlt)
                obtain ⟨c1, c2⟩ := hcell (j + q) _ hr
                refine ⟨_, ?_, h5 q y hq, by rw [Nat.add_zero]; exact c2⟩
                rw [Nat.add_zero, show off + (i * z + j) + q = off + (i * z + (j + q)) by omega]
                exact c1
              obtain ⟨u, u1, u2⟩ := load_rep (P := P) ht (by rw [h4, hll]) hc
              exact ⟨u, w, γ', φ', .inl (by simp only [Sem.run_bind, u1, Result.andThen_ok, Sem.run_pure]), fun n hn => h1 n (by have := ht.sm; omega), h3, u2⟩
          · cases hd
        · cases hd
      · split at hd
        · rename_i z' r hb
          split at hd
          · rename_i row hrow
            split at hd
            · rename_i hsc
              unfold loaded at hd
              cases hpt : part ti (row.drop j) with
              | none => rw [hpt] at hd; cases hd
              | some l =>
                rw [hpt] at hd
                cases hd
                obtain ⟨v0', k1, k2⟩ := blkRows_ok h hb
                rw [g1] at k1
                cases k1
                cases k2 with
                | nil => simp at hrow
                | emp => simp at hrow
                | sl _ _ pb off cap _ vs a1 a2 a3 a4 a5 =>
                  obtain ⟨_, rfl⟩ := g2
                  have hc : CellsAt w (RepC w (okOf w0 M R φ sv w) γ) pb (off + i * z) row := fun k x hk => by
                    have hx : isSc x = true := List.all_eq_true.1 hsc x (List.mem_of_getElem? hk)
                    exact ⟨vs i k, by rw [Nat.add_assoc]; exact (a4 i row k x hrow hk).1, rep_repC (isSc_rep hx (a5 i row k x hrow hk)), (a4 i row k x hrow hk).2⟩
                  obtain ⟨q1, q2⟩ := part_at ht.st hc hpt
                  rw [Nat.add_assoc] at q2
                  obtain ⟨u, u1, u2⟩ := load_rep (P := P) ht q1 q2
                  exact opres_pure h u1 u2
            · cases hd
          · cases hd
        · cases hd
      · cases hd
    · rename_i o cs
      unfold loaded at hd
      cases hpt : part ti (cs.map rdC) with
      | none => rw [hpt] at hd; cases hd
      | some l =>
        rw [hpt] at hd
        cases hd
        have hp : Rep w (okOf w0 M R φ sv w) v (.pb o cs) := hp
        have ⟨pb, off, hv⟩ : ∃ pb off, v = .pointer (some ⟨pb, off, none⟩) := by cases hp; exact ⟨_, _, rfl⟩
        subst hv
        have hc := rep_cells hp
        have hc' : CellsAt w (RepC w (okOf w0 M R φ sv w) γ) pb off (cs.map rdC) := fun k x hk => by
          rw [List.getElem?_map] at hk
          cases hx : cs[k]? with
          | none => rw [hx] at hk; cases hk
          | some y =>
            rw [hx] at hk
            cases hk
            obtain ⟨u, u1, u2, u3⟩ := hc k y hx
            exact ⟨u, u1, rep_repC u2.rdC, u3⟩
        obtain ⟨q1, q2⟩ := part_at (j := 0) ht.st hc' (by simpa using hpt)
        rw [Nat.add_zero] at q2
        obtain ⟨u, u1, u2⟩ := load_rep (P := P) ht q1 q2
        exact opres_pure h u1 u2
    · cases hd
theorem fieldAddr_ok (hT : TOk P T) {t : TypeId} {ti : TI} (ht : T t = some ti) {fs : List (Nat × TypeId)} (hk : ti.kind = .struct fs) {v : Value} {x y : AV} {f : Nat} (hv : RepV w ok γ v x) (hy : pFieldAddr T fs x f = some y) :
    ∃ u, (Instr.fieldAt t v f).run P w = .ok u w ∧ RepV w ok γ u y := by
  have hkd := (hT t ti ht).kd
  rw [hk] at hkd
  obtain ⟨fa, hu, hfa⟩ := hkd
  unfold pFieldAddr at hy
  split at hy
  · cases hy
  · rename_i off ft hf
    split at hy
    · cases hy
    · rename_i tf htf
      split at hy
      · rename_i hsz
        obtain ⟨fd, hfd, ho, hty⟩ : ∃ fd : Field, fa[f]? = some fd ∧ fd.offset = off ∧ fd.type = ft := by
          rw [← hfa, List.getElem?_map] at hf
          simp only [Array.getElem?_toList] at hf
          cases h0 : fa[f]? with
          | none => rw [h0] at hf; cases hf
          | some fd => rw [h0] at hf; cases hf; exact ⟨fd, rfl, rfl, rfl⟩
        have hrun : ∀ ad : Addr, (Instr.fieldAt t (.pointer (some ad)) f).run P w = .ok (.pointer (some (ad.add off))) w := fun ad => by
          simp only [Instr.fieldAt, Sem.run_bind, run_underlying hu, Result.andThen_ok, hfd, Instr.sureAddr, Sem.run_pure, fieldPlace, hty, sizeOf_run (hT ft tf htf), hsz, if_false, ho]
        split at hy
        · rename_i m i j
          cases hy
          obtain ⟨v0, z, g1, g2⟩ := hv
          unfold PtAt at g2
          split at g2
          · obtain ⟨hi, rfl⟩ := g2
            refine ⟨_, hrun _, _, _, g1, ?_⟩
            rw [add_flat]
            exact ⟨hi, by rw [Nat.add_assoc, Nat.add_assoc]⟩
          · obtain ⟨hi, rfl⟩ := g2
            refine ⟨_, hrun _, _, _, g1, ?_⟩
            rw [add_flat]
            exact ⟨hi, by rw [Nat.add_assoc]⟩
          · exact g2.elim
        · rename_i o cs
          cases hy
          have hv : Rep w ok v (.pb o cs) := hv
          cases hv with
          | pb _ b o' _ vs h1 h2 h3 =>
            refine ⟨_, hrun _, ?_⟩
            rw [add_flat]
            refine .pb o b _ _ (fun j => vs (off + j)) h1 (fun j x hj => ?_) (fun j x hj => ?_)
            · rw [List.getElem?_drop] at hj; rw [Nat.add_assoc]; exact h2 _ x hj
            · rw [List.getElem?_drop] at hj; exact h3 _ x hj
        · cases hy
      · cases hy
theorem index_ok {t : TypeId} (ht : P.underlying t = some .string) {s : ByteArray} {k : IntKind} {n : Int} {u : UInt8} (hu : (bt s)[n.toNat]? = some u) (h0 : 0 ≤ n) :
    (Instr.index t (.string s) (.int k n)).run P w = .ok (.int .u8 u.toNat) w := by
  have hl : n.toNat < s.size := by have := idx_lt hu; simpa [bt] using this
  have hs : s[n.toNat]? = some u := by
    rw [ByteArray.getElem?_lt' s _ hl]
    unfold bt at hu
    have : s.data[n.toNat]? = some u := by simpa using hu
    rw [Array.getElem?_eq_getElem (by exact hl)] at this
    exact this
  simp [Instr.index, asIntOf, run_underlying ht, h0, hs]
theorem extract_ok {v : Value} {xs : List AV} {i : Nat} {x : AV} (hv : RepV w ok γ v (.tu xs)) (hx : xs[i]? = some x) : ∃ u, (Instr.extract v i).run P w = .ok u w ∧ RepV w ok γ u x := by
  obtain ⟨vs, rfl, hl, hr⟩ := hv
  have hi : i < vs.length := by rw [hl]; exact idx_lt hx
  refine ⟨vs[i], by simp [Instr.extract, hi], ?_⟩
  have := hr i vs[i] x (List.getElem?_eq_getElem hi) hx
  cases x <;> first | exact this | exact this.elim
end
end Go.Proofs.YtkkmgjhfjhcdmaaGreatDoor.Mx
