/- A machine over values for Go functions, proved sound, and functions run on it: texts D1, D2, D3, D4, D5, D6, D7, D8, W3. -/
import Derived.Test.YtkkmgjhfjhcdmaaGreatDoorFnFetchXag
set_option linter.all false
namespace Go.Proofs.YtkkmgjhfjhcdmaaGreatDoor.Mx
section
variable {Loc X : Type} [DecidableEq Loc]
def setF : List (Loc × X) → (Loc → X) → Loc → X
  | [], s => s
  | (l, x) :: r, s => setF r (fun k => if l = k then x else s k)
theorem setF_out : ∀ (u : List (Loc × X)) (s : Loc → X) (k : Loc), (∀ x, (k, x) ∉ u) → setF u s k = s k
  | [], _, _, _ => rfl
  | (l, x) :: r, s, k, h => by
    simp only [setF]
    rw [setF_out r _ k fun x hx => h x (List.mem_cons_of_mem _ hx), if_neg]
    rintro rfl
    exact h x (by simp)
theorem setF_in : ∀ (u : List (Loc × X)) (s s' : Loc → X) (k : Loc), (∃ x, (k, x) ∈ u) → setF u s k = setF u s' k
  | [], _, _, _, h => by obtain ⟨x, hx⟩ := h; simp at hx
  | (l, x) :: r, s, s', k, h => by
    simp only [setF]
    by_cases hr : ∃ y, (k, y) ∈ r
    · exact setF_in r _ _ k hr
    · rw [setF_out r _ k fun y hy => hr ⟨y, hy⟩, setF_out r _ k fun y hy => hr ⟨y, hy⟩]
      obtain ⟨y, hy⟩ := h
      rcases List.mem_cons.1 hy with hy | hy
      · cases hy; simp
      · exact (hr ⟨y, hy⟩).elim
def foldW (W : Nat → List (Loc × X)) (L : Nat → Prop) [DecidablePred L] (s : Loc → X) : Nat → Loc → X
  | 0 => s
  | n + 1 => if L n then setF (W n) (foldW W L s n) else foldW W L s n
def Wr (W : Nat → List (Loc × X)) (i : Nat) (k : Loc) : Prop := ∃ x, (k, x) ∈ W i
theorem foldW_eq {W : Nat → List (Loc × X)} {L L' : Nat → Prop} [DecidablePred L] [DecidablePred L'] {s : Loc → X} {k : Loc} : ∀ (n : Nat), (∀ i, i < n → Wr W i k → (L i ↔ L' i)) → foldW W L s n k = foldW W L' s n k
  | 0, _ => rfl
  | n + 1, h => by
    have ih := foldW_eq (W := W) (L := L) (L' := L') (s := s) (k := k) n fun i hi => h i (by omega)
    simp only [foldW]
    by_cases hw : Wr W n k
    · have hn := h n (by omega) hw
      by_cases hL : L n
      · rw [if_pos hL, if_pos (hn.1 hL)]; exact setF_in _ _ _ _ hw
      · rw [if_neg hL, if_neg fun h' => hL (hn.2 h')]; exact ih
    · have ho : ∀ t : Loc → X, setF (W n) t k = t k := fun t => setF_out _ _ _ fun x hx => hw ⟨x, hx⟩
      by_cases hL : L n <;> by_cases hL' : L' n <;> simp only [hL, hL', if_true, if_false, ho] <;> exact ih
theorem foldW_last {W : Nat → List (Loc × X)} {L : Nat → Prop} [DecidablePred L] {s : Loc → X} {k : Loc} {j : Nat} (hj : L j) (hw : Wr W j k) : ∀ (n : Nat), j < n → (∀ i, j < i → i < n → L i → ¬ Wr W i k) → ∀ t, foldW W L s n k = setF (W j) t k
  | 0, h, _, _ => by omega
  | n + 1, h, hn, t => by
    simp only [foldW]
    by_cases e : j = n
    · subst e
      rw [if_pos hj]
      exact setF_in _ _ _ _ hw
    · have ih := foldW_last (s := s) hj hw n (by omega) (fun i h1 h2 => hn i h1 (by omega)) t
      by_cases hL : L n
      · rw [if_pos hL, setF_out _ _ _ fun x hx => hn n (by omega) (by omega) hL ⟨x, hx⟩]; exact ih
      · rw [if_neg hL]; exact ih
structure Apart (n : Nat) (W : Nat → List (Loc × X)) (rd : Nat → Loc → Prop) (dep : Nat → Nat → Prop) : Prop where
  lt : ∀ i j, j < n → dep i j → i < j
  wr : ∀ i j k, i < j → j < n → ¬ dep i j → Wr W i k → ¬ rd j k ∧ ¬ Wr W j k
  rw : ∀ i j k, i < j → j < n → ¬ dep i j → Wr W j k → ¬ rd i k
variable {n : Nat} {W : Nat → List (Loc × X)} {rd : Nat → Loc → Prop} {dep : Nat → Nat → Prop} {L : Nat → Prop} [DecidablePred L] {s : Loc → X}
theorem fold_reads (hA : Apart n W rd dep) (hL : ∀ i j, j < n → L j → dep i j → L i) {j : Nat} (hj : j < n) (hn : ¬ L j) (hd : ∀ i, dep i j → L i) {k : Loc} (hk : rd j k) : foldW W L s n k = foldW W (fun _ => True) s j k := by
  have e : foldW W (fun _ => True) s j k = foldW W (fun i => i < j) s n k := by
    have : ∀ m, j ≤ m → foldW W (fun i => i < j) s m k = foldW W (fun _ => True) s j k := by
      intro m hm
      induction m with
      | zero => have : j = 0 := by omega
                subst this; rfl
      | succ m ih =>
        by_cases h : j = m + 1
        · subst h
          exact foldW_eq _ fun i hi _ => ⟨fun _ => trivial, fun _ => hi⟩
        · simp only [foldW]
          rw [if_neg (by omega)]
          exact ih (by omega)
    exact (this n (by omega)).symm
  rw [e]
  refine foldW_eq n fun i hi hw => ⟨fun hLi => ?_, fun hij => ?_⟩
  · rcases Nat.lt_trichotomy i j with h | h | h
    · exact h
    · subst h; exact (hn hLi).elim
    · by_cases hd' : dep j i
      · exact (hn (hL j i hi hLi hd')).elim
      · exact (hA.rw j i k h hi hd' hw hk).elim
  · by_cases hd' : dep i j
    · exact hd i hd'
    · exact ((hA.wr i j k hij hj hd' hw).1 hk).elim
theorem fold_add (hA : Apart n W rd dep) (hL : ∀ i j, j < n → L j → dep i j → L i) {j : Nat} (hj : j < n) (hn : ¬ L j) : foldW W (fun i => L i ∨ i = j) s n = setF (W j) (foldW W L s n) := by
  funext k
  by_cases hw : Wr W j k
  · refine foldW_last (.inr rfl) hw n hj (fun i h1 h2 hLi hwi => ?_) _
    have hLi : L i := hLi.resolve_right (by omega)
    by_cases hd' : dep j i
    · exact hn (hL j i h2 hLi hd')
    · exact (hA.wr j i k h1 h2 hd' hw).2 hwi
  · rw [setF_out _ _ _ fun x hx => hw ⟨x, hx⟩]
    exact foldW_eq n fun i hi hwi => ⟨fun h => h.resolve_right fun e => hw (e ▸ hwi), .inl⟩
end
end Go.Proofs.YtkkmgjhfjhcdmaaGreatDoor.Mx

namespace Go.Proofs.YtkkmgjhfjhcdmaaGreatDoor.Mx
open Go Go.RowKit
section
variable {sv sv' : Sv} {T : Ty}
theorem blkRows_congr {m : Nat} (h : ∀ k ∈ rts sv m, sv k = sv' k) : blkRows sv m = blkRows sv' m := by
  have h0 := h m (by simp [rts])
  unfold blkRows
  rw [← h0]
  cases hm : sv m with
  | none => rfl
  | some B =>
    cases B with
    | sb p i j v =>
      have h1 := h p (by simp [rts, hm])
      simp only [← h1]
    | _ => rfl
theorem supA_name {x : AV} {m : Nat} (hm : m ∈ namesA x) (h : ∀ k ∈ supA sv x, sv k = sv' k) : ∀ k ∈ rts sv m, sv k = sv' k := fun k hk => h k (List.mem_flatMap.2 ⟨m, hm, List.mem_append_left _ hk⟩)
theorem rowsOf_congr {x : AV} (h : ∀ k ∈ supA sv x, sv k = sv' k) : rowsOf sv x = rowsOf sv' x := by
  cases x with
  | ow m lo n => simp only [rowsOf, blkRows_congr (supA_name (m := m) (by simp [namesA, names1]) h)]
  | _ => rfl
theorem pIndexAddr_congr {z : Nat} {x : AV} {i : Int} (h : ∀ k ∈ supA sv x, sv k = sv' k) : pIndexAddr z x i sv = pIndexAddr z x i sv' := by
  cases x with
  | ow m lo n =>
    have hn := supA_name (m := m) (by simp [namesA, names1]) h
    have h0 := hn m (by simp [rts])
    simp only [pIndexAddr, blkRows_congr hn, ← h0]
  | _ => rfl
theorem pSlice_congr {z : Nat} {x : AV} {lo hi mx : Option Int} (h : ∀ k ∈ supA sv x, sv k = sv' k) : pSlice z x lo hi mx sv = pSlice z x lo hi mx sv' := by
  cases x with
  | ow m l0 n0 => simp only [pSlice, blkZ, blkRows_congr (supA_name (m := m) (by simp [namesA, names1]) h)]
  | _ => rfl
theorem srcOf_congr {fl : Bool} {x : AV} (h : ∀ k ∈ supA sv x, sv k = sv' k) : srcOf fl x sv = srcOf fl x sv' := by
  cases x with
  | ow m lo n =>
    have hn := supA_name (m := m) (by simp [namesA, names1]) h
    have h0 := hn m (by simp [rts])
    simp only [srcOf, blkRows_congr hn, ← h0]
  | sc v => cases v <;> rfl
  | _ => rfl
theorem pAppend_congr {z bytes b : Nat} {fl nil : Bool} {s x : AV} (hs : ∀ k ∈ supA sv s, sv k = sv' k) (hx : ∀ k ∈ supA sv x, sv k = sv' k) : pAppend z bytes b fl nil s x sv = pAppend z bytes b fl nil s x sv' := by
  simp only [pAppend, ← srcOf_congr hx]
  cases s with
  | ow m lo n =>
    have hn := supA_name (m := m) (by simp [namesA, names1]) hs
    have h0 := hn m (by simp [rts])
    simp only [blkRows_congr hn, ← h0]
    cases hm : sv m with
    | none => rfl
    | some B =>
      cases B with
      | sb p i j v =>
        have h1 := hn p (by simp [rts, hm])
        simp only [← h1]
      | _ => rfl
  | _ => rfl
theorem putRows_congr {m : Nat} {bp : Bool} {f : List Row → Option (List Row)} (h : ∀ k ∈ rts sv m, sv k = sv' k) : putRows sv m bp f = putRows sv' m bp f := by
  have h0 := h m (by simp [rts])
  unfold putRows
  rw [← h0]
  cases hm : sv m with
  | none => rfl
  | some B =>
    cases B with
    | sb p i j v =>
      have h1 := h p (by simp [rts, hm])
      simp only [← h1]
    | _ => rfl
theorem pCopy_congr {z : Nat} {d x : AV} (hd : ∀ k ∈ supA sv d, sv k = sv' k) (hx : ∀ k ∈ supA sv x, sv k = sv' k) : pCopy z d x sv = pCopy z d x sv' := by
  simp only [pCopy, ← rowsOf_congr hx]
  cases rowsOf sv x with
  | none => rfl
  | some q =>
    obtain ⟨y, B⟩ := q
    cases d with
    | ow m lo n =>
      have hn := supA_name (m := m) (by simp [namesA, names1]) hd
      simp only [blkRows_congr hn, putRows_congr hn]
    | _ => rfl
theorem cnv_congr {m i ver : Nat} {old : Row} : ∀ (cs : Row) (j : Nat), (∀ x ∈ cs, ∀ k ∈ names1 x, sv k = sv' k) → cnv sv m i ver old j cs = cnv sv' m i ver old j cs
  | [], _, _ => rfl
  | x :: q, j, h => by
    simp only [cnv, cnv_congr q (j + 1) fun y hy => h y (List.mem_cons_of_mem _ hy)]
    cases x with
    | ow k lo n => simp only [h _ (List.mem_cons_self ..) k (by simp [names1])]
    | _ => rfl
theorem cells_names {x : AV} {cs : Row} (hc : cellsOf x = some cs) : ∀ y ∈ cs, ∀ k ∈ names1 y, k ∈ namesA x := by
  intro y hy k hk
  cases x <;> simp only [cellsOf, Option.some.injEq, reduceCtorEq] at hc <;> subst hc <;> first | exact List.mem_flatMap.2 ⟨y, hy, hk⟩ | (simp only [List.mem_singleton] at hy; subst hy; exact hk)
theorem self_sup {x : AV} {m : Nat} (hm : m ∈ namesA x) : m ∈ supA sv x := List.mem_flatMap.2 ⟨m, hm, List.mem_append_left _ (by simp [rts])⟩
theorem pStore_congr {ti : TI} {p x : AV} (hp : ∀ k ∈ supA sv p, sv k = sv' k) (hx : ∀ k ∈ supA sv x, sv k = sv' k) : pStore ti p x sv = pStore ti p x sv' := by
  unfold pStore
  cases p with
  | pt m i j =>
    have hn := supA_name (m := m) (by simp [namesA, names1]) hp
    have h0 := hn m (by simp [rts])
    cases hc : cellsOf x with
    | none => rfl
    | some cs =>
      have hcn : ∀ (m i ver : Nat) (old : Row) (j : Nat), cnv sv m i ver old j cs = cnv sv' m i ver old j cs := fun m i ver old j => cnv_congr cs j fun y hy k hk => hx k (self_sup (cells_names hc y hy k hk))
      simp only [blkRows_congr hn, putRows_congr hn, hcn, ← h0]
  | _ => rfl
theorem fillS_congr {z : Nat} : ∀ (ps : List (Nat × AV)) (rs : List Row), (∀ p ∈ ps, ∀ k ∈ supA sv p.2, sv k = sv' k) → fillS sv z rs ps = fillS sv' z rs ps
  | [], _, _ => rfl
  | (i, x) :: r, rs, h => by
    simp only [fillS]
    cases hc : cellsOf x with
    | none => rfl
    | some cs =>
      have hcn : cnv sv 0 0 0 [] 0 cs = cnv sv' 0 0 0 [] 0 cs := cnv_congr cs 0 fun y hy k hk => h (i, x) (by simp) k (self_sup (cells_names hc y hy k hk))
      have ih : ∀ rs, fillS sv z rs r = fillS sv' z rs r := fun rs => fillS_congr r rs fun p hp => h p (List.mem_cons_of_mem _ hp)
      simp only [hcn, ih]
theorem entries_congr {x : AV} (h : ∀ k ∈ supA sv x, sv k = sv' k) : entries sv x = entries sv' x := by
  cases x with
  | mv m => simp only [entries, h m (self_sup (by simp [namesA, names1]))]
  | _ => rfl
theorem pMapSet_congr {t : TypeId} {x k v : AV} (h : ∀ k ∈ supA sv x, sv k = sv' k) : pMapSet T t x k v sv = pMapSet T t x k v sv' := by
  unfold pMapSet
  cases x with
  | mv m =>
    have h0 := h m (self_sup (by simp [namesA, names1]))
    cases k <;> cases v <;> simp only [h0]
  | _ => rfl
theorem pConvert_congr {src dst : TypeId} {b : Nat} {x : AV} (h : ∀ k ∈ supA sv x, sv k = sv' k) : pConvert T src dst b x sv = pConvert T src dst b x sv' := by
  unfold pConvert
  simp only [rowsOf_congr h]
end
end Go.Proofs.YtkkmgjhfjhcdmaaGreatDoor.Mx

namespace Go.Proofs.YtkkmgjhfjhcdmaaGreatDoor.Mx
open Go Go.RowKit
section
variable {sv sv' : Sv} {tv tv' : Tv} {T : Ty}
theorem pLookup_congr {t : TypeId} {x k : AV} {ok : Bool} (h : ∀ k ∈ supA sv x, sv k = sv' k) : pLookup T t x k ok sv = pLookup T t x k ok sv' := by
  unfold pLookup
  simp only [entries_congr h]
theorem getP_congr {ps : Array (Nat × Operand)} (h : ∀ p ∈ ps.toList, opv tv p.2 = opv tv' p.2) : getP tv ps = getP tv' ps := by
  unfold getP
  exact List.map_congr_left fun p hp => by rw [h p hp]
theorem optI_congr {x : Option Operand} (h : ∀ y, x = some y → opv tv y = opv tv' y) : optI tv x = optI tv' x := by
  cases x with
  | none => rfl
  | some y => simp only [optI, h y rfl]
theorem pBuiltin_congr {bi : Builtin} {ats : List TypeId} {b : Nat} {xs : List Operand} (hv : ∀ x ∈ xs, opv tv x = opv tv' x) (hs : ∀ x ∈ xs, ∀ k ∈ supA sv (opv tv x), sv k = sv' k) : pBuiltin T bi ats b xs tv sv = pBuiltin T bi ats b xs tv' sv' := by
  unfold pBuiltin
  split
  · rename_i x t
    simp only [← hv x (by simp)]
  · rename_i s x t u
    simp only [← hv x (by simp), ← hv s (by simp), pAppend_congr (hs s (by simp)) (hs x (by simp))]
  · rename_i d x t u
    simp only [← hv x (by simp), ← hv d (by simp), pCopy_congr (hs d (by simp)) (hs x (by simp))]
  · rename_i _ x y
    simp only [← hv x (by simp), ← hv y (by simp)]
  · rename_i _ x y
    simp only [← hv x (by simp), ← hv y (by simp)]
  · rfl
theorem aop_congr {o : Op} {ty : TypeId} {b : Nat} (hv : ∀ x ∈ o.operands.toList, opv tv x = opv tv' x) (hs : ∀ x ∈ o.operands.toList, ∀ k ∈ supA sv (opv tv x), sv k = sv' k) : aop T o ty b tv sv = aop T o ty b tv' sv' := by
  cases o with
  | move x => simp only [aop, hv x (by simp [Op.operands])]
  | assign x => simp only [aop, hv x (by simp [Op.operands])]
  | pick c x y => simp only [aop, hv x (by simp [Op.operands]), hv y (by simp [Op.operands]), hv c (by simp [Op.operands])]
  | alloc e => rfl
  | box e x => simp only [aop, hv x (by simp [Op.operands])]
  | load t p =>
    have h1 := hv p (by simp [Op.operands])
    have h2 := hs p (by simp [Op.operands])
    simp only [aop, ← h1]
    cases hp : opv tv p with
    | pt m i j =>
      rw [hp] at h2
      have hn := supA_name (m := m) (by simp [namesA, names1]) h2
      have h0 := hn m (by simp [rts])
      simp only [blkRows_congr hn, ← h0]
    | _ => rfl
  | store t p x => simp only [aop, ← hv p (by simp [Op.operands]), ← hv x (by simp [Op.operands]), pStore_congr (hs p (by simp [Op.operands])) (hs x (by simp [Op.operands]))]
  | nilCheck x => simp only [aop, hv x (by simp [Op.operands])]
  | binOp op t x y u => simp only [aop, hv x (by simp [Op.operands]), hv y (by simp [Op.operands])]
  | unOp op t x => simp only [aop, hv x (by simp [Op.operands])]
  | convert s d x => simp only [aop, ← hv x (by simp [Op.operands]), pConvert_congr (hs x (by simp [Op.operands]))]
  | makeSlice t l c => simp only [aop, hv l (by simp [Op.operands]), hv c (by simp [Op.operands])]
  | slice t x lo hi mx =>
    have e1 := optI_congr (tv := tv) (tv' := tv') (x := lo) fun y hy => hv y (by simp [Op.operands, hy])
    have e2 := optI_congr (tv := tv) (tv' := tv') (x := hi) fun y hy => hv y (by simp [Op.operands, hy])
    have e3 := optI_congr (tv := tv) (tv' := tv') (x := mx) fun y hy => hv y (by simp [Op.operands, hy])
    have h2 := hs x (by simp [Op.operands])
    simp only [aop, ← e1, ← e2, ← e3, ← hv x (by simp [Op.operands])]
    generalize opv tv x = y at h2
    cases optI tv lo with
    | none => rfl
    | some l =>
      cases optI tv hi with
      | none => rfl
      | some h =>
        cases optI tv mx with
        | none => rfl
        | some m =>
          cases T t with
          | none => rfl
          | some ti =>
            simp only []
            split
            · rfl
            · cases ti.kind with
              | slice e =>
                have := fun (te : TI) => pSlice_congr (z := te.size) (lo := l) (hi := h) (mx := m) h2
                cases y <;> simp only [this]
              | str =>
                cases y with
                | sc v => cases v <;> rfl
                | _ => rfl
              | _ => cases y <;> rfl
  | fieldAddr t x f => simp only [aop, hv x (by simp [Op.operands])]
  | indexAddr t x i => simp only [aop, ← hv x (by simp [Op.operands]), ← hv i (by simp [Op.operands]), pIndexAddr_congr (hs x (by simp [Op.operands]))]
  | index t x i => simp only [aop, hv x (by simp [Op.operands]), hv i (by simp [Op.operands])]
  | extract x i => simp only [aop, hv x (by simp [Op.operands])]
  | build t ps => simp only [aop, getP_congr (tv := tv) (tv' := tv') (ps := ps) fun p hp => hv p.2 (by simp [Op.operands]; exact ⟨p.1, by simpa using hp⟩)]
  | buildSlice t n ps =>
    have hp : ∀ p ∈ ps.toList, p.2 ∈ (Op.buildSlice t n ps).operands.toList := fun p hp => by simp [Op.operands]; exact ⟨p.1, by simpa using hp⟩
    have e := getP_congr (tv := tv) (tv' := tv') (ps := ps) fun p h => hv p.2 (hp p h)
    have e2 : ∀ z rs, fillS sv z rs (getP tv ps) = fillS sv' z rs (getP tv ps) := fun z rs => fillS_congr _ rs fun q hq => by
      simp only [getP, List.mem_map] at hq
      obtain ⟨p, h, rfl⟩ := hq
      exact hs p.2 (hp p h)
    simp only [aop, ← e, e2]
  | makeMap t r => cases r <;> rfl
  | lookup t x k ok => simp only [aop, ← hv x (by simp [Op.operands]), ← hv k (by simp [Op.operands]), pLookup_congr (hs x (by simp [Op.operands]))]
  | mapUpdate t m k v => simp only [aop, ← hv m (by simp [Op.operands]), ← hv k (by simp [Op.operands]), ← hv v (by simp [Op.operands]), pMapSet_congr (hs m (by simp [Op.operands]))]
  | insert t m k v => simp only [aop, ← hv m (by simp [Op.operands]), ← hv k (by simp [Op.operands]), ← hv v (by simp [Op.operands]), pMapSet_congr (hs m (by simp [Op.operands]))]
  | call c =>
    obtain ⟨callee, xs, ats⟩ := c
    cases callee with
    | builtin bi =>
      simp only [aop]
      exact pBuiltin_congr (fun x hx => hv x (by simp only [Op.operands, Call.operands]; simpa using hx)) fun x hx => hs x (by simp only [Op.operands, Call.operands]; simpa using hx)
    | value f => rfl
    | invoke r m => rfl
  | _ => rfl
theorem aop_congr0 {o : Op} {ty : TypeId} {b : Nat} {S : St} (hv : ∀ x ∈ o.operands.toList, opv S.tv x = opv tv' x) (hs : ∀ k ∈ rdsO o S, S.sv k = sv' k) (h : rdsAll o = false) : aop T o ty b S.tv S.sv = aop T o ty b tv' sv' := by
  cases o with
  | move x => simp only [aop, hv x (by simp [Op.operands])]
  | fieldAddr t x f => simp only [aop, hv x (by simp [Op.operands])]
  | nilCheck x => simp only [aop, hv x (by simp [Op.operands])]
  | load t p =>
    have h1 := hv p (by simp [Op.operands])
    simp only [aop, ← h1]
    cases hp : opv S.tv p with
    | pt m i j =>
      have hn : ∀ k ∈ rts S.sv m, S.sv k = sv' k := fun k hk => hs k (by simp only [rdsO, hp]; exact List.mem_flatMap.2 ⟨m, by simp [namesA, names1], hk⟩)
      have h0 := hn m (by simp [rts])
      simp only [blkRows_congr hn, ← h0]
    | _ => rfl
  | _ => cases h
end
end Go.Proofs.YtkkmgjhfjhcdmaaGreatDoor.Mx

namespace Go.Proofs.YtkkmgjhfjhcdmaaGreatDoor.Mx
open Go Go.RowKit
section
variable {sv sv' : Sv}
def CC (sv sv' : Sv) (c : AV) : Prop := ∀ m ∈ names1 c, ∀ k ∈ rts sv m, sv k = sv' k
theorem CC.ow {m lo n : Nat} (h : CC sv sv' (.ow m lo n)) : ∀ k ∈ rts sv m, sv k = sv' k := h m (by simp [names1])
theorem rt_congr {m : Nat} (h : sv m = sv' m) : rt sv m = rt sv' m := by unfold rt; rw [h]
theorem vw1_congr {c : AV} (h : CC sv sv' c) : vw1 sv c = vw1 sv' c := by
  cases c with
  | ow m lo n => simp only [vw1, rowsOf, blkRows_congr h.ow]
  | mv m => simp only [vw1, h m (by simp [names1]) m (by simp [rts])]
  | _ => rfl
theorem vn1_congr {c : AV} (h : CC sv sv' c) : vn1 sv c = vn1 sv' c := by
  cases c with
  | ow m lo n => exact rt_congr (h.ow m (by simp [rts]))
  | mv m => exact rt_congr (h m (by simp [names1]) m (by simp [rts]))
  | _ => rfl
theorem ex1_congr {c : AV} (h : CC sv sv' c) : ex1 sv c = ex1 sv' c := by
  cases c with
  | ow m lo n => simp only [ex1, h.ow m (by simp [rts])]
  | _ => rfl
theorem ln1_congr {c : AV} (h : CC sv sv' c) : ln1 sv c = ln1 sv' c := by
  cases c with
  | ow m lo n => simp only [ln1, blkRows_congr h.ow, h.ow m (by simp [rts])]
  | _ => rfl
theorem exL_congr {f g : AV → Option (AV × List Nat)} : ∀ (cs : Row), (∀ c ∈ cs, f c = g c) → exL f cs = exL g cs
  | [], _ => rfl
  | x :: r, h => by simp only [exL, h x (by simp), exL_congr r fun c hc => h c (List.mem_cons_of_mem _ hc)]
theorem flatMap_congr' {f g : AV → List Nat} : ∀ (cs : Row), (∀ c ∈ cs, f c = g c) → cs.flatMap f = cs.flatMap g
  | [], _ => rfl
  | x :: r, h => by simp only [List.flatMap_cons, h x (by simp), flatMap_congr' r fun c hc => h c (List.mem_cons_of_mem _ hc)]
theorem ag_cc {cs : Row} (h : ∀ k ∈ supA sv (.ag cs), sv k = sv' k) : ∀ c ∈ cs, CC sv sv' c := fun c hc m hm => supA_name (x := .ag cs) (show m ∈ cs.flatMap names1 from List.mem_flatMap.2 ⟨c, hc, hm⟩) h
theorem one_cc {x : AV} (h : ∀ k ∈ supA sv x, sv k = sv' k) (hx : ∀ cs, x ≠ .ag cs) : CC sv sv' x := fun m hm => supA_name (by cases x <;> first | exact hm | exact (hx _ rfl).elim) h
theorem pt_cc {m i j : Nat} (h : ∀ k ∈ supA sv (.pt m i j), sv k = sv' k) : sv m = sv' m ∧ ∀ cs, sv m = some (.bx cs) → ∀ c ∈ cs, CC sv sv' c :=
  ⟨h m (self_sup (by simp [namesA, names1])), fun cs hm c hc n hn k hk => h k (List.mem_flatMap.2 ⟨m, by simp [namesA, names1], List.mem_append_right _ (by rw [hm]; exact List.mem_flatMap.2 ⟨c, hc, List.mem_flatMap.2 ⟨n, hn, hk⟩⟩)⟩)⟩
theorem vwA_congr {x : AV} (h : ∀ k ∈ supA sv x, sv k = sv' k) : vwA sv x = vwA sv' x ∧ vnA sv x = vnA sv' x := by
  cases x with
  | ag cs =>
    have := ag_cc h
    exact ⟨by simp only [vwA]; rw [List.map_congr_left fun c hc => vw1_congr (this c hc)], flatMap_congr' cs fun c hc => vn1_congr (this c hc)⟩
  | pt m i j =>
    obtain ⟨h1, h2⟩ := pt_cc h
    simp only [vwA, vnA, ← h1]
    cases hm : sv m with
    | none => exact ⟨rfl, rfl⟩
    | some B =>
      cases B with
      | bx cs =>
        have := h2 cs hm
        refine ⟨?_, by simp only [flatMap_congr' cs fun c hc => vn1_congr (this c hc)]⟩
        simp only []
        rw [List.map_congr_left fun c hc => vw1_congr (this c (List.mem_of_mem_drop hc))]
      | _ => exact ⟨rfl, rfl⟩
  | ow m lo n => exact ⟨vw1_congr (one_cc h (by simp)), vn1_congr (one_cc h (by simp))⟩
  | mv m => exact ⟨vw1_congr (one_cc h (by simp)), vn1_congr (one_cc h (by simp))⟩
  | _ => exact ⟨rfl, rfl⟩
theorem exA_congr {x : AV} (h : ∀ k ∈ supA sv x, sv k = sv' k) : exA sv x = exA sv' x := by
  cases x with
  | ag cs => simp only [exA, exL_congr cs fun c hc => ex1_congr (ag_cc h c hc)]
  | pt m i j =>
    obtain ⟨h1, h2⟩ := pt_cc h
    unfold exA
    split
    · rename_i hh; cases hh
    · rename_i hh
      cases hh
      rw [← h1]
      cases hm : sv m with
      | none => rfl
      | some B =>
        cases B with
        | bx cs => simp only [exL_congr cs fun c hc => ex1_congr (h2 cs hm c hc)]
        | _ => rfl
    · rfl
  | ow m lo n => exact ex1_congr (c := .ow m lo n) (one_cc h (by simp))
  | _ => rfl
theorem lnA_congr {x : AV} (h : ∀ k ∈ supA sv x, sv k = sv' k) : lnA sv x = lnA sv' x := by
  cases x with
  | ag cs => simp only [lnA, exL_congr cs fun c hc => ln1_congr (ag_cc h c hc)]
  | pt m i j =>
    unfold lnA
    split
    · rename_i hh; cases hh
    · rename_i hh; cases hh; exact exA_congr h
    · rfl
  | ow m lo n => exact ln1_congr (c := .ow m lo n) (one_cc h (by simp))
  | _ => rfl
theorem argI_congr {md : Nat} {x : AV} (h : ∀ k ∈ supA sv x, sv k = sv' k) : argI sv md x = argI sv' md x := by
  unfold argI
  split
  · rw [(vwA_congr h).1, (vwA_congr h).2]
  · rw [lnA_congr h]
  · rw [exA_congr h]
theorem argsI_congr : ∀ (xs : List AV) (md : List Nat), (∀ x ∈ xs, ∀ k ∈ supA sv x, sv k = sv' k) → argsI sv md xs = argsI sv' md xs
  | [], _, _ => rfl
  | x :: r, md, h => by simp only [argsI, argI_congr (h x (by simp)), argsI_congr r md.tail fun y hy => h y (List.mem_cons_of_mem _ hy)]
theorem bk1_congr {x t : AV} (h : CC sv sv' x) : bk1 sv x t = bk1 sv' x t := by
  cases x with
  | ow m lo n =>
    have h0 := h.ow m (by simp [rts])
    have hb := blkRows_congr h.ow
    cases t with
    | sl o z r =>
      cases o with
      | true =>
        simp only [bk1, hb, ← h0]
        cases hm : sv m with
        | none => rfl
        | some B =>
          cases B with
          | sb p i j v => simp only [h.ow p (by simp [rts, hm])]
          | _ => rfl
      | false => simp only [bk1, h0]
    | _ => rfl
  | _ => rfl
theorem bkL_congr : ∀ (cs q : Row), (∀ c ∈ cs, CC sv sv' c) → bkL sv cs q = bkL sv' cs q
  | [], [], _ => rfl
  | [], _ :: _, _ => rfl
  | _ :: _, [], _ => rfl
  | x :: r, t :: q, h => by simp only [bkL, bk1_congr (h x (by simp)), bkL_congr r q fun c hc => h c (List.mem_cons_of_mem _ hc)]
theorem bkA_congr {k : Nat} {x t : AV} (h : ∀ k ∈ supA sv x, sv k = sv' k) : bkA sv k x t = bkA sv' k x t := by
  cases x with
  | ag cs => cases t <;> first | exact bkL_congr _ _ (ag_cc h) | rfl
  | pt m i j =>
    cases t with
    | pb o q => cases o <;> rfl
    | _ => rfl
  | ow m lo n =>
    have e := bk1_congr (x := .ow m lo n) (t := t) (one_cc h (by simp))
    have : ∀ sv : Sv, bkA sv k (.ow m lo n) t = bk1 sv (.ow m lo n) t := fun sv => by cases t <;> rfl
    rw [this, this, e]
  | _ => cases t <;> rfl
theorem bkS_congr : ∀ (xs : List AV) (k : Nat) (md : List Nat) (ts : List (Option AV)), (∀ x ∈ xs, ∀ k ∈ supA sv x, sv k = sv' k) → bkS sv k md xs ts = bkS sv' k md xs ts
  | [], _, _, _, _ => rfl
  | x :: r, k, md, ts, h => by
    simp only [bkS, bkA_congr (h x (by simp)), fun k md ts => bkS_congr r k md ts fun y hy => h y (List.mem_cons_of_mem _ hy)]
theorem callOut_congr {md : List Nat} {b : Nat} {xs : List AV} {r : Ans} (h : ∀ x ∈ xs, ∀ k ∈ supA sv x, sv k = sv' k) : callOut md b sv xs r = callOut md b sv' xs r ∧ argsOk sv md xs = argsOk sv' md xs := by
  unfold callOut argsOk
  rw [argsI_congr xs md h, bkS_congr xs _ md r.2 h]
  exact ⟨rfl, rfl⟩
end
end Go.Proofs.YtkkmgjhfjhcdmaaGreatDoor.Mx

namespace Go.Proofs.YtkkmgjhfjhcdmaaGreatDoor.Mx
open Go Go.RowKit
theorem chkTo_get {D : List (List Nat)} {b : Ac} {j : Nat} : ∀ (l : List Ac) (i k : Nat) (a : Ac), chkTo D b j i l = true → l[k]? = some a → depB D (i + k) j = true ∨ okPair a b = true
  | [], _, _, _, _, h => by simp at h
  | x :: r, i, k, a, h, hk => by
    simp only [chkTo, Bool.and_eq_true, Bool.or_eq_true] at h
    cases k with
    | zero => simp at hk; subst hk; exact h.1
    | succ k =>
      have := chkTo_get r (i + 1) k a h.2 (by simpa using hk)
      rwa [show i + (k + 1) = i + 1 + k by omega]
theorem chkAll_get {D : List (List Nat)} {acs : List Ac} : ∀ (l : List Ac) (j k : Nat) (b : Ac), chkAll D acs j l = true → l[k]? = some b → chkTo D b (j + k) 0 (acs.take (j + k)) = true
  | [], _, _, _, _, h => by simp at h
  | x :: r, j, k, b, h, hk => by
    simp only [chkAll, Bool.and_eq_true] at h
    cases k with
    | zero => simp at hk; subst hk; exact h.1
    | succ k =>
      have := chkAll_get r (j + 1) k b h.2 (by simpa using hk)
      rwa [show j + (k + 1) = j + 1 + k by omega]
theorem chk_pair {D : List (List Nat)} {acs : List Ac} (h : chkAll D acs 0 acs = true) {i j : Nat} {a b : Ac} (hij : i < j) (hi : acs[i]? = some a) (hj : acs[j]? = some b) : depB D i j = true ∨ okPair a b = true := by
  have h1 := chkAll_get acs 0 j b h hj
  rw [Nat.zero_add] at h1
  have := chkTo_get (acs.take j) 0 i a h1 (by rw [List.getElem?_take_of_lt hij]; exact hi)
  rwa [Nat.zero_add] at this
def Run (P : Program) (E : Env) (id i : Nat) (o : Oper) (s : St) (d : Dl) : Prop :=
  match o.op with
  | .call { callee := .value (.func h), args := xs, .. } => ∃ l r, argsOk s.sv (E.md id i) (xs.toList.map (opv s.tv)) = some l ∧ Meets P h l r ∧ callOut (E.md id i) s.ctr s.sv (xs.toList.map (opv s.tv)) r = some d
  | op => aop E.T op o.type s.ctr s.tv s.sv = some d
def wants (all : List Oper) (o : Oper) (s : St) : Option Bool :=
  match o.guard with
  | none => some true
  | some (j, w) => match gq all s j with
    | .sc (.bool q) => some (q == w)
    | .tu [] => some false
    | _ => none
def Ev (P : Program) (E : Env) (id i : Nat) (all : List Oper) (o : Oper) (s : St) (d : Dl) (ac : Ac) : Prop :=
  (wants all o s = some true ∧ ac = ⟨rdsO o.op s, d.upd.map (·.1)⟩ ∧ Run P E id i o s d) ∨ (wants all o s = some false ∧ ac = ⟨[], []⟩ ∧ d = ⟨.tu [], []⟩)
def runD : List Oper → List Dl → St → St
  | o :: l, d :: ds, s => runD l ds (s.go o.dst d)
  | _, _, s => s
section
variable {P : Program} {E : Env} {id : Nat} {D : List (List Nat)} {all : List Oper} {K : St → Prop}
theorem stepR_run {i : Nat} {o : Oper} {K : Ac → St → Prop} {s : St} (h : stepR P E id i o K s) : ∃ d, Run P E id i o s d ∧ K ⟨rdsO o.op s, d.upd.map (·.1)⟩ (s.go o.dst d) := by
  unfold stepR at h
  split at h
  · rename_i f xs ats ho
    obtain ⟨l, r, h1, h2, d, h3, h4⟩ := h
    refine ⟨d, ?_, h4⟩
    unfold Run
    split
    · rename_i f' xs' ats' ho'
      rw [ho] at ho'
      cases ho'
      exact ⟨l, r, h1, h2, h3⟩
    · rename_i hno; exact (hno f xs ats ho).elim
  · rename_i hno
    obtain ⟨d, h3, h4⟩ := h
    refine ⟨d, ?_, h4⟩
    unfold Run
    split
    · rename_i f xs ats ho; exact (hno f xs ats ho).elim
    · exact h3
theorem drW_read : ∀ (l : List Oper) (i : Nat) (acc : List Ac) (s : St), drW P E id D all K i l acc s → ∃ (ds : List Dl) (acs : List Ac), ds.length = l.length ∧ acs.length = l.length ∧
    (∀ (k : Nat) (o : Oper) (d : Dl) (ac : Ac), l[k]? = some o → ds[k]? = some d → acs[k]? = some ac → Ev P E id (i + k) all o (runD (l.take k) (ds.take k) s) d ac) ∧
    chkAll D (acc.reverse ++ acs) 0 (acc.reverse ++ acs) = true ∧ K (runD l ds s)
  | [], i, acc, s, h => ⟨[], [], rfl, rfl, fun k o d ac hk => by simp at hk, by simpa using h.1, h.2⟩
  | o :: l, i, acc, s, h => by
    have fin : ∀ (d : Dl) (ac : Ac), Ev P E id i all o s d ac → drW P E id D all K (i + 1) l (ac :: acc) (s.go o.dst d) → ∃ (ds : List Dl) (acs : List Ac), ds.length = (o :: l).length ∧ acs.length = (o :: l).length ∧
        (∀ (k : Nat) (o' : Oper) (d : Dl) (ac : Ac), (o :: l)[k]? = some o' → ds[k]? = some d → acs[k]? = some ac → Ev P E id (i + k) all o' (runD ((o :: l).take k) (ds.take k) s) d ac) ∧
        chkAll D (acc.reverse ++ acs) 0 (acc.reverse ++ acs) = true ∧ K (runD (o :: l) ds s) := by
      intro d ac he hd
      obtain ⟨ds, acs, h1, h2, h3, h4, h5⟩ := drW_read l (i + 1) (ac :: acc) _ hd
      refine ⟨d :: ds, ac :: acs, by simp [h1], by simp [h2], ?_, by simpa using h4, h5⟩
      rintro (_ | k) o' d' ac' ho hd' hac
      · simp at ho hd' hac
        subst ho hd' hac
        exact he
      · have := h3 k o' d' ac' (by simpa using ho) (by simpa using hd') (by simpa using hac)
        rw [show i + (k + 1) = i + 1 + k by omega]
        simpa [runD] using this
    simp only [drW] at h
    cases hg : o.guard with
    | none =>
      rw [hg] at h
      obtain ⟨d, h1, h2⟩ := stepR_run h
      exact fin d _ (.inl ⟨by simp [wants, hg], rfl, h1⟩) h2
    | some jw =>
      obtain ⟨j, w⟩ := jw
      rw [hg] at h
      simp only at h
      unfold GK at h
      split at h
      · rename_i q hq
        unfold Br at h
        split at h
        · rename_i hqw
          obtain ⟨d, h1, h2⟩ := stepR_run h
          exact fin d _ (.inl ⟨by simp only [wants, hg, hq]; rw [hqw], rfl, h1⟩) h2
        · rename_i hqw
          exact fin _ _ (.inr ⟨by simp only [wants, hg, hq]; simpa using hqw, rfl, rfl⟩) h
      · rename_i hq
        exact fin _ _ (.inr ⟨by simp only [wants, hg, hq], rfl, rfl⟩) h
      · exact h.elim
end
end Go.Proofs.YtkkmgjhfjhcdmaaGreatDoor.Mx

namespace Go.Proofs.YtkkmgjhfjhcdmaaGreatDoor.Mx
open Go Go.RowKit
abbrev Loc := Sum Nat Nat
abbrev Cel := Sum AV (Option Blk)
def σs (s : St) : Loc → Cel
  | .inl t => .inl (s.tv t)
  | .inr m => .inr (s.sv m)
def wrO (dst : Option Tmp) (d : Dl) : List (Loc × Cel) := (match dst with | some t => [(.inl t, .inl d.val)] | none => []) ++ d.upd.map fun p => (.inr p.1, .inr p.2)
def tvOf (σ : Loc → Cel) : Tv := fun t => match σ (.inl t) with | .inl x => x | .inr _ => .no
def svOf (σ : Loc → Cel) : Sv := fun m => match σ (.inr m) with | .inr B => B | .inl _ => none
theorem setF_app (u v : List (Loc × Cel)) (σ : Loc → Cel) : setF (u ++ v) σ = setF v (setF u σ) := by
  induction u generalizing σ with
  | nil => rfl
  | cons p u ih => obtain ⟨l, x⟩ := p; simp only [List.cons_append, setF, ih]
theorem set_names (u : Up) : ∀ (σ : Loc → Cel), (∀ t, setF (u.map fun p => ((.inr p.1 : Loc), (.inr p.2 : Cel))) σ (.inl t) = σ (.inl t)) ∧ svOf (setF (u.map fun p => ((.inr p.1 : Loc), (.inr p.2 : Cel))) σ) = syncF u (svOf σ) := by
  induction u with
  | nil => exact fun σ => ⟨fun _ => rfl, rfl⟩
  | cons p u ih =>
    obtain ⟨m, B⟩ := p
    intro σ
    simp only [List.map_cons, setF, syncF]
    obtain ⟨h1, h2⟩ := ih (fun k => if (.inr m : Loc) = k then (.inr B : Cel) else σ k)
    refine ⟨fun t => by rw [h1]; simp, h2.trans ?_⟩
    congr 1
    funext n
    unfold svOf updS
    by_cases h : m = n
    · subst h; simp
    · have : ¬ (Sum.inr m : Loc) = Sum.inr n := fun e => h (Sum.inr.inj e)
      simp only [this, if_false, h]
theorem tvOf_set (dst : Option Tmp) (d : Dl) (σ : Loc → Cel) : tvOf (setF (wrO dst d) σ) = updT (tvOf σ) dst d.val := by
  funext t
  unfold wrO tvOf updT
  rw [setF_app, (set_names d.upd _).1]
  cases dst with
  | none => simp [setF]
  | some k =>
    simp only [setF]
    by_cases h : k = t
    · subst h; simp
    · have : ¬ (Sum.inl k : Loc) = Sum.inl t := fun e => h (Sum.inl.inj e)
      have h2 : ¬ some k = some t := fun e => h (Option.some.inj e)
      simp only [this, if_false, h2]
theorem svOf_set (dst : Option Tmp) (d : Dl) (σ : Loc → Cel) : svOf (setF (wrO dst d) σ) = syncF d.upd (svOf σ) := by
  unfold wrO
  rw [setF_app, (set_names d.upd _).2]
  congr 1
  funext m
  unfold svOf
  cases dst with
  | none => simp [setF]
  | some k => simp [setF]
theorem tvOf_σs (s : St) : tvOf (σs s) = s.tv := rfl
theorem svOf_σs (s : St) : svOf (σs s) = s.sv := rfl
theorem σs_go (s : St) (dst : Option Tmp) (d : Dl) : σs (s.go dst d) = setF (wrO dst d) (σs s) := by
  funext l
  cases l with
  | inl t =>
    have h1 := congrFun (tvOf_set dst d (σs s)) t
    have h2 : (s.go dst d).tv t = updT s.tv dst d.val t := congrFun (go_tv s dst d) t
    unfold tvOf at h1
    have : ∃ x, setF (wrO dst d) (σs s) (.inl t) = .inl x := by
      unfold wrO
      rw [setF_app, (set_names d.upd _).1]
      cases dst with
      | none => exact ⟨s.tv t, rfl⟩
      | some k =>
        simp only [setF]
        by_cases h : (Sum.inl k : Loc) = Sum.inl t
        · exact ⟨d.val, by rw [if_pos h]⟩
        · exact ⟨s.tv t, by rw [if_neg h]; rfl⟩
    obtain ⟨x, hx⟩ := this
    rw [hx] at h1
    rw [hx]
    show Sum.inl ((s.go dst d).tv t) = Sum.inl x
    rw [h2]
    exact congrArg Sum.inl h1.symm
  | inr m =>
    have h1 := congrFun (svOf_set dst d (σs s)) m
    have h2 : (s.go dst d).sv m = syncF d.upd s.sv m := congrFun (go_sv s dst d) m
    unfold svOf at h1
    have : ∃ B, setF (wrO dst d) (σs s) (.inr m) = .inr B := by
      have : ∀ (u : List (Loc × Cel)) (σ : Loc → Cel), (∀ p ∈ u, ∀ m, p.1 = .inr m → ∃ B, p.2 = .inr B) → (∃ B, σ (.inr m) = .inr B) → ∃ B, setF u σ (.inr m) = .inr B := by
        intro u
        induction u with
        | nil => exact fun σ _ h => h
        | cons p u ih =>
          obtain ⟨l, x⟩ := p
          intro σ hu hσ
          simp only [setF]
          refine ih _ (fun p hp => hu p (List.mem_cons_of_mem _ hp)) ?_
          by_cases h : l = .inr m
          · obtain ⟨B, hB⟩ := hu (l, x) (by simp) m h
            exact ⟨B, by rw [if_pos h]; exact hB⟩
          · obtain ⟨B, hB⟩ := hσ
            exact ⟨B, by rw [if_neg h]; exact hB⟩
      refine this _ _ (fun p hp m' he => ?_) ⟨s.sv m, rfl⟩
      unfold wrO at hp
      rcases List.mem_append.1 hp with hp | hp
      · cases dst with
        | none => simp at hp
        | some k => simp at hp; subst hp; simp at he
      · obtain ⟨q, _, rfl⟩ := List.mem_map.1 hp
        exact ⟨q.2, rfl⟩
    obtain ⟨B, hB⟩ := this
    rw [hB] at h1
    rw [hB]
    show Sum.inr ((s.go dst d).sv m) = Sum.inr B
    rw [h2]
    exact congrArg Sum.inr h1.symm
theorem runD_fold (W : Nat → List (Loc × Cel)) (s0 : St) : ∀ (l : List Oper) (ds : List Dl), ds.length = l.length → (∀ (k : Nat) (o : Oper) (d : Dl), l[k]? = some o → ds[k]? = some d → W k = wrO o.dst d) →
    ∀ k, k ≤ l.length → σs (runD (l.take k) (ds.take k) s0) = foldW W (fun _ => True) (σs s0) k ∧ (runD (l.take k) (ds.take k) s0).ctr = s0.ctr + 256 * k := by
  intro l ds hl hW k
  induction k with
  | zero => intro _; exact ⟨rfl, rfl⟩
  | succ k ih =>
    intro hk
    obtain ⟨h1, h2⟩ := ih (by omega)
    obtain ⟨o, ho⟩ : ∃ o, l[k]? = some o := ⟨_, List.getElem?_eq_getElem (by omega)⟩
    obtain ⟨d, hd⟩ : ∃ d, ds[k]? = some d := ⟨_, List.getElem?_eq_getElem (by omega)⟩
    have app : ∀ (l l2 : List Oper) (ds ds2 : List Dl) (s : St), ds.length = l.length → runD (l ++ l2) (ds ++ ds2) s = runD l2 ds2 (runD l ds s) := by
      intro l
      induction l with
      | nil => intro l2 ds ds2 s h; have : ds = [] := List.eq_nil_of_length_eq_zero (by simpa using h); subst this; rfl
      | cons x l ih =>
        intro l2 ds ds2 s h
        cases ds with
        | nil => simp at h
        | cons y ds => exact ih l2 ds ds2 _ (by simpa using h)
    rw [List.take_add_one, List.take_add_one, ho, hd, app _ _ _ _ _ (by simp only [List.length_take]; omega)]
    simp only [Option.toList_some, runD, foldW, if_true]
    refine ⟨?_, ?_⟩
    · rw [σs_go, h1, hW k o d ho hd]
    · show (runD _ _ s0).ctr + 256 = _
      rw [h2]; omega
end Go.Proofs.YtkkmgjhfjhcdmaaGreatDoor.Mx

namespace Go.Proofs.YtkkmgjhfjhcdmaaGreatDoor.Mx
open Go Go.RowKit
theorem okD_get {all : List Oper} {D : List (List Nat)} (h : okD all D = true) {j : Nat} {o : Oper} (ho : all[j]? = some o) :
    (∀ i, depB D i j = true → ∃ e ∈ o.after.toList, Region.binds .any e = true ∧ (e.on = i ∨ depB D i e.on = true)) ∧ (∀ e ∈ o.after.toList, Region.binds .any e = true → e.on < j) ∧ (∀ i, depB D i j = true → i < j) ∧
    ∀ i p, i < j → depB D i j = false → all[i]? = some p → (∀ t ∈ dstL p, t ∉ tmpsO all o ∧ t ∉ dstL o) ∧ ∀ t ∈ dstL o, t ∉ tmpsO all p := by
  have hj := List.all_eq_true.1 h j (List.mem_range.2 (idx_lt ho))
  rw [ho] at hj
  simp only [okDj, Bool.and_eq_true] at hj
  obtain ⟨⟨⟨h1, h2⟩, h3⟩, h4⟩ := hj
  refine ⟨fun i hi => ?_, fun e he hb => ?_, fun i hi => ?_, fun i p hij hd hp => ?_⟩
  · have := List.all_eq_true.1 h1 i (by simpa [depB] using hi)
    obtain ⟨e, he, hh⟩ := List.any_eq_true.1 this
    simp only [Bool.and_eq_true, Bool.or_eq_true, beq_iff_eq] at hh
    exact ⟨e, he, hh.1, hh.2⟩
  · have := List.all_eq_true.1 h2 e he
    simpa [hb] using this
  · have := List.all_eq_true.1 h3 i (by simpa [depB] using hi)
    simpa using this
  · have := List.all_eq_true.1 h4 i (List.mem_range.2 hij)
    rw [hd, hp] at this
    simp only [Bool.false_or, Bool.and_eq_true] at this
    have d1 := disjB_spec this.1
    have d2 := disjB_spec this.2
    exact ⟨fun t ht => ⟨fun hh => d1 t ht (List.mem_append_left _ hh), fun hh => d1 t ht (List.mem_append_right _ hh)⟩, fun t ht => d2 t ht⟩
def rdL (all : List Oper) (acs : List Ac) (j : Nat) : Loc → Prop
  | .inl t => ∃ o, all[j]? = some o ∧ t ∈ tmpsO all o
  | .inr m => ∃ a, acs[j]? = some a ∧ m ∈ a.rd
def wrL (all : List Oper) (ds : List Dl) (k : Nat) : List (Loc × Cel) := match all[k]?, ds[k]? with | some o, some d => wrO o.dst d | _, _ => []
theorem wrL_inl {all : List Oper} {ds : List Dl} {k t : Nat} (h : Wr (wrL all ds) k (.inl t)) : ∃ o, all[k]? = some o ∧ t ∈ dstL o := by
  obtain ⟨x, hx⟩ := h
  unfold wrL at hx
  split at hx
  · rename_i o d ho hd
    unfold wrO at hx
    rcases List.mem_append.1 hx with hx | hx
    · refine ⟨o, ho, ?_⟩
      cases hdst : o.dst with
      | none => rw [hdst] at hx; simp at hx
      | some t' => rw [hdst] at hx; simp at hx; simp [dstL, hdst, hx.1]
    · obtain ⟨q, _, hq⟩ := List.mem_map.1 hx; simp at hq
  · simp at hx
theorem wrL_inr {all : List Oper} {ds : List Dl} {k m : Nat} (h : Wr (wrL all ds) k (.inr m)) : ∃ d, ds[k]? = some d ∧ m ∈ d.upd.map (·.1) := by
  obtain ⟨x, hx⟩ := h
  unfold wrL at hx
  split at hx
  · rename_i o d ho hd
    unfold wrO at hx
    rcases List.mem_append.1 hx with hx | hx
    · cases hdst : o.dst with
      | none => rw [hdst] at hx; simp at hx
      | some t' => rw [hdst] at hx; simp at hx
    · obtain ⟨q, hq, he⟩ := List.mem_map.1 hx
      simp only [Prod.mk.injEq, Sum.inr.injEq] at he
      exact ⟨d, hd, List.mem_map.2 ⟨q, hq, he.1⟩⟩
  · simp at hx
theorem apart_ok {P : Program} {E : Env} {id : Nat} {all : List Oper} {D : List (List Nat)} {ds : List Dl} {acs : List Ac} {S : Nat → St} (hD : okD all D = true) (hl1 : ds.length = all.length) (hl2 : acs.length = all.length)
    (hE : ∀ (k : Nat) (o : Oper) (d : Dl) (ac : Ac), all[k]? = some o → ds[k]? = some d → acs[k]? = some ac → Ev P E id k all o (S k) d ac) (hc : chkAll D acs 0 acs = true) :
    Apart all.length (wrL all ds) (rdL all acs) (fun i j => depB D i j = true) := by
  have get : ∀ j, j < all.length → ∃ o d a, all[j]? = some o ∧ ds[j]? = some d ∧ acs[j]? = some a ∧ (d.upd.map (·.1) = a.wn) := fun j hj => by
    have h1 := List.getElem?_eq_getElem (l := all) hj
    have h2 := List.getElem?_eq_getElem (l := ds) (i := j) (by omega)
    have h3 := List.getElem?_eq_getElem (l := acs) (i := j) (by omega)
    refine ⟨_, _, _, h1, h2, h3, ?_⟩
    rcases hE j _ _ _ h1 h2 h3 with ⟨_, e, _⟩ | ⟨_, e, e'⟩
    · rw [e]
    · rw [e, e']; rfl
  have pair : ∀ i j a b, i < j → depB D i j ≠ true → acs[i]? = some a → acs[j]? = some b → (∀ m ∈ a.wn, m ∉ b.rd ∧ m ∉ b.wn) ∧ ∀ m ∈ b.wn, m ∉ a.rd := fun i j a b hij hd ha hb => by
    have := (chk_pair hc hij ha hb).resolve_left hd
    simp only [okPair, Bool.and_eq_true] at this
    exact ⟨fun m hm => ⟨disjB_spec this.1.1 m hm, disjB_spec this.1.2 m hm⟩, disjB_spec this.2⟩
  constructor
  · intro i j hj hd
    obtain ⟨o, d, a, h1, _⟩ := get j hj
    exact (okD_get hD h1).2.2.1 i hd
  · intro i j k hij hj hd hw
    obtain ⟨o, d, a, h1, h2, h3, h4⟩ := get j hj
    obtain ⟨p, d', a', g1, g2, g3, g4⟩ := get i (by omega)
    obtain ⟨s1, s2⟩ := (okD_get hD h1).2.2.2 i p hij (by simpa using hd) g1
    obtain ⟨n1, n2⟩ := pair i j a' a hij hd g3 h3
    cases k with
    | inl t =>
      obtain ⟨p', hp', ht⟩ := wrL_inl hw
      rw [g1] at hp'; cases hp'
      refine ⟨fun ⟨o', ho', hr⟩ => ?_, fun hw' => ?_⟩
      · rw [h1] at ho'; cases ho'; exact (s1 t ht).1 hr
      · obtain ⟨o', ho', hr⟩ := wrL_inl hw'
        rw [h1] at ho'; cases ho'; exact (s1 t ht).2 hr
    | inr m =>
      obtain ⟨d2, hd2, hm⟩ := wrL_inr hw
      rw [g2] at hd2; cases hd2
      rw [g4] at hm
      refine ⟨fun ⟨a2, ha2, hr⟩ => ?_, fun hw' => ?_⟩
      · rw [h3] at ha2; cases ha2; exact (n1 m hm).1 hr
      · obtain ⟨d3, hd3, hm'⟩ := wrL_inr hw'
        rw [h2] at hd3; cases hd3
        rw [h4] at hm'
        exact (n1 m hm).2 hm'
  · intro i j k hij hj hd hw hr
    obtain ⟨o, d, a, h1, h2, h3, h4⟩ := get j hj
    obtain ⟨p, d', a', g1, g2, g3, g4⟩ := get i (by omega)
    obtain ⟨s1, s2⟩ := (okD_get hD h1).2.2.2 i p hij (by simpa using hd) g1
    obtain ⟨n1, n2⟩ := pair i j a' a hij hd g3 h3
    cases k with
    | inl t =>
      obtain ⟨o', ho', ht⟩ := wrL_inl hw
      rw [h1] at ho'; cases ho'
      obtain ⟨p', hp', hr⟩ := hr
      rw [g1] at hp'; cases hp'
      exact s2 t ht hr
    | inr m =>
      obtain ⟨d3, hd3, hm'⟩ := wrL_inr hw
      rw [h2] at hd3; cases hd3
      rw [h4] at hm'
      obtain ⟨a2, ha2, hr⟩ := hr
      rw [g3] at ha2; cases ha2
      exact n2 m hm' hr
end Go.Proofs.YtkkmgjhfjhcdmaaGreatDoor.Mx

namespace Go.Proofs.YtkkmgjhfjhcdmaaGreatDoor.Mx
open Go Go.RowKit
section
variable {w0 : World} {M R : Nat → Prop} {P : Program} {E : Env} {args : List Value} {np N : Nat}
def InvL (w0 : World) (M R : Nat → Prop) (args : List Value) (N : Nat) (c0 n : Nat) (L : Nat → Prop) (σ : Loc → Cel) (a : Act) (w : World) : Prop :=
  ∃ γ φ, Sim w0 M R γ φ (tvOf σ) (svOf σ) a w ∧ (∀ m, c0 ≤ m → (∀ i, i < n → L i → ¬ (c0 + 256 * i ≤ m ∧ m < c0 + 256 * i + 256)) → γ m = none) ∧ (∀ (i : Nat) (v : Value), args[i]? = some v → a.tmps.getD i undef = v) ∧ a.tmps.size = N
theorem run_step (hT : TOk P E.T) (ha : args.length ≤ np) {id i c0 n : Nat} {o : Oper} {S : St} {d : Dl} (hr : Run P E id i o S d) (hc : S.ctr = c0 + 256 * i) {L L' : Nat → Prop} {σ : Loc → Cel} (hi : i < n) (hL : ¬ L i) (hL' : ∀ k, L' k ↔ L k ∨ k = i)
    (hv : ∀ x ∈ o.op.operands.toList, opv S.tv x = opv (tvOf σ) x) (hs0 : ∀ k ∈ rdsO o.op S, S.sv k = svOf σ k) (hd : opDst np N o = true) {a : Act} {w : World} (hI : InvL w0 M R args N c0 n L σ a w)
    {next : Act → World → Prop} {Q : Exit → Act → World → Prop} (hK : ∀ a w, InvL w0 M R args N c0 n L' (setF (wrO o.dst d) σ) a w → next a w) : o.wp P a w next Q := by
  have hs : rdsAll o.op = true → ∀ x ∈ o.op.operands.toList, ∀ k ∈ supA S.sv (opv S.tv x), S.sv k = svOf σ k := fun hno x hx k hk =>
    hs0 k (by rw [rdsO_of hno]; exact List.mem_flatMap.2 ⟨x, hx, hk⟩)
  obtain ⟨γ, φ, hS, hg, hargs, hsz⟩ := hI
  have hf : Fresh γ (c0 + 256 * i) := fun m h1 h2 => hg m (by omega) fun k hk hLk hh => by
    have : k ≠ i := fun e => hL (e ▸ hLk)
    omega
  have cont : ∀ (v : Value) (w' : World) (γ' : Gs) (φ' : Fp), (∀ m, ¬ (c0 + 256 * i ≤ m ∧ m < c0 + 256 * i + 256) → γ' m = γ m) → Sim w0 M R γ' φ' (tvOf σ) (syncF d.upd (svOf σ)) a w' → RepV w' (okOf w0 M R φ' (syncF d.upd (svOf σ)) w') γ' v d.val → next (a.put o.dst v) w' := by
    intro v w' γ' φ' h1 h2 h3
    obtain ⟨p1, p2⟩ := put_args ha hd hsz hargs v
    refine hK _ _ ⟨γ', φ', ?_, fun m hm hh => ?_, p2, (put_size a _ _).trans hsz⟩
    · rw [tvOf_set, svOf_set]
      exact h2.put p1 h3
    · rw [h1 m (hh i hi ((hL' i).2 (.inr rfl)))]
      exact hg m hm fun k hk hLk => hh k hk ((hL' k).2 (.inl hLk))
  unfold Run at hr
  split at hr
  · rename_i f xs ats ho
    obtain ⟨l, r, h1, h2, h3⟩ := hr
    have hmem : ∀ x ∈ xs.toList, x ∈ o.op.operands.toList := fun x hx => by rw [ho]; simp only [Op.operands, Call.operands]; simp; right; simpa using hx
    have e1 : xs.toList.map (opv S.tv) = xs.toList.map (opv (tvOf σ)) := List.map_congr_left fun x hx => hv x (hmem x hx)
    obtain ⟨q1, q2⟩ := callOut_congr (sv := S.sv) (sv' := svOf σ) (md := E.md id i) (b := S.ctr) (xs := xs.toList.map (opv S.tv)) (r := r) fun y hy k hk => by
      obtain ⟨x, hx, rfl⟩ := List.mem_map.1 hy
      exact hs (by rw [ho]; rfl) x (hmem x hx) k hk
    rw [q2, e1] at h1
    rw [q1, e1, hc] at h3
    exact callOp_ok hS hf ho h1 h2 h3 next Q cont
  · have hcg : aop E.T o.op o.type S.ctr S.tv S.sv = aop E.T o.op o.type S.ctr (tvOf σ) (svOf σ) := by
      cases hm : rdsAll o.op with
      | true => exact aop_congr hv (hs hm)
      | false => exact aop_congr0 hv hs0 hm
    rw [hcg, hc] at hr
    exact OpStep.of_res (aop_ok hT hS hf hr) next Q cont
theorem wants_ok {all : Array Oper} {o : Oper} {S : St} {a : Act} {w : World} {ok : Nat → Prop} {γ : Gs} (hg : ∀ t, t ∈ tmpsO all.toList o → RepV w ok γ (a.tmps.getD t undef) (S.tv t)) {b : Bool} (h : wants all.toList o S = some b) : Region.wanted o (yielded all a.tmps) = b := by
  unfold wants at h
  cases hgd : o.guard with
  | none => rw [hgd] at h; simp at h; subst h; simp [Region.wanted, hgd]
  | some jw =>
    obtain ⟨j, wt⟩ := jw
    rw [hgd] at h
    simp only at h
    have hd : (all[j]?).bind (·.dst) = dstAt all.toList j := by rw [← dstAt_eq]; simp
    unfold gq at h
    have hy : yielded all a.tmps j = (match (dstAt all.toList j).bind (a.tmps[·]?) with | some (.bool b) => some b | _ => none) := by unfold yielded; rw [hd]; rfl
    cases hdj : dstAt all.toList j with
    | none => rw [hdj] at h; simp at h
    | some t =>
      rw [hdj] at h hy
      simp only at h
      have ht := hg t (by simp [tmpsO, hgd, hdj])
      simp only [Option.bind_some] at hy
      split at h
      · rename_i q hq
        rw [hq] at ht
        obtain ⟨e, _⟩ := rep_sc ht
        have : a.tmps[t]? = some (.bool q) := by
          rw [Array.getD_eq_getD_getElem?] at e
          cases hh : a.tmps[t]? with
          | none => rw [hh] at e; simp [undef] at e
          | some u => rw [hh] at e; simp at e; rw [e]
        rw [this] at hy
        simp only [Option.some.injEq] at h
        simp [Region.wanted, hgd, hy, ← h]
      · rename_i hq
        rw [hq] at ht
        obtain ⟨vs, e, hl, _⟩ := ht
        have hvs : vs = [] := List.eq_nil_of_length_eq_zero (by simpa using hl)
        subst hvs
        have hy' : yielded all a.tmps j = none := by
          rw [hy]
          rw [Array.getD_eq_getD_getElem?] at e
          cases hh : a.tmps[t]? with
          | none => rfl
          | some u => rw [hh] at e; simp at e; subst e; rfl
        simp only [Option.some.injEq] at h
        simp [Region.wanted, hgd, hy', ← h]
      · cases h
theorem draw_ok (hT : TOk P E.T) (ha : args.length ≤ np) (hm : P.follows .mixedOrders = true) {id : Nat} {all : Array Oper} {D : List (List Nat)} {K : St → Prop} {Q : Exit → Act → World → Prop} (hK : ∀ s a w, K s → Inv w0 M R args N s a w → Q .normal a w) {s0 : St} {a : Act} {w : World}
    (hdst : ∀ o ∈ all.toList, opDst np N o = true) (hD : okD all.toList D = true) (h : drW P E id D all.toList K 0 all.toList [] s0) (hI : Inv w0 M R args N s0 a w) : (Code.region id all true).wp P Q a w := by
  classical
  obtain ⟨ds, acs, l1, l2, hE, hchk, hfin⟩ := drW_read _ _ _ _ h
  simp only [List.reverse_nil, List.nil_append, Nat.zero_add] at hE hchk
  have hA := apart_ok (S := fun k => runD (all.toList.take k) (ds.take k) s0) hD l1 l2 hE hchk
  have hlen : all.toList.length = all.size := by simp
  have hfold := runD_fold (wrL all.toList ds) s0 all.toList ds l1 fun k o d ho hd => by simp only [wrL, ho, hd]
  let σ : (L : Nat → Prop) → Loc → Cel := fun L => foldW (wrL all.toList ds) L (σs s0) all.toList.length
  have allL : ∀ L : Nat → Prop, (∀ i, i < all.size → L i) → σ L = σs (runD all.toList ds s0) := fun L hall => by
    have hh := (hfold all.toList.length (Nat.le_refl _)).1
    rw [List.take_length, ← l1, List.take_length] at hh
    rw [hh, l1]
    funext k
    exact foldW_eq _ fun i hi _ => ⟨fun _ => trivial, fun _ => hall i (by omega)⟩
  have noL : ∀ L : Nat → Prop, (∀ i, ¬ L i) → σ L = σs s0 := fun L hno => by
    have : ∀ n, foldW (wrL all.toList ds) L (σs s0) n = σs s0 := by
      intro n
      induction n with
      | zero => rfl
      | succ n ih => simp only [foldW]; rw [if_neg (hno n), ih]
    exact this _
  have addL : ∀ (L L' : Nat → Prop) (i : Nat), i < all.toList.length → ¬ L i → (∀ k, L' k ↔ L k ∨ k = i) → (∀ i j, j < all.toList.length → L j → depB D i j = true → L i) → σ L' = setF (wrL all.toList ds i) (σ L) := fun L L' i hi hn hL' hcl => by
    have e := fold_add (s := σs s0) hA (L := L) hcl hi hn
    show foldW _ _ _ _ = _
    rw [← e]
    funext k
    exact foldW_eq _ fun j _ _ => hL' j
  have rdsL : ∀ (L : Nat → Prop) (i : Nat), i < all.toList.length → ¬ L i → (∀ i j, j < all.toList.length → L j → depB D i j = true → L i) → (∀ k, depB D k i = true → L k) → ∀ l, rdL all.toList acs i l → σ L l = σs (runD (all.toList.take i) (ds.take i) s0) l := fun L i hi hn hcl hd l hl => by
    rw [(hfold i (by omega)).1]
    exact fold_reads (s := σs s0) hA (L := L) hcl hi hn hd hl
  have key : ∀ (fuel : Nat) (listed : Array Bool) (a : Act) (w : World), listed.size = all.size → ((List.range all.size).filter fun i => !listed.getD i true).length ≤ fuel →
      (∀ i j, j < all.toList.length → listed.getD j false = true → depB D i j = true → listed.getD i false = true) → InvL w0 M R args N s0.ctr all.size (fun i => listed.getD i false = true) (σ fun i => listed.getD i false = true) a w →
      wpAny P .any all Q fuel listed a w := by
    have full : ∀ (listed : Array Bool) (a : Act) (w : World), (∀ i, i < all.size → listed.getD i false = true) → InvL w0 M R args N s0.ctr all.size (fun i => listed.getD i false = true) (σ fun i => listed.getD i false = true) a w → Q .normal a w := by
      intro listed a w hall ⟨γ, φ, hS, hg, h1, h2⟩
      have e := allL (fun i => listed.getD i false = true) hall
      rw [e] at hS
      have hc := (hfold all.toList.length (Nat.le_refl _)).2
      rw [List.take_length, ← l1, List.take_length] at hc
      exact hK _ a w hfin ⟨γ, φ, hS, fun m hm => hg m (by omega) fun i hi _ hh => by omega, h1, h2⟩
    have none_ready : ∀ (listed : Array Bool), listed.size = all.size → Region.ready .any all listed = [] → ∀ i, i < all.size → listed.getD i false = true := by
      intro listed hsz hr i
      induction i using Nat.strongRecOn with
      | _ i ih =>
        intro hi
        apply Classical.byContradiction
        intro hn
        have ho : all[i]? = some all[i] := Array.getElem?_eq_getElem hi
        have hmem : i ∈ Region.ready .any all listed := by
          refine mem_ready.2 ⟨?_, all[i], ho, fun e he hb => ?_⟩
          · have hi' : i < listed.size := by omega
            simp only [Array.getD_eq_getD_getElem?, Array.getElem?_eq_getElem hi', Option.getD_some] at hn ⊢
            simpa using hn
          · have := (okD_get hD (j := i) (o := all[i]) (by simpa using ho)).2.1 e (by simpa using he) hb
            exact ih e.on this (by omega)
        rw [hr] at hmem
        simp at hmem
    intro fuel
    induction fuel with
    | zero =>
      intro listed a w hsz hcnt hcl hI
      have hall : ∀ i, i < all.size → listed.getD i false = true := fun i hi => by
        have h0 : ((List.range all.size).filter fun i => !listed.getD i true) = [] := List.eq_nil_of_length_eq_zero (by omega)
        have := List.filter_eq_nil_iff.1 h0 i (List.mem_range.2 hi)
        have hi' : i < listed.size := by omega
        simp only [Array.getD_eq_getD_getElem?, Array.getElem?_eq_getElem hi', Option.getD_some] at this ⊢
        simpa using this
      refine ⟨?_, full listed a w hall hI⟩
      unfold Region.ready
      rw [List.filter_eq_nil_iff]
      intro i hi
      have hi := List.mem_range.1 hi
      have := hall i hi
      have hi' : i < listed.size := by omega
      simp only [Array.getD_eq_getD_getElem?, Array.getElem?_eq_getElem hi', Option.getD_some] at this ⊢
      simp [this]
    | succ fuel ih =>
      intro listed a w hsz hcnt hcl hI
      refine ⟨fun hr => full listed a w (none_ready listed hsz hr) hI, fun i hi => ?_⟩
      obtain ⟨h0, o, ho, hdeps⟩ := mem_ready.1 hi
      have hi' : i < all.size := (Array.getElem?_eq_some_iff.1 ho).1
      have hol : all.toList[i]? = some o := by simpa using ho
      have hn : ¬ listed.getD i false = true := by
        have hi2 : i < listed.size := by omega
        simp only [Array.getD_eq_getD_getElem?, Array.getElem?_eq_getElem hi2, Option.getD_some] at h0 ⊢
        simp [h0]
      have hok := okD_get hD hol
      have hd : ∀ k, depB D k i = true → listed.getD k false = true := fun k hk => by
        obtain ⟨e, he, hb, hh⟩ := hok.1 k hk
        have hl := hdeps e (by simpa using he) hb
        rcases hh with rfl | hh
        · exact hl
        · exact hcl k e.on (by have := hok.2.1 e he hb; omega) hl hh
      obtain ⟨d, hdd⟩ : ∃ d, ds[i]? = some d := ⟨_, List.getElem?_eq_getElem (by omega)⟩
      obtain ⟨ac, hac⟩ : ∃ ac, acs[i]? = some ac := ⟨_, List.getElem?_eq_getElem (by omega)⟩
      have hEi := hE i o d ac hol hdd hac
      have agr := rdsL (fun i => listed.getD i false = true) i (by omega) hn hcl hd
      have agT : ∀ t, t ∈ tmpsO all.toList o → tvOf (σ fun i => listed.getD i false = true) t = (runD (all.toList.take i) (ds.take i) s0).tv t := fun t ht => by
        unfold tvOf
        rw [agr (.inl t) ⟨o, hol, ht⟩]; rfl
      have agN : ∀ m, m ∈ ac.rd → svOf (σ fun i => listed.getD i false = true) m = (runD (all.toList.take i) (ds.take i) s0).sv m := fun m hm' => by
        unfold svOf
        rw [agr (.inr m) ⟨ac, hac, hm'⟩]; rfl
      have hL' : ∀ k, (listed.setIfInBounds i true).getD k false = true ↔ listed.getD k false = true ∨ k = i := fun k => by
        have hi2 : i < listed.size := by omega
        by_cases hk : k = i
        · subst hk
          simp [Array.getD_eq_getD_getElem?, hi2]
        · rw [getD_set_ne _ (Ne.symm hk)]
          simp [hk]
      have hset := addL (fun i => listed.getD i false = true) (fun k => (listed.setIfInBounds i true).getD k false = true) i (by omega) hn hL' hcl
      have hwi : wrL all.toList ds i = wrO o.dst d := by simp only [wrL, hol, hdd]
      rw [hwi] at hset
      have next : ∀ a w, InvL w0 M R args N s0.ctr all.size (fun k => (listed.setIfInBounds i true).getD k false = true) (setF (wrO o.dst d) (σ fun i => listed.getD i false = true)) a w → wpAny P .any all Q fuel (listed.setIfInBounds i true) a w := fun a w hI' => by
        rw [← hset] at hI'
        refine ih _ a w (by simpa using hsz) ?_ ?_ hI'
        · have hmem : i ∈ (List.range all.size).filter fun i => !listed.getD i true := List.mem_filter.2 ⟨List.mem_range.2 hi', by simp [h0]⟩
          have e : ((List.range all.size).filter fun k => !(listed.setIfInBounds i true).getD k true) = ((List.range all.size).filter fun i => !listed.getD i true).filter fun k => decide (k ≠ i) := by
            rw [List.filter_filter]
            refine List.filter_congr fun k hk => ?_
            by_cases hk' : k = i
            · subst hk'
              have hi2 : k < listed.size := by omega
              simp [Array.getD_eq_getD_getElem?, hi2]
            · rw [getD_set_ne _ (Ne.symm hk')]
              simp [hk']
          have lt : (((List.range all.size).filter fun i => !listed.getD i true).filter fun k => decide (k ≠ i)).length < ((List.range all.size).filter fun i => !listed.getD i true).length :=
            List.length_filter_lt_length_iff_exists.2 ⟨i, hmem, by simp⟩
          rw [e]; omega
        · intro k j hj hLj hkj
          rcases (hL' j).1 hLj with hLj | rfl
          · exact (hL' k).2 (.inl (hcl k j hj hLj hkj))
          · exact (hL' k).2 (.inl (hd k hkj))
      have hdo := hdst o (List.mem_of_getElem? hol)
      have hw : ∀ b, wants all.toList o (runD (all.toList.take i) (ds.take i) s0) = some b → Region.wanted o (yielded all a.tmps) = b := fun b hb => by
        obtain ⟨γ, φ, hS, _⟩ := hI
        exact wants_ok (fun t ht => by rw [← agT t ht]; exact hS.tm t) hb
      unfold wpOp
      simp only [ho]
      rcases hEi with ⟨e1, e2, e3⟩ | ⟨e1, e2, e3⟩
      · rw [hw true e1, if_pos rfl]
        refine .inl (run_step (n := all.size) hT ha e3 (by rw [(hfold i (by omega)).2]) hi' hn hL' (fun x hx => ?_) (fun k hk => ?_) hdo hI next)
        · cases x with
          | tmp t => exact (agT t (List.mem_append_left _ (List.mem_filterMap.2 ⟨_, hx, rfl⟩))).symm
          | _ => rfl
        · exact (agN k (by rw [e2]; exact hk)).symm
      · rw [hw false e1, if_neg (by simp)]
        subst e3
        refine next _ _ ?_
        obtain ⟨γ, φ, hS, hg, h1, h2⟩ := hI
        obtain ⟨p1, p2⟩ := put_args ha hdo h2 h1 undef
        refine ⟨γ, φ, ?_, fun m hm' hh => hg m hm' fun k hk hLk => hh k hk ((hL' k).2 (.inl hLk)), p2, (put_size a _ _).trans h2⟩
        rw [tvOf_set, svOf_set]
        exact hS.put p1 ⟨[], rfl, rfl, fun j v x hv => by simp at hv⟩
  refine wp_region_any hm (key _ _ a _ (by simp) ?_ ?_ ?_)
  · have : ((List.range all.size).filter fun i => !(Array.replicate all.size false).getD i true).length ≤ (List.range all.size).length := List.length_filter_le _ _
    simpa using this
  · intro i j hj hh
    rw [Array.getD_eq_getD_getElem?] at hh
    simp only [Array.getElem?_replicate] at hh
    split at hh <;> simp at hh
  · obtain ⟨γ, φ, hS, hg, h1, h2⟩ := hI
    have e := noL (fun i => (Array.replicate all.size false).getD i false = true) fun i => by
      rw [Array.getD_eq_getD_getElem?]
      simp only [Array.getElem?_replicate]
      split <;> simp
    rw [e]
    exact ⟨γ, φ, hS.same ⟨rfl, rfl, rfl, rfl⟩, fun m hm _ => hg m hm, h1, h2⟩
end
end Go.Proofs.YtkkmgjhfjhcdmaaGreatDoor.Mx

namespace Go.Proofs.YtkkmgjhfjhcdmaaGreatDoor.Mx
open Go Go.RowKit
section
variable {w0 : World} {M R : Nat → Prop} {P : Program} {E : Env} {args : List Value} {np N : Nat}
theorem br_mono {A B A' B' : Prop} {q : Bool} (h1 : A → A') (h2 : B → B') (h : Br A B q) : Br A' B' q := by
  unfold Br at *
  split at h
  · rename_i hq; rw [if_pos hq]; exact h1 h
  · rename_i hq; rw [if_neg hq]; exact h2 h
theorem gk_mono {A B A' B' : Prop} {w : Bool} {x : AV} (h1 : A → A') (h2 : B → B') (h : GK w A B x) : GK w A' B' x := by
  unfold GK at *
  split at h
  · exact br_mono h1 h2 h
  · exact h2 h
  · exact h.elim
theorem ck_mono {A B A' B' : Prop} {x : AV} (h1 : A → A') (h2 : B → B') (h : CK A B x) : CK A' B' x := by
  unfold CK at *
  split at h
  · exact br_mono h1 h2 h
  · exact h.elim
theorem rgB_mono {s : St} {dst : Option Tmp} {K K' : St → Prop} (hK : ∀ s, K s → K' s) {m : Nat} {B : Option Blk} (h : RgB s dst K m B) : RgB s dst K' m B := by
  unfold RgB at *
  split at h
  · exact hK _ h
  · exact h
theorem rgK_mono {T : Ty} {t : TypeId} {s : St} {dst : Option Tmp} {K K' : St → Prop} (hK : ∀ s, K s → K' s) {x : AV} (h : RgK T t s dst K x) : RgK T t s dst K' x := by
  refine ⟨h.1, ?_⟩
  have h := h.2
  cases x <;> try (exact h.elim)
  · exact rgB_mono hK h
  · exact hK _ h
theorem nxK_mono {T : Ty} {t : TypeId} {s : St} {dst : Option Tmp} {K K' : St → Prop} (hK : ∀ s, K s → K' s) {x : AV} (h : NxK T t s dst K x) : NxK T t s dst K' x := by
  unfold NxK at *
  split at h
  · unfold NxB at *
    split at h
    · exact ⟨h.1, fun e => hK _ (h.2.1 e), fun kv r p => hK _ (h.2.2 kv r p)⟩
    · exact h
  · exact h
theorem enK_mono {T : Ty} {t : TypeId} {s : St} {dst : Option Tmp} {K K' : St → Prop} (hK : ∀ s, K s → K' s) {x : AV} (h : EnK T t s dst K x) : EnK T t s dst K' x := by
  unfold EnK at *
  split at h
  · unfold EnB at *
    split at h
    · exact ⟨h.1, hK _ h.2⟩
    · exact h
  · exact h
theorem step1_mono {id i : Nat} {o : Oper} {K K' : St → Prop} (hK : ∀ s, K s → K' s) {s : St} (h : step1 P E id i o K s) : step1 P E id i o K' s := by
  have key : ∀ op : Op, o.op = op → step1 P E id i o K' s := by
    intro op ho
    unfold step1 at h ⊢
    rw [ho] at h ⊢
    cases op with
    | range t x => exact rgK_mono hK h
    | entry x => exact enK_mono hK h
    | next x q => cases q with
      | true => obtain ⟨d, h3, h4⟩ := h; exact ⟨d, h3, hK _ h4⟩
      | false => exact nxK_mono hK h
    | call c =>
      obtain ⟨cal, args, ats⟩ := c
      cases cal with
      | value f => cases f with
        | func g =>
          obtain ⟨l, r, h1, h2, d, h3, h4⟩ := h
          exact ⟨l, r, h1, h2, d, h3, hK _ h4⟩
        | _ => obtain ⟨d, h3, h4⟩ := h; exact ⟨d, h3, hK _ h4⟩
      | _ => obtain ⟨d, h3, h4⟩ := h; exact ⟨d, h3, hK _ h4⟩
    | _ => obtain ⟨d, h3, h4⟩ := h; exact ⟨d, h3, hK _ h4⟩
  exact key _ rfl
theorem opsW_mono {id : Nat} {all : List Oper} {K K' : St → Prop} (hK : ∀ s, K s → K' s) : ∀ (l : List Oper) (i : Nat) (s : St), opsW P E id all K i l s → opsW P E id all K' i l s
  | [], i, s, h => hK s h
  | o :: l, i, s, h => by
    simp only [opsW] at h ⊢
    split at h
    · exact step1_mono (opsW_mono hK l (i + 1)) h
    · exact gk_mono (step1_mono (opsW_mono hK l (i + 1))) (opsW_mono hK l (i + 1) _) h
theorem stepR_mono {id i : Nat} {o : Oper} {K K' : Ac → St → Prop} (hK : ∀ a s, K a s → K' a s) {s : St} (h : stepR P E id i o K s) : stepR P E id i o K' s := by
  unfold stepR at *
  split at h
  · obtain ⟨l, r, h1, h2, d, h3, h4⟩ := h
    exact ⟨l, r, h1, h2, d, h3, hK _ _ h4⟩
  · obtain ⟨d, h3, h4⟩ := h
    exact ⟨d, h3, hK _ _ h4⟩
theorem drW_mono {id : Nat} {D : List (List Nat)} {all : List Oper} {K K' : St → Prop} (hK : ∀ s, K s → K' s) : ∀ (l : List Oper) (i : Nat) (acc : List Ac) (s : St), drW P E id D all K i l acc s → drW P E id D all K' i l acc s
  | [], i, acc, s, h => ⟨h.1, hK s h.2⟩
  | o :: l, i, acc, s, h => by
    simp only [drW] at h ⊢
    split at h
    · exact stepR_mono (fun a s => drW_mono hK l (i + 1) (a :: acc) s) h
    · exact gk_mono (stepR_mono fun a s => drW_mono hK l (i + 1) (a :: acc) s) (drW_mono hK l (i + 1) _ _) h
theorem drawW_mono {id : Nat} {all : List Oper} {K K' : St → Prop} (hK : ∀ s, K s → K' s) {s : St} (h : drawW P E id all K s) : drawW P E id all K' s := ⟨h.1, drW_mono hK _ _ _ _ h.2⟩
theorem lp_mono {F : Po → St → Prop} (hF : ∀ (Q Q' : Po) (s : St), (∀ e s, Q e s → Q' e s) → F Q s → F Q' s) {Q Q' : Po} (hQ : ∀ e s, Q e s → Q' e s) {s : St} (h : Lp F Q s) : Lp F Q' s := fun I hI => h I fun s hs => hI s (hF _ _ s (fun e s he => by
  cases e with
  | normal => exact he
  | _ => exact hQ _ _ he) hs)
theorem lp_unfold {F : Po → St → Prop} (hF : ∀ (Q Q' : Po) (s : St), (∀ e s, Q e s → Q' e s) → F Q s → F Q' s) {Q : Po} {s : St} : Lp F Q s ↔ F (Po.then (Lp F Q) Q) s := by
  constructor
  · intro h
    refine h (fun s => F (Po.then (Lp F Q) Q) s) fun s hs => hF _ _ s (fun e s he => ?_) hs
    cases e with
    | normal => exact fun I hI => hI s (hF _ _ s (fun e s he => by
        cases e with
        | normal => exact he I hI
        | _ => exact he) he)
    | _ => exact he
  · intro h I hI
    refine hI s (hF _ _ s (fun e s he => ?_) h)
    cases e with
    | normal => exact he I hI
    | _ => exact he
theorem aw_mono : ∀ (c : Code) (Q Q' : Po) (s : St), (∀ e s, Q e s → Q' e s) → aw P E c Q s → aw P E c Q' s
  | .skip, Q, Q', s, hQ, h => hQ _ _ h
  | .seq x y, Q, Q', s, hQ, h => by
    refine aw_mono x _ _ s (fun e s he => ?_) h
    cases e with
    | normal => exact aw_mono y _ _ s hQ he
    | _ => exact hQ _ _ he
  | .cond (.tmp t) x y, Q, Q', s, hQ, h => ck_mono (aw_mono x _ _ s hQ) (aw_mono y _ _ s hQ) h
  | .block id c, Q, Q', s, hQ, h => by
    refine aw_mono c _ _ s (fun e s he => ?_) h
    cases e with
    | exit id' => simp only [Po.inBlock] at he ⊢; split at he <;> rename_i hi <;> simp only [hi, if_true, if_false] <;> exact hQ _ _ he
    | _ => exact hQ _ _ he
  | .exit id, Q, Q', s, hQ, h => hQ _ _ h
  | .ret, Q, Q', s, hQ, h => hQ _ _ h
  | .loop c, Q, Q', s, hQ, h => lp_mono (F := fun Q s => aw P E c Q (norm (E.kp (headId c)) s)) (fun Q Q' s hQ h => aw_mono c _ _ _ hQ h) hQ h
  | .region id all false, Q, Q', s, hQ, h => by
    simp only [aw] at h ⊢
    cases hx : E.ex id with
    | false => rw [hx] at h; exact opsW_mono (hQ _) _ _ _ h
    | true => rw [hx] at h; exact h.imp fun s' k => ⟨k.1, hQ _ _ k.2⟩
  | .region id all true, Q, Q', s, hQ, h => drawW_mono (hQ _) h
  | .cond (.const _) _ _, _, _, _, _, h => h.elim
  | .cond (.global _) _ _, _, _, _, _, h => h.elim
  | .cond (.func _) _ _, _, _, _, _, h => h.elim
  | .rangeFunc _ _ _ _, _, _, _, _, h => h.elim
  | .scope _, _, _, _, _, h => h.elim
  | .label _, _, _, _, _, h => h.elim
  | .goto _, _, _, _, _, h => h.elim
  | .refuse _, _, _, _, _, h => h.elim
theorem aw_loop {c : Code} {Q : Po} {s : St} : aw P E (.loop c) Q s ↔ aw P E c (Po.then (aw P E (.loop c) Q) Q) (norm (E.kp (headId c)) s) := lp_unfold (F := fun Q s => aw P E c Q (norm (E.kp (headId c)) s)) fun Q Q' s hQ h => aw_mono c _ _ _ hQ h
def QX (w0 : World) (M R : Nat → Prop) (args : List Value) (N : Nat) (Q : Po) : Exit → Act → World → Prop
  | .normal, a, w => ∃ s, Q .normal s ∧ Inv w0 M R args N s a w
  | .exit id, a, w => ∃ s, Q (.exit id) s ∧ Inv w0 M R args N s a w
  | .ret, a, w => ∃ s, Q .ret s ∧ Inv w0 M R args N s a w
  | _, _, _ => False
theorem drawW_ok (hT : TOk P E.T) (hm : P.follows .mixedOrders = true) (ha : args.length ≤ np) {id : Nat} {all : Array Oper} {K : St → Prop} {Q : Exit → Act → World → Prop} (hK : ∀ s a w, K s → Inv w0 M R args N s a w → Q .normal a w) {s : St} {a : Act} {w : World}
    (hd : ∀ o ∈ all.toList, opDst np N o = true) (h : drawW P E id all.toList K s) (hI : Inv w0 M R args N s a w) : (Code.region id all true).wp P Q a w := draw_ok hT ha hm hK hd h.1 h.2 hI
theorem aw_ok (hT : TOk P E.T) (hm : P.follows .mixedOrders = true) (ha : args.length ≤ np) : ∀ (c : Code) (Q : Po) (s : St) (a : Act) (w : World), dstOk np N c = true → aw P E c Q s → Inv w0 M R args N s a w → c.wp P (QX w0 M R args N Q) a w
  | .skip, Q, s, a, w, hd, h, hI => wp_skip ⟨s, h, hI⟩
  | .seq x y, Q, s, a, w, hd, h, hI => by
    simp only [dstOk, Bool.and_eq_true] at hd
    refine wp_seq (wp_mono (aw_ok hT hm ha x _ s a w hd.1 h hI) fun e a w he => ?_)
    cases e with
    | normal => obtain ⟨s', h', hI'⟩ := he; exact aw_ok hT hm ha y Q s' a w hd.2 h' hI'
    | exit id => exact he
    | ret => exact he
    | _ => exact he.elim
  | .cond (.tmp t) x y, Q, s, a, w, hd, h, hI => by
    simp only [dstOk, Bool.and_eq_true] at hd
    have h : CK (aw P E x Q s) (aw P E y Q s) (s.tv t) := h
    unfold CK at h
    split at h
    · rename_i q hq
      have ht : a.eval (.tmp t) = .bool q := by
        obtain ⟨γ, φ, hS, _⟩ := hI
        have := hS.tm t
        rw [hq] at this
        exact (rep_sc this).1
      unfold Br at h
      refine wp_cond ht ?_
      split at h
      · rename_i hq'; rw [if_pos hq']; exact aw_ok hT hm ha x Q s a w hd.1 h hI
      · rename_i hq'; rw [if_neg hq']; exact aw_ok hT hm ha y Q s a w hd.2 h hI
    · exact h.elim
  | .block id c, Q, s, a, w, hd, h, hI => by
    refine wp_block (wp_mono (aw_ok hT hm ha c _ s a w hd h hI) fun e a w he => ?_)
    cases e with
    | normal => exact he
    | exit id' =>
      obtain ⟨s', h', hI'⟩ := he
      simp only [Po.inBlock] at h'
      simp only [Exit.inBlock]
      split at h' <;> rename_i hi <;> simp only [hi, if_true, if_false] <;> exact ⟨s', h', hI'⟩
    | ret => exact he
    | _ => exact he.elim
  | .exit id, Q, s, a, w, hd, h, hI => wp_exit ⟨s, h, hI⟩
  | .ret, Q, s, a, w, hd, h, hI => wp_ret ⟨s, h, hI⟩
  | .loop c, Q, s, a, w, hd, h, hI => by
    have key := h (fun s => ∀ a w, Inv w0 M R args N s a w → ∀ (b : Frame) (k : List Item) (cs : List Frame), ∃ e a' w', QX w0 M R args N Q e a' w' ∧ Arrives P (lone (b.at a (.code c :: .inLoop c :: k)) cs w) b k cs e a' w') fun s hs a w hI b k cs => by
      obtain ⟨e, a₁, w₁, hq, harr⟩ := aw_ok hT hm ha c _ _ a w hd hs (norm_ok hI) b (.inLoop c :: k) cs
      cases e with
      | normal =>
        obtain ⟨s', h', hI'⟩ := hq
        obtain ⟨e₂, a₂, w₂, hq₂, harr₂⟩ := h' a₁ w₁ hI' b k cs
        exact ⟨e₂, a₂, w₂, hq₂, .of_steps (Steps.trans harr (.one step_inLoop)) harr₂⟩
      | exit id => exact ⟨.exit id, a₁, w₁, hq, .pass (x := .inLoop c) rfl (fun _ _ => .inl (by simp)) harr⟩
      | ret => exact ⟨.ret, a₁, w₁, hq, .pass (x := .inLoop c) rfl (fun _ _ => .inl (by simp)) harr⟩
      | _ => exact hq.elim
    intro b k cs
    obtain ⟨e, a', w', hq, harr⟩ := key a w hI b k cs
    exact ⟨e, a', w', hq, .of_steps (.one step_loop) harr⟩
  | .region id all false, Q, s, a, w, hd, h, hI => by
    simp only [aw] at h
    cases hx : E.ex id with
    | false =>
      rw [hx] at h
      refine wp_region ?_
      have := opsW_ok (id := id) (all := all) (Q := QX w0 M R args N Q) hT ha (fun s a w hk hI => ⟨s, hk, hI⟩) all.toList 0 (keep (E.kp id) (frz (E.fz id) s)) a w (by simp) (fun o ho => List.all_eq_true.1 hd o ho) h (keep_ok (frz_ok hI))
      rw [List.range_eq_range']
      simpa using this
    | true =>
      rw [hx] at h
      obtain ⟨s', h1, h2⟩ := h
      intro b k cs
      obtain ⟨e, a', w', ⟨he, hq⟩, harr⟩ := h1 w0 M R args np N a w ha (fun o ho => List.all_eq_true.1 hd o ho) (keep_ok (frz_ok hI)) b k cs
      subst he
      exact ⟨.normal, a', w', ⟨s', h2, hq⟩, harr⟩
  | .region id all true, Q, s, a, w, hd, h, hI => drawW_ok hT hm ha (fun s a w hk hI => ⟨s, hk, hI⟩) (fun o ho => List.all_eq_true.1 hd o ho) h (keep_ok (frz_ok hI))
  | .cond (.const _) _ _, _, _, _, _, _, h, _ => h.elim
  | .cond (.global _) _ _, _, _, _, _, _, h, _ => h.elim
  | .cond (.func _) _ _, _, _, _, _, _, h, _ => h.elim
  | .rangeFunc _ _ _ _, _, _, _, _, _, h, _ => h.elim
  | .scope _, _, _, _, _, _, h, _ => h.elim
  | .label _, _, _, _, _, _, h, _ => h.elim
  | .goto _, _, _, _, _, _, h, _ => h.elim
  | .refuse _, _, _, _, _, _, h, _ => h.elim
end
end Go.Proofs.YtkkmgjhfjhcdmaaGreatDoor.Mx
