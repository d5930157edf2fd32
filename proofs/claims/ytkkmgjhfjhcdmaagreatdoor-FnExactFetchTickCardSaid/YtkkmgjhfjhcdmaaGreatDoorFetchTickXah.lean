/- A machine over values for Go functions, proved sound, and functions run on it: texts S1, V1, V2, V3, B1, J1, V3b, V4, VL, Ty, B5, VR. -/
import Derived.Below
import Derived.Deep.Slices
import Derived.ChangeArms
import Derived.WideShapes
import Derived.Lib.ItoaNum
import Derived.Lib.HexFns
import Derived.Test.YtkkmgjhfjhcdmaaGreatDoorProg
import Derived.Shelf.LaysM
import Derived.Shelf.Strconv.Itoa3
import Derived.Shelf.Hex.More
import Derived.Test.YtkkmgjhfjhcdmaaGreatDoorShD
import Derived.Test.YtkkmgjhfjhcdmaaGreatDoorShE
import Derived.Lib.Split
import Derived.Lib.HexFns2
import Derived.Lib.AtoiAll
import Derived.Test.YtkkmgjhfjhcdmaaGreatDoorFetchTickXag
/- The rules of a run, as a set. -/
namespace Go.Proofs.YtkkmgjhfjhcdmaaGreatDoor.Mx
set_option linter.all false
open Go Go.RowKit
/-- marked, from k on, each taking c -/
def mkG {α : Type} (f : α → Int → α) (c : α → Int) : List α → Int → List α
  | [], _ => []
  | a :: r, k => f a k :: mkG f c r (k + c a)
theorem mkG_len {α : Type} (f : α → Int → α) (c : α → Int) : ∀ (l : List α) (k : Int), (mkG f c l k).length = l.length
  | [], _ => rfl
  | a :: r, k => by rw [mkG, List.length_cons, List.length_cons, mkG_len f c r]
/-- lengths, as one rule -/
theorem LR : (∀ {α : Type} (a : α) (l : List α), (a :: l).length = l.length + 1) ∧ (∀ {α : Type}, ([] : List α).length = 0) ∧ (∀ {α β : Type} (f : α → β) (l : List α), (l.map f).length = l.length) ∧
    (∀ {α : Type} (a b : List α), (a ++ b).length = a.length + b.length) ∧ (∀ {α : Type} (n : Nat) (l : List α), (l.take n).length = min n l.length) ∧ (∀ {α : Type} (n : Nat) (l : List α), (l.drop n).length = l.length - n) ∧
    (∀ {α : Type} (n : Nat) (a : α), (List.replicate n a).length = n) ∧ (∀ {α : Type} (l : List α) (n : Nat) (a : α), (l.set n a).length = l.length) ∧ ∀ {α : Type} (f : α → Int → α) (c : α → Int) (l : List α) (k : Int), (mkG f c l k).length = l.length :=
  ⟨fun _ _ => rfl, rfl, fun _ _ => List.length_map .., fun _ _ => List.length_append, fun _ _ => List.length_take, fun _ _ => List.length_drop, fun _ _ => List.length_replicate, fun _ _ _ => List.length_set, mkG_len⟩
attribute [push_cast] if_pos decide_eq_true decide_eq_false
def look2 : List (Nat × List (List Nat)) → Nat → List (List Nat)
  | [], _ => []
  | (k, l) :: r, n => bif k == n then l else look2 r n
def look3 : List (Nat × Nat × List Nat) → Nat → Nat → List Nat
  | [], _, _ => []
  | (k, j, l) :: r, n, m => bif k == n && j == m then l else look3 r n m
def lookB : List Nat → Nat → Bool
  | [], _ => false
  | k :: r, n => bif k == n then true else lookB r n
theorem lookB_nil (n : Nat) : lookB [] n = false := rfl
theorem lookB_cons (m n : Nat) (r : List Nat) : lookB (m :: r) n = if m = n then true else lookB r n := by rw [lookB, cond_eq_ite]; simp only [beq_iff_eq]
attribute [push_cast] lookB_nil lookB_cons
attribute [push_cast] drW chkAll chkTo okPair depB disjB rts
attribute [push_cast] dstep_move dstep_assign dstep_pick dstep_alloc dstep_box dstep_build dstep_buildSlice dstep_load dstep_store dstep_nilCheck dstep_binOp dstep_unOp dstep_convert dstep_makeSlice dstep_slice dstep_fieldAddr dstep_indexAddr dstep_index dstep_extract dstep_makeMap dstep_lookup dstep_mapUpdate dstep_insert dstep_bi dstep_call
attribute [push_cast] aw_skip aw_seq aw_cond aw_block aw_exit aw_ret aw_region rk_f enter thAs thA th1 thL tmsOf sync supd wds wd List.map cond_true cond_false if_true if_false opsW step_call step_bi step_move step_assign step_pick step_alloc step_box step_build step_buildSlice step_load step_store step_nilCheck step_binOp step_unOp step_convert step_makeSlice step_slice step_fieldAddr step_indexAddr step_index step_extract step_makeMap step_lookup step_mapUpdate step_insert after_some aop isNil opv scp plain St.go St.put St.tv St.sv
  Po.then Po.inBlock bop bopI bopS bopB uop gq dstAt gk_bool gk_tu ck_bool br_true br_false Bool.false_eq_true beq_self_eq_true List.append_nil List.nil_append List.cons_append
  beq_true beq_false Fin finish finV fin1 lentV outs wrapR exL exA ex1 nodupB List.contains_nil List.take List.drop List.length_cons List.length_nil List.append_eq one toI optI elemOf isSrc pBuiltin
attribute [push_cast] pLen cellsOf zbox getP fillP setR takeN isStr part wrapA loaded List.headD pFieldAddr pStore pIndexAddr List.getElem?_cons_zero List.getElem?_cons_succ
attribute [push_cast] norm namesA names1 below rnA rn1 rnS rnB headId List.flatMap_cons List.flatMap_nil
attribute [push_cast] pConvert eqs ne_eq not_false_eq_true not_true_eq_false and_true true_and and_false false_and Option.getD_some Option.getD_none
attribute [push_cast] decide_true decide_false Bool.not_true Bool.not_false Bool.and_true Bool.and_false Bool.and_self Bool.or_true Bool.or_false Bool.true_and Bool.false_and Bool.true_or Bool.false_or List.length_map Int.natCast_inj Int.ofNat_lt Int.ofNat_le ofNat_nn Int.toNat_natCast List.getElem?_map Option.map_some
attribute [push_cast] argsOk argsI argI vwA vnA vw1 vn1 rt lnA ln1 rdC callOut bkS bkA bk1 bkL wdV thV thAs List.tail List.isEmpty_nil Bool.true_or List.map_cons List.map_nil List.any_cons List.all_cons List.all_nil List.flatMap_cons List.flatMap_nil
theorem ex_get {α : Type} {a : List α} {i : Nat} (h : i < a.length) : ∃ x, a[i]? = some x := ⟨_, List.getElem?_eq_getElem h⟩
theorem take_step {α : Type} {a : List α} {i : Nat} {x : α} (h : a[i]? = some x) : a.take (i + 1) = a.take i ++ [x] := by rw [List.take_add_one, h]; rfl
def supO (s : St) (l : List Operand) : List Nat := l.flatMap fun x => supA s.sv (opv s.tv x)
section
variable {s : St}
theorem rds_0 : supO s [] = [] := rfl
theorem supO_cons (x : Operand) (l : List Operand) : supO s (x :: l) = supA s.sv (opv s.tv x) ++ supO s l := rfl
theorem rds_move (x : Operand) : rdsO (.move x) s = [] := rfl
theorem rds_assign (x : Operand) : rdsO (.assign x) s = supO s [x] := rfl
theorem rds_pick (c x y : Operand) : rdsO (.pick c x y) s = supO s [c, x, y] := rfl
theorem rds_alloc (t : TypeId) : rdsO (.alloc t) s = [] := rfl
theorem rds_box (t : TypeId) (x : Operand) : rdsO (.box t x) s = supO s [x] := rfl
theorem rds_load (t : TypeId) (x : Operand) : rdsO (.load t x) s = (namesA (opv s.tv x)).flatMap (rts s.sv) := rfl
theorem rds_store (t : TypeId) (x y : Operand) : rdsO (.store t x y) s = supO s [x, y] := rfl
theorem rds_nilCheck (x : Operand) : rdsO (.nilCheck x) s = [] := rfl
theorem rds_binOp (o : BinOp) (t u : TypeId) (x y : Operand) : rdsO (.binOp o t x y u) s = supO s [x, y] := rfl
theorem rds_unOp (o : UnOp) (t : TypeId) (x : Operand) : rdsO (.unOp o t x) s = supO s [x] := rfl
theorem rds_convert (t u : TypeId) (x : Operand) : rdsO (.convert t u x) s = supO s [x] := rfl
theorem rds_makeSlice (t : TypeId) (x y : Operand) : rdsO (.makeSlice t x y) s = supO s [x, y] := rfl
theorem rds_fieldAddr (t : TypeId) (x : Operand) (k : Nat) : rdsO (.fieldAddr t x k) s = [] := rfl
theorem rds_indexAddr (t : TypeId) (x y : Operand) : rdsO (.indexAddr t x y) s = supO s [x, y] := rfl
theorem rds_index (t : TypeId) (x y : Operand) : rdsO (.index t x y) s = supO s [x, y] := rfl
theorem rds_extract (x : Operand) (k : Nat) : rdsO (.extract x k) s = supO s [x] := rfl
theorem rds_lookup (t : TypeId) (x y : Operand) (q : Bool) : rdsO (.lookup t x y q) s = supO s [x, y] := rfl
theorem rds_mapUpdate (t : TypeId) (x y z : Operand) : rdsO (.mapUpdate t x y z) s = supO s [x, y, z] := rfl
theorem rds_insert (t : TypeId) (x y z : Operand) : rdsO (.insert t x y z) s = supO s [x, y, z] := rfl
theorem rds_makeMap (t : TypeId) (x : Option Operand) : rdsO (.makeMap t x) s = supO s x.toList := by cases x <;> rfl
theorem rds_slice (t : TypeId) (x : Operand) (l h m : Option Operand) : rdsO (.slice t x l h m) s = supO s (x :: (l.toList ++ h.toList ++ m.toList)) := by cases l <;> cases h <;> cases m <;> rfl
theorem rds_build (t : TypeId) (ps : Array (Nat × Operand)) : rdsO (.build t ps) s = supO s (ps.toList.map (·.2)) := rfl
theorem rds_buildSlice (t : TypeId) (n : Nat) (ps : Array (Nat × Operand)) : rdsO (.buildSlice t n ps) s = supO s (ps.toList.map (·.2)) := rfl
theorem rds_bi (b : Builtin) (xs : Array Operand) (ats : Array TypeId) : rdsO (.call { callee := .builtin b, args := xs, argTypes := ats }) s = supO s xs.toList := by simp [rdsO, supO, Op.operands, Call.operands]
theorem rds_call (h : FuncId) (xs : Array Operand) (ats : Array TypeId) : rdsO (.call { callee := .value (.func h), args := xs, argTypes := ats }) s = supO s xs.toList := by simp [rdsO, supO, Op.operands, Call.operands, opv, supA, namesA, names1]
end
attribute [push_cast] rds_0 supO_cons rds_move rds_assign rds_pick rds_alloc rds_box rds_load rds_store rds_nilCheck rds_binOp rds_unOp rds_convert rds_makeSlice rds_fieldAddr rds_indexAddr rds_index rds_extract rds_lookup rds_mapUpdate rds_insert rds_makeMap rds_slice rds_build rds_buildSlice rds_bi rds_call Option.toList kill List.reverse_cons List.reverse_nil
theorem seg_full {α : Type} {r : List α} {n : Nat} (h : r.length ≤ n) : seg r 0 n = r := by unfold seg; simp [List.take_of_length_le h]
theorem flatR_app (a b : List Row) : flatR (a ++ b) = (flatR a && flatR b) := by simp [flatR]
theorem flatR_cons (x : Row) (b : List Row) : flatR (x :: b) = (x.all isSc && flatR b) := rfl
theorem flatR_nil : flatR [] = true := rfl
theorem wr_u8 (n : Int) : wr .u8 n = n % 256 := rfl
theorem wr_u64 (n : Int) : wr .u64 n = n % 18446744073709551616 := rfl
theorem blkRows_ar {sv : Sv} {m z v : Nat} {r : List Row} (h : sv m = some (.ar z v r)) : blkRows sv m = some (z, r) := by simp [blkRows, h]
theorem blkRows_fz {sv : Sv} {m z : Nat} {r : List Row} (h : sv m = some (.fz z r)) : blkRows sv m = some (z, r) := by simp [blkRows, h]
theorem room_cast : ((room : Nat) : Int) = 140737488355328 := rfl
theorem le_room (n : Nat) : (n ≤ room) = (n ≤ 140737488355328) := rfl
attribute [push_cast] List.isEmpty_cons ownV ownA own1 List.getD_cons_zero List.getD_cons_succ Int.sub_zero List.contains_cons Nat.zero_add List.any_nil room_cast le_room flatR_app flatR_cons flatR_nil seg_full fillS zrow cnv List.replicate_one List.replicate_zero List.set_cons_zero List.set_cons_succ bytesOf byteOf srcOf pAppend blkRows nest rowsOf isSc pSlice pCut cutOf blkZ flatT putRows pCopy ldA Option.isSome_none Option.isSome_some Option.isNone_none Option.isNone_some List.zip_nil_right
/-- a function's promise, shut -/
structure Does (P : Program) (f : FuncId) (avs : List AV) (r : Ans) : Prop where
  m : Meets P f avs r
theorem callC {P : Program} {h : FuncId} {f : Ans → Prop} {l : List AV} {r : Ans} (hm : Does P h l r) (hf : f r) : AfterC P h f (some l) := ⟨l, r, rfl, hm.m, hf⟩
theorem callC_eq {P : Program} {h : FuncId} {f : Ans → Prop} {l l' : List AV} {r : Ans} (hm : Does P h l' r) (e : l = l') (hf : f r) : AfterC P h f (some l) := ⟨l, r, rfl, e ▸ hm.m, hf⟩
theorem does_of {P : Program} {E : Env} (hT : TOk P E.T) (hm : P.follows .mixedOrders = true) {f : FuncId} {fn : Func} {c : Code} {rs : List ResultVar} {lent : List Bool} {avs : List AV} {r : Ans} (hf : P.funcs[f]? = some fn) (hb : fn.body = some c) (hn : (fn.name == "runtime.NumGoroutine") = false)
    (hr : fn.results = rs.toArray) (hd : dstOk lent.length fn.ntmps c = true) (hN : avs.length ≤ fn.ntmps) (hl : lent.length ≤ avs.length) (h : aw P E c (Fin E.T rs lent r) (enter avs)) : Does P f avs r := ⟨meets_of hT hm hf hb hn hr hd hN hl h⟩
/-! Look-ups, a test at a time (a test is settled ahead of what hangs on it). -/
theorem tget_nil (n : Nat) : tget [] n = .no := rfl
theorem tget_cons (m n : Nat) (x : AV) (r : List (Nat × AV)) : tget ((m, x) :: r) n = if m = n then x else tget r n := by rw [tget, cond_eq_ite]; simp only [beq_iff_eq]
theorem sget_nil (n : Nat) : sget [] n = none := rfl
theorem sget_cons (m n : Nat) (x : Blk) (r : Sto) : sget ((m, x) :: r) n = if m = n then some x else sget r n := by rw [sget, cond_eq_ite]; simp only [beq_iff_eq]
theorem srem_nil (n : Nat) : srem [] n = [] := rfl
theorem srem_cons (m n : Nat) (x : Blk) (r : Sto) : srem ((m, x) :: r) n = if m = n then srem r n else (m, x) :: srem r n := by rw [srem, cond_eq_ite]; simp only [beq_iff_eq]
theorem look_nil (n : Nat) : look [] n = [] := rfl
theorem look_cons (m n : Nat) (x : List Nat) (r : List (Nat × List Nat)) : look ((m, x) :: r) n = if m = n then x else look r n := by rw [look, cond_eq_ite]; simp only [beq_iff_eq]
theorem look2_nil (n : Nat) : look2 [] n = [] := rfl
theorem look2_cons (m n : Nat) (x : List (List Nat)) (r : List (Nat × List (List Nat))) : look2 ((m, x) :: r) n = if m = n then x else look2 r n := by rw [look2, cond_eq_ite]; simp only [beq_iff_eq]
theorem look3_nil (n k : Nat) : look3 [] n k = [] := rfl
theorem look3_cons (m j n k : Nat) (x : List Nat) (r : List (Nat × Nat × List Nat)) : look3 ((m, j, x) :: r) n k = if m = n ∧ j = k then x else look3 r n k := by rw [look3, cond_eq_ite]; simp only [Bool.and_eq_true, beq_iff_eq]
theorem idx_nil (k n : Nat) : idx [] k n = none := rfl
theorem idx_cons (x k n : Nat) (r : List Nat) : idx (x :: r) k n = if x = n then some k else idx r (k + 1) n := by rw [idx, cond_eq_ite]; simp only [beq_iff_eq]
theorem dedup_nil (acc : List Nat) : dedup acc [] = acc.reverse := rfl
theorem dedup_cons (acc : List Nat) (x : Nat) (r : List Nat) : dedup acc (x :: r) = dedup (if acc.contains x = true then acc else x :: acc) r := by rw [dedup]; cases acc.contains x <;> simp
def kpL (tm : List (Nat × AV)) : List Nat → List (Nat × AV)
  | [] => []
  | t :: r => (t, tget tm t) :: kpL tm r
theorem keep_eq (ks : List Nat) (s : St) : keep ks s = ⟨kpL s.tm ks, s.sto, s.ctr⟩ := by
  have : (ks.map fun t => (t, tget s.tm t)) = kpL s.tm ks := by induction ks with | nil => rfl | cons a r ih => rw [List.map_cons, ih]; rfl
  unfold keep; rw [this]
def nmL (L : List Nat) (tm : List (Nat × AV)) : List Nat → List (Nat × AV)
  | [] => []
  | t :: r => (t, rnA L (tget tm t)) :: nmL L tm r
theorem normL_eq (L ks : List Nat) (s : St) : normL L ks s = ⟨nmL L s.tm ks, rnS L s.sv 1 L, L.length + 1⟩ := by
  have : (ks.map fun t => (t, rnA L (s.tv t))) = nmL L s.tm ks := by induction ks with | nil => rfl | cons a r ih => rw [List.map_cons, ih]; rfl
  unfold normL; rw [this]
def bl2 (sto : Sto) : List Nat → List Nat
  | [] => []
  | m :: r => below (sget sto) m ++ bl2 sto r
def bl1 (sto : Sto) : List Nat → List Nat
  | [] => []
  | m :: r => bl2 sto (below (sget sto) m) ++ bl1 sto r
def rcL (sto : Sto) (tm : List (Nat × AV)) : List Nat → List Nat
  | [] => []
  | t :: r => bl1 sto (namesA (tget tm t)) ++ rcL sto tm r
theorem bl2_eq (sto : Sto) : ∀ l, l.flatMap (below (sget sto)) = bl2 sto l
  | [] => rfl
  | a :: r => by rw [List.flatMap_cons, bl2_eq sto r]; rfl
theorem bl1_eq (sto : Sto) : ∀ l, l.flatMap (fun m => (below (sget sto) m).flatMap (below (sget sto))) = bl1 sto l
  | [] => rfl
  | a :: r => by rw [List.flatMap_cons, bl1_eq sto r, bl2_eq]; rfl
theorem reach_eq (ks : List Nat) (s : St) : reach ks s = dedup [] (rcL s.sto s.tm ks) := by
  have : ∀ ks, (ks.flatMap fun t => (namesA (s.tv t)).flatMap fun m => (below s.sv m).flatMap (below s.sv)) = rcL s.sto s.tm ks := fun ks => by
    induction ks with
    | nil => rfl
    | cons a r ih => rw [List.flatMap_cons, ih]; show List.flatMap (fun m => (below (sget s.sto) m).flatMap (below (sget s.sto))) _ ++ _ = _; rw [bl1_eq]; rfl
  unfold reach; rw [this]
def ctL (sv : Sv) : Row → List Nat
  | [] => []
  | c :: r => (match c with | .ow m _ _ | .pt m _ _ | .mv m => rts sv m | _ => []) ++ ctL sv r
def spL (sv : Sv) : List Nat → List Nat
  | [] => []
  | m :: r => rts sv m ++ ((match sv m with | some (.bx cs) => ctL sv cs | _ => []) ++ spL sv r)
theorem ctL_eq (sv : Sv) : ∀ cs : Row, (cs.flatMap fun c => (names1 c).flatMap (rts sv)) = ctL sv cs
  | [] => rfl
  | c :: r => by
    rw [List.flatMap_cons, ctL_eq sv r]
    cases c <;> simp [names1, ctL]
theorem supA_eq (sv : Sv) (x : AV) : supA sv x = spL sv (namesA x) := by
  have : ∀ l : List Nat, (l.flatMap fun m => rts sv m ++ (match sv m with | some (.bx cs) => cs.flatMap fun c => (names1 c).flatMap (rts sv) | _ => [])) = spL sv l := fun l => by
    induction l with
    | nil => rfl
    | cons m r ih =>
      rw [List.flatMap_cons, ih, spL, List.append_assoc]
      congr 2
      cases sv m with
      | none => rfl
      | some B => cases B <;> first | rfl | exact ctL_eq sv _
  unfold supA; exact this _
attribute [push_cast] keep_eq kpL normL_eq nmL bl2 bl1 rcL reach_eq ctL spL supA_eq
attribute [push_cast] tget_nil tget_cons sget_nil sget_cons srem_nil srem_cons look_nil look_cons look2_nil look2_cons look3_nil look3_cons idx_nil idx_cons dedup_nil dedup_cons
section
variable {P : Program} {E : Env} {id i : Nat} {d : Option Tmp} {ty : TypeId} {ps : String} {af : Array Edge} {g : Option (Nat × Bool)} {K : St → Prop} {s : St}
theorem step_range (t : TypeId) (x : Operand) : step1 P E id i ⟨d, .range t x, ty, ps, af, g⟩ K s ↔ RgK E.T t s d K (opv s.tv x) := Iff.rfl
theorem step_next (x : Operand) : step1 P E id i ⟨d, .next x false, ty, ps, af, g⟩ K s ↔ NxK E.T 0 s d K (opv s.tv x) := Iff.rfl
theorem step_entry (x : Operand) : step1 P E id i ⟨d, .entry x, ty, ps, af, g⟩ K s ↔ EnK E.T 0 s d K (opv s.tv x) := Iff.rfl
end
theorem rgk_mc {T : Ty} {t : TypeId} {s : St} {d : Option Tmp} {K : St → Prop} (es : List (Value × Value)) (h : isMap T t = true) : RgK T t s d K (.mc es : AV) ↔ K (s.go d ⟨.pt s.ctr 0 0, [(s.ctr, some (.im es none))]⟩) := ⟨fun h => h.2, fun k => ⟨h, k⟩⟩
theorem rgk_mv {T : Ty} {t : TypeId} {s : St} {d : Option Tmp} {K : St → Prop} (m : Nat) (h : isMap T t = true) : RgK T t s d K (.mv m : AV) ↔ RgB s d K m (s.sv m) := ⟨fun h => h.2, fun k => ⟨h, k⟩⟩
theorem rgb_mp {s : St} {d : Option Tmp} {K : St → Prop} (m v : Nat) (es : List (Value × Value)) : RgB s d K m (some (.mp v es) : Option Blk) ↔ K (s.go d ⟨.pt s.ctr 0 0, [(m, none), (s.ctr, some (.im es none))]⟩) := Iff.rfl
theorem nxk_pt {T : Ty} {t : TypeId} {s : St} {d : Option Tmp} {K : St → Prop} (m : Nat) : NxK T t s d K (.pt m 0 0 : AV) ↔ NxB s d K m (s.sv m) := Iff.rfl
theorem enk_pt {T : Ty} {t : TypeId} {s : St} {d : Option Tmp} {K : St → Prop} (m : Nat) : EnK T t s d K (.pt m 0 0 : AV) ↔ EnB s d K m (s.sv m) := Iff.rfl
/-- what comes next, when the text stops at it -/
theorem next_im {s : St} {d : Option Tmp} {K : St → Prop} {m : Nat} {rem : List (Value × Value)} {last : Option (Value × Value)} (hp : (rem.all fun e => plain e.1 && plain e.2) = true) (h0 : rem = [] → K (s.go d ⟨.tu [.sc (.bool false)], []⟩))
    (h1 : ∀ kv rem', rem.Perm (kv :: rem') → K (s.go d ⟨.tu [.sc (.bool true), .sc kv.1, .sc kv.2], [(m, some (.im rem' (some kv)))]⟩)) : NxB s d K m (some (.im rem last) : Option Blk) := ⟨hp, h0, h1⟩
theorem enb_im {s : St} {d : Option Tmp} {K : St → Prop} {m : Nat} (rem : List (Value × Value)) (kv : Value × Value) (hp : (plain kv.1 && plain kv.2) = true) : EnB s d K m (some (.im rem (some kv)) : Option Blk) ↔ K (s.go d ⟨.tu [.sc kv.1, .sc kv.2], []⟩) := ⟨fun h => h.2, fun k => ⟨hp, k⟩⟩
attribute [push_cast] frz frz1 unn1 unnL notSb
attribute [push_cast] step_range step_next step_entry rgb_mp nxk_pt enk_pt
end Go.Proofs.YtkkmgjhfjhcdmaaGreatDoor.Mx

/- Values: numbers and texts. -/
namespace Go.Proofs.YtkkmgjhfjhcdmaaGreatDoor.Mx
set_option linter.all false
open Go Go.RowKit
abbrev Str := ByteArray
def em : Str := ⟨#[]⟩
def inB (a b c : Int) : Bool := decide (b ≤ a ∧ a ≤ c)
def strN (l : List Int) : Str := ⟨(l.map fun n => UInt8.ofNat n.toNat).toArray⟩
def numR (n : Int) : Row := [.sc (.int .u8 n)]
def strR (s : Str) : Row := [.sc (.string s)]
def boolR (b : Bool) : Row := [.sc (.bool b)]
def step64 (h : Int) (b : UInt8) : Int := wr .u64 (wr .u64 (BitVec.ofInt IntKind.u64.bits h ^^^ BitVec.ofInt IntKind.u64.bits (wr .u64 b.toNat)).toNat * 1099511628211)
def hash64 (l : List UInt8) : Int := l.foldl step64 14695981039346656037
/-- the last n bytes of a number, the greatest first -/
def be : Nat → Int → List Int
  | 0, _ => []
  | n + 1, h => h / 256 ^ n % 256 :: be n h
def sumS (t : Str) (w : Int) : Str := if 1 ≤ w ∧ w ≤ 8 then strN (be w.toNat (hash64 (bt t))) else em
theorem be_len : ∀ (n : Nat) (h : Int), (be n h).length = n
  | 0, _ => rfl
  | n + 1, h => by rw [be, List.length_cons, be_len n h]
theorem be_get : ∀ (n : Nat) (h : Int) (i : Nat), i < n → (be n h)[i]? = some (h / 256 ^ (n - 1 - i) % 256)
  | 0, _, _, hi => by omega
  | n + 1, h, 0, _ => by rw [be]; rfl
  | n + 1, h, i + 1, hi => by
    rw [be, List.getElem?_cons_succ, be_get n h i (by omega)]
    congr 4
    omega
theorem strN_size (l : List Int) : (strN l).size = l.length := by simp [strN, ByteArray.size]
theorem sumS_size {t : Str} {w : Int} (h1 : 1 ≤ w) (h2 : w ≤ 8) : ((sumS t w).size : Int) = w := by
  unfold sumS
  rw [if_pos ⟨h1, h2⟩, strN_size, be_len]
  omega
theorem strN_app (a b : List Int) : strN a ++ strN b = strN (a ++ b) := by
  unfold strN
  apply ByteArray.ext
  simp
theorem strN_one (x : Int) : (⟨#[UInt8.ofNat x.toNat]⟩ : ByteArray) = strN [x] := rfl
theorem bytesOf_num (l : List Int) : bytesOf (l.map numR) = some (l.map fun n => UInt8.ofNat n.toNat) := by
  induction l with
  | nil => rfl
  | cons x r ih =>
    rw [List.map_cons, List.map_cons]
    unfold bytesOf
    rw [show byteOf (numR x) = some (UInt8.ofNat x.toNat) from rfl]
    simp only []
    rw [ih]
theorem u64r (n : Int) : 0 ≤ wr .u64 n ∧ wr .u64 n < 18446744073709551616 := by
  show 0 ≤ IntKind.u64.wrap n ∧ IntKind.u64.wrap n < _
  have : IntKind.u64.wrap n = n % 18446744073709551616 := rfl
  omega
theorem hash64_r (l : List UInt8) : 0 ≤ hash64 l ∧ hash64 l < 18446744073709551616 := by
  unfold hash64
  generalize hx : (14695981039346656037 : Int) = x
  have h : 0 ≤ x ∧ x < 18446744073709551616 := by omega
  clear hx
  induction l generalizing x with
  | nil => exact h
  | cons b r ih => exact ih _ (u64r _)
end Go.Proofs.YtkkmgjhfjhcdmaaGreatDoor.Mx

/- Values: sizes, marks, lists that are filled. -/
namespace Go.Proofs.YtkkmgjhfjhcdmaaGreatDoor.Mx
set_option linter.all false
open Go Go.RowKit
theorem drop_step {α : Type} {a : List α} {i : Nat} {x : α} (h : a[i]? = some x) : a.drop i = x :: a.drop (i + 1) := by
  obtain ⟨h1, h2⟩ := List.getElem?_eq_some_iff.1 h
  rw [List.drop_eq_getElem_cons h1, h2]
/-! sizes -/
def szG {α : Type} (f : α → Int → Int) : List α → Int → Int
  | [], x => x
  | a :: r, x => if f a x < 0 then -1 else szG f r (f a x)
def szL {α : Type} (f : α → Int → Int) (l : List α) (x : Int) : Int := if x - l.length < 0 then -1 else szG f l (x - l.length)
def szStr (s : Str) (x : Int) : Int := x - s.size
theorem szG_ok {α : Type} {f : α → Int → Int} {ok : α → Prop} (hf : ∀ a x, 0 ≤ f a x → f a x ≤ x ∧ (x ≤ 2097152 → ok a)) : ∀ (l : List α) (x : Int), 0 ≤ szG f l x → szG f l x ≤ x ∧ (x ≤ 2097152 → ∀ a ∈ l, ok a)
  | [], x, h => ⟨Int.le_refl _, fun _ => by simp⟩
  | a :: r, x, h => by
    unfold szG at h ⊢
    split at h
    · omega
    · rename_i hn
      rw [if_neg hn]
      have := szG_ok hf r _ h
      have h2 := hf a x (by omega)
      refine ⟨by omega, fun hx b hb => ?_⟩
      rcases List.mem_cons.1 hb with rfl | hb
      · exact h2.2 hx
      · exact this.2 (by omega) b hb
/-! marks -/
def dig (n : Nat) : List Int := if h : n = 0 then [] else dig (n / 10) ++ [48 + ((n % 10 : Nat) : Int)]
  termination_by n
  decreasing_by omega
theorem dig_len (n : Nat) : (dig n).length ≤ n := by
  induction n using Nat.strongRecOn with
  | _ n ih =>
    unfold dig
    split
    · simp
    · have := ih (n / 10) (by omega)
      rw [List.length_append, List.length_cons, List.length_nil]
      omega
def mtx (k : Int) : Str := if k ≤ 0 then strN [109, 48] else strN (109 :: dig k.toNat)
def cnG {α : Type} (c : α → Int) : List α → Int
  | [] => 0
  | a :: r => c a + cnG c r
def hdG {α : Type} (f : α → Int → Bool) (c : α → Int) : List α → Int → Int
  | [], k => k
  | a :: r, k => if f a k = true then hdG f c r (k + c a) else -1
theorem cnG_nn {α : Type} {c : α → Int} (hc : ∀ a, 0 ≤ c a) : ∀ l : List α, 0 ≤ cnG c l
  | [] => Int.le_refl _
  | a :: r => by have := cnG_nn hc r; have := hc a; rw [cnG]; omega
theorem cnG_len {α : Type} {c : α → Int} (hc : ∀ a, 1 ≤ c a) : ∀ l : List α, (l.length : Int) ≤ cnG c l
  | [] => Int.le_refl _
  | a :: r => by have := cnG_len hc r; have := hc a; rw [cnG, List.length_cons]; omega
theorem cnG_le {α : Type} {c : α → Int} {B : Int} : ∀ l : List α, (∀ a ∈ l, c a ≤ B) → cnG c l ≤ B * l.length
  | [], _ => by simp [cnG]
  | a :: r, h => by
    have := cnG_le r fun x hx => h x (List.mem_cons_of_mem _ hx)
    have := h a (List.mem_cons_self ..)
    rw [cnG, List.length_cons, Int.natCast_add, Int.mul_add]
    omega
theorem cnG_mkG {α : Type} {f : α → Int → α} {c : α → Int} (hc : ∀ a k, c (f a k) = c a) : ∀ (l : List α) (k : Int), cnG c (mkG f c l k) = cnG c l
  | [], k => rfl
  | a :: r, k => by rw [mkG, cnG, cnG, hc, cnG_mkG hc r]
theorem hdG_mkG {α : Type} {f : α → Int → α} {c : α → Int} {g : α → Int → Bool} (hg : ∀ a k, 0 ≤ k → g (f a k) k = true) (hc : ∀ a k, c (f a k) = c a) (hn : ∀ a, 0 ≤ c a) : ∀ (l : List α) (k : Int), 0 ≤ k → hdG g c (mkG f c l k) k = k + cnG c l
  | [], k, _ => by simp [mkG, hdG, cnG]
  | a :: r, k, h => by
    rw [mkG, hdG, if_pos (hg a k h), hc, hdG_mkG hg hc hn r _ (by have := hn a; omega), cnG]
    omega
theorem hdG_val {α : Type} {g : α → Int → Bool} {c : α → Int} : ∀ (l : List α) (k : Int), hdG g c l k = k + cnG c l ∨ hdG g c l k = -1
  | [], k => by simp [hdG, cnG]
  | a :: r, k => by
    rw [hdG, cnG]
    split
    · rcases hdG_val r (k + c a) with h | h
      · rw [h]; omega
      · exact .inr h
    · exact .inr rfl
theorem cnG_app {α : Type} (c : α → Int) (a b : List α) : cnG c (a ++ b) = cnG c a + cnG c b := by
  induction a with
  | nil => simp [cnG]
  | cons x r ih => rw [List.cons_append, cnG, cnG, ih]; omega
theorem mkG_step {α : Type} {f : α → Int → α} {c : α → Int} : ∀ {l : List α} {i : Nat} {x : α} {k : Int}, l[i]? = some x → (mkG f c l k)[i]? = some (f x (k + cnG c (l.take i)))
  | [], i, x, k, h => by simp at h
  | a :: r, 0, x, k, h => by simp at h; subst h; simp [mkG, cnG]
  | a :: r, i + 1, x, k, h => by
    rw [List.getElem?_cons_succ] at h
    rw [mkG, List.getElem?_cons_succ, mkG_step h, List.take_succ_cons, cnG]
    congr 2
    omega
/-- a list that is overwritten from the left -/
theorem set_over {α : Type} {a b : List α} {i : Nat} {x : α} (hl : a.length = b.length) (h : a[i]? = some x) : (a.take i ++ b.drop i).set i x = a.take (i + 1) ++ b.drop (i + 1) := by
  have hi := (List.getElem?_eq_some_iff.1 h).1
  obtain ⟨y, hy⟩ := ex_get (hl ▸ hi : i < b.length)
  rw [take_step h, List.set_append_right _ _ (by simp [List.length_take]; omega), drop_step hy]
  simp [List.length_take, Nat.min_eq_left (Nat.le_of_lt hi)]
theorem get_over {α : Type} {a b : List α} {i : Nat} (hl : a.length = b.length) (hi : i ≤ a.length) : (a.take i ++ b.drop i)[i]? = b[i]? := by
  rw [List.getElem?_append_right (by simp; omega)]
  simp [List.length_take, Nat.min_eq_left hi]
end Go.Proofs.YtkkmgjhfjhcdmaaGreatDoor.Mx
namespace Go.Proofs.YtkkmgjhfjhcdmaaGreatDoor.Mx
set_option linter.all false
def hdOk {α : Type} (g : α → Int → Bool) (c : α → Int) (l : List α) (k : Int) : Bool := decide (0 ≤ hdG g c l k)
theorem hdOk_mk {α : Type} {f : α → Int → α} {c : α → Int} {g : α → Int → Bool} (hg : ∀ a k, 0 ≤ k → g (f a k) k = true) (hc : ∀ a k, c (f a k) = c a) (hn : ∀ a, 0 ≤ c a) (l : List α) (k : Int) (hk : 0 ≤ k) : hdOk g c (mkG f c l k) k = true := by
  have := cnG_nn hn l
  unfold hdOk
  rw [hdG_mkG hg hc hn l k hk]
  exact decide_eq_true (by omega)
theorem hdOk_val {α : Type} {g : α → Int → Bool} {c : α → Int} {l : List α} {k : Int} (h : hdOk g c l k = true) : hdG g c l k = k + cnG c l := by
  rcases hdG_val l k with e | e
  · exact e
  · unfold hdOk at h; rw [e] at h; exact absurd h (by decide)
theorem hdOk_not {α : Type} {g : α → Int → Bool} {c : α → Int} {l : List α} {k : Int} (hc : ∀ a, 0 ≤ c a) (hk : 0 ≤ k) (h : hdOk g c l k = false) : hdG g c l k = -1 := by
  rcases hdG_val (g := g) (c := c) l k with e | e
  · have := cnG_nn hc l
    unfold hdOk at h; rw [e] at h; exact absurd h (by simp; omega)
  · exact e
abbrev c1 {α : Type} (_ : α) : Int := 1
def okStr (s : Str) : Prop := s.size ≤ 2097152
def okL {α : Type} (ok : α → Prop) (l : List α) : Prop := l.length ≤ 2097152 ∧ ∀ a ∈ l, ok a
@[push_cast] theorem rd_String (l : List Str) : rdR (l.map strR) = l.map strR := by simp [rdR, strR, rdC]
@[push_cast] theorem flat_String (l : List Str) : flatR (l.map strR) = true := by simp [flatR, strR, isSc]
@[push_cast] theorem flat_Bool (l : List Bool) : flatR (l.map boolR) = true := by simp [flatR, boolR, isSc]
@[push_cast] theorem flat_num (l : List Int) : flatR (l.map numR) = true := by simp [flatR, numR, isSc]
@[push_cast] theorem own_String (l : List Str) : (l.map strR).all (fun row => row.all own2) = true := by simp [strR, own2]
@[push_cast] theorem own_Bool (l : List Bool) : (l.map boolR).all (fun row => row.all own2) = true := by simp [boolR, own2]
@[push_cast] theorem rd_Bool (l : List Bool) : rdR (l.map boolR) = l.map boolR := by simp [rdR, boolR, rdC]
attribute [push_cast] strR boolR
theorem szL_ok {α : Type} {f : α → Int → Int} {ok : α → Prop} (hf : ∀ a x, 0 ≤ f a x → f a x ≤ x ∧ (x ≤ 2097152 → ok a)) (l : List α) (x : Int) (h : 0 ≤ szL f l x) : szL f l x ≤ x ∧ (x ≤ 2097152 → okL ok l) := by
  unfold szL at h ⊢
  split at h
  · omega
  · rename_i hn
    rw [if_neg hn]
    have := szG_ok hf l _ h
    exact ⟨by omega, fun hx => ⟨by omega, this.2 (by omega)⟩⟩
theorem szStr_ok (s : Str) (x : Int) (h : 0 ≤ szStr s x) : szStr s x ≤ x ∧ (x ≤ 2097152 → okStr s) := by
  unfold szStr at h ⊢
  exact ⟨by omega, fun _ => by unfold okStr; omega⟩
/-! what the model itself bounds -/
theorem cnG_ok {α : Type} {c : α → Int} {ok : α → Prop} {B : Int} (hB : 0 ≤ B) (h : ∀ a, ok a → c a ≤ B) {l : List α} (hl : okL ok l) : cnG c l ≤ B * 2097152 := by
  have := cnG_le l fun a ha => h a (hl.2 a ha)
  have h2 : B * l.length ≤ B * 2097152 := Int.mul_le_mul_of_nonneg_left (by have := hl.1; omega) hB
  omega
theorem c1_le {α : Type} {ok : α → Prop} (a : α) (_ : ok a) : c1 a ≤ 1 := Int.le_refl _
def bdStr (s : Str) : Prop := s.size ≤ 9223372036854775807
def bdBool (_ : Bool) : Prop := True
def bdL {α : Type} (bd : α → Prop) (l : List α) : Prop := l.length ≤ 9223372036854775807 ∧ ∀ a ∈ l, bd a
abbrev mkStr (_ : Str) (k : Int) : Str := mtx k
abbrev hdStr (a : Str) (k : Int) : Bool := decide (a = mtx k)
theorem hdmk_Str (a : Str) (k : Int) (_ : 0 ≤ k) : hdStr (mkStr a k) k = true := by simp
theorem cn1 {α : Type} (l : List α) : cnG (c1 (α := α)) l = l.length := by
  induction l with
  | nil => rfl
  | cons a r ih => rw [cnG, ih]; simp [c1]; omega
theorem cn1_mk {α : Type} (f : α → Int → α) (l : List α) (k : Int) : cnG c1 (mkG f c1 l k) = cnG c1 l := by rw [cn1, cn1, mkG_len]
theorem c1_nn {α : Type} (a : α) : (0 : Int) ≤ c1 a := by show (0 : Int) ≤ 1; decide
end Go.Proofs.YtkkmgjhfjhcdmaaGreatDoor.Mx

/- The laws' data: as values; sizes, marks. (By fam.py of this session.) -/
namespace Go.Proofs.YtkkmgjhfjhcdmaaGreatDoor.Mx
set_option linter.all false
open Go Go.RowKit
structure Item where
  t : Str
  u : Int
  deriving DecidableEq
@[push_cast] def itemC (_ : Bool) (x : Item) : Row := [.sc (.string x.t), .sc (.int .i64 x.u)]
def okItem (x : Item) : Prop := okStr x.t
@[push_cast] theorem flat_Item (o : Bool) (l : List Item) : flatR (l.map (itemC o)) = true := by simp [flatR, itemC, isSc]
@[push_cast] theorem own_Item (l : List Item) : (l.map (itemC true)).all (fun row => row.all own2) = true := by simp [itemC, own2]
@[push_cast] theorem own_Itemf (l : List Item) : (l.map (itemC false)).all (fun row => row.all own2) = true := by simp [itemC, own2]
@[push_cast] theorem rd_Item (o : Bool) (l : List Item) : rdR (l.map (itemC o)) = l.map (itemC false) := by simp [rdR, itemC, rdC]
def bdItem (x : Item) : Prop := bdStr x.t
def szItem (a : Item) (x : Int) : Int := if x - a.t.size < 0 then -1 else (x - a.t.size)
theorem szItem_ok (a : Item) (x : Int) (h : 0 ≤ szItem a x) : szItem a x ≤ x ∧ (x ≤ 2097152 → okItem a) := by
  unfold szItem at h ⊢
  split at h
  · omega
  rename_i n0
  rw [if_neg n0]
  have q_t := szStr_ok a.t (x) (by unfold szStr; omega); unfold szStr at q_t
  exact ⟨by omega, fun hx => q_t.2 (by omega)⟩
def mkItem (a : Item) (k : Int) : Item := ⟨mtx (k), k + 1⟩
def cnItem (a : Item) : Int := 1 + 1
def hdItem (a : Item) (k : Int) : Bool := decide (a.t = mtx (k)) && decide (a.u = k + 1)
theorem cnItem_nn (a : Item) : 0 ≤ cnItem a := by
  unfold cnItem; omega
theorem cnItem_1 (a : Item) : 1 ≤ cnItem a := by
  unfold cnItem; omega
theorem cnmk_Item (a : Item) (k : Int) : cnItem (mkItem a k) = cnItem a := by simp [cnItem, mkItem]
theorem hdmk_Item (a : Item) (k : Int) (hk : 0 ≤ k) : hdItem (mkItem a k) k = true := by
  simp [hdItem, mkItem]
theorem cnItem_le (a : Item) (h : okItem a) : cnItem a ≤ 2 := by
  unfold okItem at h
  unfold cnItem; omega
structure Store where
  w : Int
  r : Int
  I : List Item
  P : List Str
  deriving DecidableEq
@[push_cast] def storeC (o : Bool) (x : Store) : Row := [.sc (.int .i64 x.w), .sc (.int .i64 x.r), .sl o 2 (x.I.map (itemC o)), .sl o 1 (x.P.map strR)]
def okStore (x : Store) : Prop := okL okItem x.I ∧ okL okStr x.P
@[push_cast] theorem own_Store (l : List Store) : (l.map (storeC true)).all (fun row => row.all own2) = true := by simp [storeC, own2, flat_Item, flat_String]
@[push_cast] theorem rd_Store (o : Bool) (l : List Store) : rdR (l.map (storeC o)) = l.map (storeC false) := by simp [rdR, storeC, rdC, itemC]
def bdStore (x : Store) : Prop := bdL bdItem x.I ∧ bdL bdStr x.P
def szStore (a : Store) (x : Int) : Int := if szL szItem a.I (x) < 0 then -1 else (if szL szStr a.P (szL szItem a.I (x)) < 0 then -1 else (szL szStr a.P (szL szItem a.I (x))))
theorem szStore_ok (a : Store) (x : Int) (h : 0 ≤ szStore a x) : szStore a x ≤ x ∧ (x ≤ 2097152 → okStore a) := by
  unfold szStore at h ⊢
  split at h
  · omega
  rename_i n0
  rw [if_neg n0]
  split at h
  · omega
  rename_i n1
  rw [if_neg n1]
  have q_I := szL_ok szItem_ok a.I (x) (by omega)
  have q_P := szL_ok szStr_ok a.P (szL szItem a.I (x)) (by omega)
  exact ⟨by omega, fun hx => ⟨q_I.2 (by omega), q_P.2 (by omega)⟩⟩
def smkStore (a : Store) (k : Int) : Store := ⟨a.w, a.r, mkG mkItem cnItem a.I (k), mkG mkStr c1 a.P (k + cnG cnItem a.I)⟩
def scnStore (a : Store) : Int := cnG cnItem a.I + cnG c1 a.P
def shdStore (a : Store) (k : Int) : Bool := hdOk hdItem cnItem a.I (k) && hdOk hdStr c1 a.P (k + cnG cnItem a.I)
theorem scnStore_nn (a : Store) : 0 ≤ scnStore a := by
  have := cnG_nn (c := cnItem) cnItem_nn a.I
  have := cnG_nn (c := c1) c1_nn a.P
  unfold scnStore; omega
theorem scnmk_Store (a : Store) (k : Int) : scnStore (smkStore a k) = scnStore a := by simp [scnStore, smkStore, cnG_mkG cnmk_Item, cn1_mk]
theorem shdmk_Store (a : Store) (k : Int) (hk : 0 ≤ k) : shdStore (smkStore a k) k = true := by
  have := cnG_nn (c := cnItem) cnItem_nn a.I
  have := cnG_nn (c := c1) c1_nn a.P
  simp only [shdStore, smkStore, Bool.and_eq_true, decide_eq_true_eq, true_and, and_true, beq_self_eq_true, cnG_mkG cnmk_Item, cn1_mk]
  exact ⟨(hdOk_mk hdmk_Item cnmk_Item cnItem_nn _ _ (by omega)), (hdOk_mk hdmk_Str (fun _ _ => rfl) c1_nn _ _ (by omega))⟩
theorem scnStore_le (a : Store) (h : okStore a) : scnStore a ≤ 6291456 := by
  unfold okStore at h
  have := cnG_ok (c := cnItem) (B := 2) (by decide) cnItem_le h.1
  have := cnG_ok (c := c1) (B := 1) (by decide) c1_le h.2
  unfold scnStore; omega
structure Peer where
  lies : Int
  wait : Int
  last : Int
  ask : Str
  N : List Str
  deriving DecidableEq
@[push_cast] def peerC (o : Bool) (x : Peer) : Row := [.sc (.int .i64 x.lies), .sc (.int .i64 x.wait), .sc (.int .i64 x.last), .sc (.string x.ask), .sl o 1 (x.N.map strR)]
def okPeer (x : Peer) : Prop := okStr x.ask ∧ okL okStr x.N
@[push_cast] theorem own_Peer (l : List Peer) : (l.map (peerC true)).all (fun row => row.all own2) = true := by simp [peerC, own2, flat_String]
@[push_cast] theorem rd_Peer (o : Bool) (l : List Peer) : rdR (l.map (peerC o)) = l.map (peerC false) := by simp [rdR, peerC, rdC]
def bdPeer (x : Peer) : Prop := bdStr x.ask ∧ bdL bdStr x.N
def szPeer (a : Peer) (x : Int) : Int := if x - a.ask.size < 0 then -1 else (if szL szStr a.N (x - a.ask.size) < 0 then -1 else (szL szStr a.N (x - a.ask.size)))
theorem szPeer_ok (a : Peer) (x : Int) (h : 0 ≤ szPeer a x) : szPeer a x ≤ x ∧ (x ≤ 2097152 → okPeer a) := by
  unfold szPeer at h ⊢
  split at h
  · omega
  rename_i n0
  rw [if_neg n0]
  split at h
  · omega
  rename_i n1
  rw [if_neg n1]
  have q_ask := szStr_ok a.ask (x) (by unfold szStr; omega); unfold szStr at q_ask
  have q_N := szL_ok szStr_ok a.N (x - a.ask.size) (by omega)
  exact ⟨by omega, fun hx => ⟨q_ask.2 (by omega), q_N.2 (by omega)⟩⟩
def mkPeer (a : Peer) (k : Int) : Peer := ⟨k, k + 1, k + 1 + 1, mtx (k + 1 + 1 + 1), mkG mkStr c1 a.N (k + 1 + 1 + 1 + 1)⟩
def cnPeer (a : Peer) : Int := 1 + 1 + 1 + 1 + cnG c1 a.N
def hdPeer (a : Peer) (k : Int) : Bool := decide (a.lies = k) && decide (a.wait = k + 1) && decide (a.last = k + 1 + 1) && decide (a.ask = mtx (k + 1 + 1 + 1)) && hdOk hdStr c1 a.N (k + 1 + 1 + 1 + 1)
theorem cnPeer_nn (a : Peer) : 0 ≤ cnPeer a := by
  have := cnG_nn (c := c1) c1_nn a.N
  unfold cnPeer; omega
theorem cnPeer_1 (a : Peer) : 1 ≤ cnPeer a := by
  have := cnG_nn (c := c1) c1_nn a.N
  unfold cnPeer; omega
theorem cnmk_Peer (a : Peer) (k : Int) : cnPeer (mkPeer a k) = cnPeer a := by simp [cnPeer, mkPeer, cn1_mk]
theorem hdmk_Peer (a : Peer) (k : Int) (hk : 0 ≤ k) : hdPeer (mkPeer a k) k = true := by
  have := cnG_nn (c := c1) c1_nn a.N
  simp only [hdPeer, mkPeer, Bool.and_eq_true, decide_eq_true_eq, true_and, and_true, beq_self_eq_true, cn1_mk]
  exact (hdOk_mk hdmk_Str (fun _ _ => rfl) c1_nn _ _ (by omega))
theorem cnPeer_le (a : Peer) (h : okPeer a) : cnPeer a ≤ 2097156 := by
  unfold okPeer at h
  have := cnG_ok (c := c1) (B := 1) (by decide) c1_le h.2
  unfold cnPeer; omega
structure Fetch where
  nm : Str
  now : Int
  full : Bool
  st : Store
  Q : List Peer
  deriving DecidableEq
@[push_cast] def fetchC (o : Bool) (x : Fetch) : Row := [.sc (.string x.nm), .sc (.int .i64 x.now), .sc (.bool x.full), .sc (.int .i64 x.st.w), .sc (.int .i64 x.st.r), .sl o 2 (x.st.I.map (itemC o)), .sl o 1 (x.st.P.map strR), .sl o 5 (x.Q.map (peerC o))]
def okFetch (x : Fetch) : Prop := okStr x.nm ∧ okStore x.st ∧ okL okPeer x.Q
def bdFetch (x : Fetch) : Prop := bdStr x.nm ∧ bdStore x.st ∧ bdL bdPeer x.Q
def szFetch (a : Fetch) (x : Int) : Int := if x - a.nm.size < 0 then -1 else (if szStore a.st (x - a.nm.size) < 0 then -1 else (if szL szPeer a.Q (szStore a.st (x - a.nm.size)) < 0 then -1 else (szL szPeer a.Q (szStore a.st (x - a.nm.size)))))
theorem szFetch_ok (a : Fetch) (x : Int) (h : 0 ≤ szFetch a x) : szFetch a x ≤ x ∧ (x ≤ 2097152 → okFetch a) := by
  unfold szFetch at h ⊢
  split at h
  · omega
  rename_i n0
  rw [if_neg n0]
  split at h
  · omega
  rename_i n1
  rw [if_neg n1]
  split at h
  · omega
  rename_i n2
  rw [if_neg n2]
  have q_nm := szStr_ok a.nm (x) (by unfold szStr; omega); unfold szStr at q_nm
  have q_st := szStore_ok a.st (x - a.nm.size) (by omega)
  have q_Q := szL_ok szPeer_ok a.Q (szStore a.st (x - a.nm.size)) (by omega)
  exact ⟨by omega, fun hx => ⟨q_nm.2 (by omega), q_st.2 (by omega), q_Q.2 (by omega)⟩⟩
def smkFetch (a : Fetch) (k : Int) : Fetch := ⟨a.nm, a.now, a.full, smkStore a.st (k), mkG mkPeer cnPeer a.Q (k + scnStore a.st)⟩
def scnFetch (a : Fetch) : Int := scnStore a.st + cnG cnPeer a.Q
def shdFetch (a : Fetch) (k : Int) : Bool := shdStore a.st (k) && hdOk hdPeer cnPeer a.Q (k + scnStore a.st)
theorem scnFetch_nn (a : Fetch) : 0 ≤ scnFetch a := by
  have := scnStore_nn a.st
  have := cnG_nn (c := cnPeer) cnPeer_nn a.Q
  unfold scnFetch; omega
theorem scnmk_Fetch (a : Fetch) (k : Int) : scnFetch (smkFetch a k) = scnFetch a := by simp [scnFetch, smkFetch, scnmk_Store, cnG_mkG cnmk_Peer]
theorem shdmk_Fetch (a : Fetch) (k : Int) (hk : 0 ≤ k) : shdFetch (smkFetch a k) k = true := by
  have := scnStore_nn a.st
  have := cnG_nn (c := cnPeer) cnPeer_nn a.Q
  simp only [shdFetch, smkFetch, Bool.and_eq_true, decide_eq_true_eq, true_and, and_true, beq_self_eq_true, scnmk_Store, cnG_mkG cnmk_Peer]
  exact ⟨(shdmk_Store _ _ (by omega)), (hdOk_mk hdmk_Peer cnmk_Peer cnPeer_nn _ _ (by omega))⟩
theorem scnFetch_le (a : Fetch) (h : okFetch a) : scnFetch a ≤ 4398061191168 := by
  unfold okFetch at h
  have := scnStore_le a.st h.2.1
  have := cnG_ok (c := cnPeer) (B := 2097156) (by decide) cnPeer_le h.2.2
  unfold scnFetch; omega
structure Message where
  fr : Int
  «to» : Int
  sum : Str
  has : Bool
  tx : Str
  deriving DecidableEq
@[push_cast] def messageC (_ : Bool) (x : Message) : Row := [.sc (.int .i64 x.fr), .sc (.int .i64 x.to), .sc (.string x.sum), .sc (.bool x.has), .sc (.string x.tx)]
def okMessage (x : Message) : Prop := okStr x.sum ∧ okStr x.tx
@[push_cast] theorem flat_Message (o : Bool) (l : List Message) : flatR (l.map (messageC o)) = true := by simp [flatR, messageC, isSc]
@[push_cast] theorem own_Message (l : List Message) : (l.map (messageC true)).all (fun row => row.all own2) = true := by simp [messageC, own2]
@[push_cast] theorem own_Messagef (l : List Message) : (l.map (messageC false)).all (fun row => row.all own2) = true := by simp [messageC, own2]
@[push_cast] theorem rd_Message (o : Bool) (l : List Message) : rdR (l.map (messageC o)) = l.map (messageC false) := by simp [rdR, messageC, rdC]
def mkMessage (a : Message) (k : Int) : Message := ⟨k, k + 1, mtx (k + 1 + 1), decide ((k + 1 + 1 + 1) % 3 = 0), mtx (k + 1 + 1 + 1 + 1)⟩
def cnMessage (a : Message) : Int := 1 + 1 + 1 + 1 + 1
def hdMessage (a : Message) (k : Int) : Bool := decide (a.fr = k) && decide (a.to = k + 1) && decide (a.sum = mtx (k + 1 + 1)) && (a.has == decide ((k + 1 + 1 + 1) % 3 = 0)) && decide (a.tx = mtx (k + 1 + 1 + 1 + 1))
theorem cnMessage_nn (a : Message) : 0 ≤ cnMessage a := by
  unfold cnMessage; omega
theorem cnMessage_1 (a : Message) : 1 ≤ cnMessage a := by
  unfold cnMessage; omega
theorem cnmk_Message (a : Message) (k : Int) : cnMessage (mkMessage a k) = cnMessage a := by simp [cnMessage, mkMessage]
theorem hdmk_Message (a : Message) (k : Int) (hk : 0 ≤ k) : hdMessage (mkMessage a k) k = true := by
  simp [hdMessage, mkMessage]
theorem cnMessage_le (a : Message) (h : okMessage a) : cnMessage a ≤ 5 := by
  unfold okMessage at h
  unfold cnMessage; omega
end Go.Proofs.YtkkmgjhfjhcdmaaGreatDoor.Mx

/- Out of the library's contracts: what only reads. -/
namespace Go.Proofs.YtkkmgjhfjhcdmaaGreatDoor.Mx
set_option linter.all false
open Go Go.RowKit Go.Proofs
theorem does_pure {P : Program} {f : FuncId} {fn : Func} {c : Code} {avs : List AV} {v : Value} (hf : P.funcs[f]? = some fn) (hb : fn.body = some c) (hn : (fn.name == "runtime.NumGoroutine") = false) (hv : plain v = true)
    (H : ∀ (w : Go.World) (ok : Nat → Prop) (G : Fp) (args : List Value), ArgsRep w ok G args avs → Calls P f args.toArray w fun e w' => e = .returned v ∧ Below w.heap.size w w') : Does P f avs (.sc v, []) := by
  constructor
  intro w ok G args hA
  left
  have h1 : fn.name ≠ "runtime.NumGoroutine" := by simpa using hn
  refine ⟨by simp [callFunc, hf, h1, hb], (H w ok G args hA).mono fun e w' h => ?_⟩
  obtain ⟨rfl, hB⟩ := h
  refine ⟨fun _ _ => False, ⟨⟨hB.os, hB.tape, hB.output, hB.size, fun k hk _ => hB.block k hk⟩, Kp.old hB.block, fun _ _ _ h => h.elim, fun _ _ h => h.elim, ?_, fun i t h => by simp at h⟩⟩
  exact Own.rd _ _ _ (by intro z r h; cases h) (by intro cs h; cases h) (.sc v hv)
theorem rep_str {w : Go.World} {ok : Nat → Prop} {v : Value} {x : Str} (h : Rep w ok v (.sc (.string x))) : v = .string x := by cases h; rfl
theorem rep_int {w : Go.World} {ok : Nat → Prop} {v : Value} {k : IntKind} {x : Int} (h : Rep w ok v (.sc (.int k x))) : v = .int k x := by cases h; rfl
theorem rep_strs {w : Go.World} {ok : Nat → Prop} {v : Value} {o : Bool} {l : List Str} (h : Rep w ok v (.sl o 1 (l.map strR))) :
    (l = [] ∧ ∃ A c, v = .slice A 0 c) ∨ ∃ b off cap, v = .slice (some ⟨b, off, none⟩) l.length cap ∧ l.length ≤ cap ∧ ok b ∧ ∀ i x, l[i]? = some x → w.cell? ⟨b, off + i, none⟩ = some (.string x) := by
  generalize hr : l.map strR = rows at h
  cases h with
  | nil => left; exact ⟨by simpa using hr, _, _, rfl⟩
  | emp => left; exact ⟨by simpa using hr, _, _, rfl⟩
  | sl _ _ b off cap _ vs h1 h2 h3 h4 h5 =>
    right
    subst hr
    refine ⟨b, off, cap, by rw [List.length_map], by simpa using h2, h1, fun i x hx => ?_⟩
    have hi : (l.map strR)[i]? = some [.sc (.string x)] := by rw [List.getElem?_map, hx]; rfl
    have a := (h4 i _ 0 _ hi rfl).1
    have b := rep_str (h5 i _ 0 _ hi rfl)
    rw [b] at a
    simpa using a
theorem own_rep {w : Go.World} {ok F : Nat → Prop} {v : Value} {x : AV} (h : Own w ok F v x) (h1 : ∀ z r, x ≠ .sl true z r) (h2 : ∀ cs, x ≠ .pb true cs) : Rep w ok v x := by
  cases h with
  | rd _ _ _ _ _ h => exact h
  | nil => exact (h1 _ _ rfl).elim
  | emp => exact (h1 _ _ rfl).elim
  | sl => exact (h1 _ _ rfl).elim
  | pb => exact (h2 _ rfl).elim
theorem args2 {w : Go.World} {ok : Nat → Prop} {G : Fp} {args : List Value} {x y : AV} (h : ArgsRep w ok G args [x, y]) : ∃ u v, args = [u, v] ∧ OwnA w ok (G 0) u x ∧ OwnA w ok (G 1) v y := by
  match args, h.len with
  | [u, v], _ => exact ⟨u, v, rfl, h.own 0 u x rfl rfl, h.own 1 v y rfl rfl⟩
end Go.Proofs.YtkkmgjhfjhcdmaaGreatDoor.Mx

/- Arguments: whatever reads as data at a type is what the machine takes it for. -/
namespace Go.Proofs.YtkkmgjhfjhcdmaaGreatDoor.Mx
set_option linter.all false
open Go Go.RowKit
open Go.ChangeShapes Go.WideShapes Go.Deep
set_option linter.unusedVariables false
def CellsR (W : Go.World) (cs : List Value) (row : Row) : Prop :=
  cs.length = row.length ∧ ∀ (j : Nat) (v : Value) (a : AV), cs[j]? = some v → row[j]? = some a → Rep W (fun b => b < W.heap.size) v a ∧ v.oneCell' = true ∧ (∀ z r, a ≠ .sl true z r) ∧ ∀ c, a ≠ .pb true c
def OpnA (P : Program) {α : Type} (f : α → Row) (t : TypeId) (Q : α → Prop) : Prop :=
  ∀ (H : Type) (enc : TypeId × Value → H) (W : Go.World) (base : Nat) (spare : Nat → Bool) (held : Bool) (fuel : Nat) (cs : List Value) (x : DataW H × List MemPlace),
    DataW.trod enc P W base spare held fuel t cs = some x → ∃ y, CellsR W cs (f y) ∧ Q y
theorem cellsR_one {W : Go.World} {v : Value} {a : AV} (h : Rep W (fun b => b < W.heap.size) v a) (h1 : v.oneCell' = true) (h2 : ∀ z r, a ≠ .sl true z r) (h3 : ∀ c, a ≠ .pb true c) : CellsR W [v] [a] :=
  ⟨rfl, fun j u b hu hb => by
    cases j with
    | zero => simp at hu hb; subst hu; subst hb; exact ⟨h, h1, h2, h3⟩
    | succ j => simp at hu⟩
theorem cellsR_app {W : Go.World} {a b : List Value} {r q : Row} (h : CellsR W a r) (k : CellsR W b q) : CellsR W (a ++ b) (r ++ q) := by
  refine ⟨by rw [List.length_append, List.length_append, h.1, k.1], fun j v x hv hx => ?_⟩
  by_cases hj : j < a.length
  · rw [List.getElem?_append_left hj] at hv
    rw [List.getElem?_append_left (by rw [← h.1]; exact hj)] at hx
    exact h.2 j v x hv hx
  · rw [List.getElem?_append_right (by omega)] at hv
    rw [List.getElem?_append_right (by rw [← h.1]; omega), ← h.1] at hx
    exact k.2 _ v x hv hx
theorem opn_int {P : Program} {t : TypeId} {k : IntKind} (hu : P.underlying t = some (.int k)) : OpnA P (fun n : Int => [.sc (.int k n)]) t (fun _ => True) := by
  intro H enc W base spare held fuel cs x h
  obtain ⟨n, rfl, _, h2⟩ := DataW.trod_int hu h
  exact ⟨n, cellsR_one (.sc _ rfl) rfl (by intro z r h; cases h) (by intro c h; cases h), trivial⟩
theorem opn_bool {P : Program} {t : TypeId} (hu : P.underlying t = some .bool) : OpnA P boolR t bdBool := by
  intro H enc W base spare held fuel cs x h
  obtain ⟨b, rfl, _⟩ := DataW.trod_bool hu h
  exact ⟨b, cellsR_one (.sc _ rfl) rfl (by intro z r h; cases h) (by intro c h; cases h), trivial⟩
theorem opn_string {P : Program} {t : TypeId} (hu : P.underlying t = some .string) : OpnA P strR t bdStr := by
  intro H enc W base spare held fuel cs x h
  obtain ⟨s, rfl, _, h2⟩ := DataW.trod_string hu h
  exact ⟨s, cellsR_one (.sc _ rfl) rfl (by intro z r h; cases h) (by intro c h; cases h), h2⟩
theorem list_of {α : Type} {p : Nat → α → Prop} : ∀ (n : Nat), (∀ i, i < n → ∃ y, p i y) → ∃ l : List α, l.length = n ∧ ∀ i y, l[i]? = some y → p i y
  | 0, _ => ⟨[], rfl, fun i y h => by simp at h⟩
  | n + 1, h => by
    obtain ⟨l, h1, h2⟩ := list_of n (fun i hi => h i (by omega))
    obtain ⟨y, hy⟩ := h n (by omega)
    refine ⟨l ++ [y], by simp [h1], fun i z hz => ?_⟩
    by_cases e : i < n
    · rw [List.getElem?_append_left (by omega)] at hz; exact h2 i z hz
    · rw [List.getElem?_append_right (by omega)] at hz
      have : i = n := by
        have := (List.getElem?_eq_some_iff.1 hz).1
        simp at this; omega
      subst this
      rw [h1] at hz; simp at hz; subst hz; exact hy
theorem opn_slice {P : Program} {α : Type} {f : α → Row} {z : Nat} {t e : TypeId} {Q : α → Prop} (hu : P.underlying t = some (.slice e)) (hc : P.cellsOf e = z) (hz : 1 ≤ z) (hf : ∀ y, (f y).length = z) (h : OpnA P f e Q) :
    OpnA P (fun l : List α => [.sl false z (l.map f)]) t (bdL Q) := by
  intro H enc W base spare held fuel cs x hx
  rcases open_slice hu hx with ⟨rfl, rfl⟩ | ⟨a, len, cap, m, n, D, Pl, rfl, hb, hl, hm, hmm, rfl, hel⟩
  · exact ⟨[], cellsR_one (.nil _ _) rfl (by intro z r h; cases h) (by intro c h; cases h), by simp [bdL]⟩
  · have hlm : len ≤ m := by rw [hmm]; split <;> omega
    subst hc
    have each : ∀ i, i < len → ∃ y : α, (∃ c : List Value, W.cells? base (a.add (i * P.cellsOf e)) (P.cellsOf e) = some c ∧ CellsR W c (f y)) ∧ Q y := by
      intro i hi
      obtain ⟨c, h1, h2⟩ := hel i (by omega)
      obtain ⟨y, h3, h4⟩ := h H enc W base spare held n c _ h2
      exact ⟨y, ⟨c, h1, h3⟩, h4⟩
    obtain ⟨l, ll, hl2⟩ := list_of len each
    have hmx : maxLen = 9223372036854775807 := rfl
    have hQ : bdL Q l := ⟨by omega, fun y hy => by
      obtain ⟨i, hi⟩ := List.getElem?_of_mem hy
      exact (hl2 i y hi).2⟩
    refine ⟨l, ?_, hQ⟩
    rcases Nat.eq_zero_or_pos len with h0 | h0
    · subst h0
      obtain rfl := List.eq_nil_of_length_eq_zero ll
      exact cellsR_one (.emp _ _ a cap) rfl (by intro z r h; cases h) (by intro c h; cases h)
    · -- the first cell tells that the address is plain
      have cell : ∀ i y j v, l[i]? = some y → (∃ c : List Value, W.cells? base (a.add (i * P.cellsOf e)) (P.cellsOf e) = some c ∧ c[j]? = some v) → W.cell? (a.add (i * P.cellsOf e + j)) = some v := by
        intro i y j v hi ⟨c, h1, h2⟩
        obtain ⟨_, h3, h4⟩ := World.cells?_some h1
        have := (List.getElem?_eq_some_iff.1 h2).1
        rw [← Deep.add_add, h4 j (by omega)]; exact h2
      obtain ⟨y0, hy0⟩ := (⟨_, List.getElem?_eq_getElem (by omega : 0 < l.length)⟩ : ∃ y, l[0]? = some y)
      obtain ⟨⟨c0, k1, k2⟩, _⟩ := hl2 0 y0 hy0
      have hc0 : 0 < c0.length := by rw [k2.1, hf]; exact hz
      have w0 := cell 0 y0 0 _ hy0 ⟨c0, k1, List.getElem?_eq_getElem hc0⟩
      obtain ⟨b, off, sp⟩ := a
      have hsp : sp = none := by
        cases sp with
        | none => rfl
        | some q =>
          simp [Addr.add, World.cell?] at w0
          split at w0 <;> simp at w0
      subst hsp
      have hadd : ∀ k, (⟨b, off, none⟩ : Addr).add k = ⟨b, off + k, none⟩ := fun k => by unfold Addr.add; split <;> simp_all
      have hblk : b < W.heap.size := by
        rw [hadd] at w0
        simp only [World.cell?] at w0
        cases hb2 : W.heap[b]? with
        | none => rw [hb2] at w0; simp at w0
        | some o => exact (Array.getElem?_eq_some_iff.1 hb2).1
      have hlen : (l.map f).length = len := by rw [List.length_map, ll]
      have row : ∀ (i : Nat) (r : Row), (l.map f)[i]? = some r → ∃ y, l[i]? = some y ∧ r = f y := fun i r hr => by
        rw [List.getElem?_map] at hr
        cases hy : l[i]? with
        | none => rw [hy] at hr; cases hr
        | some y => rw [hy] at hr; cases hr; exact ⟨y, rfl, rfl⟩
      have val : ∀ (i : Nat) (r : Row) (j : Nat) (x : AV), (l.map f)[i]? = some r → r[j]? = some x → ∃ v, W.cell? ⟨b, off + (i * P.cellsOf e + j), none⟩ = some v ∧ v.oneCell' = true ∧ Rep W (fun b => b < W.heap.size) v x := fun i r j x hi hj => by
        obtain ⟨y, hy, rfl⟩ := row i r hi
        obtain ⟨⟨c, m1, m2⟩, _⟩ := hl2 i y hy
        have hjc : j < c.length := by rw [m2.1]; exact (List.getElem?_eq_some_iff.1 hj).1
        have w1 := cell i y j _ hy ⟨c, m1, List.getElem?_eq_getElem hjc⟩
        rw [hadd] at w1
        obtain ⟨q1, q2, _⟩ := m2.2 j _ x (List.getElem?_eq_getElem hjc) hj
        exact ⟨_, w1, q2, q1⟩
      have fin := Rep.sl (w := W) (ok := fun b => b < W.heap.size) false (P.cellsOf e) b off cap (l.map f) (fun i j => (W.cell? ⟨b, off + (i * P.cellsOf e + j), none⟩).getD undef) hblk (by omega)
        (fun i r hr => by obtain ⟨y, _, rfl⟩ := row i r hr; exact hf y)
        (fun i r j x hi hj => by obtain ⟨v, v1, v2, _⟩ := val i r j x hi hj; rw [v1]; exact ⟨rfl, v2⟩)
        (fun i r j x hi hj => by obtain ⟨v, v1, _, v3⟩ := val i r j x hi hj; rw [v1]; exact v3)
      rw [hlen] at fin
      exact cellsR_one fin rfl (by intro z r h; cases h) (by intro c h; cases h)
/-- Field by field: the cells are cut into those of types ts, each reads as data. -/
def Reads {H : Type} (enc : TypeId × Value → H) (P : Program) (W : Go.World) (base : Nat) (spare : Nat → Bool) (held : Bool) : List TypeId → List Value → Prop
  | [], cs => cs = []
  | t :: ts, cs => ∃ c0 c1, cs = c0 ++ c1 ∧ (∃ n x, DataW.trod enc P W base spare held n t c0 = some x) ∧ Reads enc P W base spare held ts c1
def OpnF (P : Program) {α : Type} (f : α → Row) (ts : List TypeId) (Q : α → Prop) : Prop :=
  ∀ (H : Type) (enc : TypeId × Value → H) (W : Go.World) (base : Nat) (spare : Nat → Bool) (held : Bool) (cs : List Value), Reads enc P W base spare held ts cs → ∃ y, CellsR W cs (f y) ∧ Q y
theorem opnF_one {P : Program} {α : Type} {f : α → Row} {t : TypeId} {Q : α → Prop} (h : OpnA P f t Q) : OpnF P f [t] Q := by
  intro H enc W base spare held cs hr
  obtain ⟨c0, c1, rfl, ⟨n, x, hx⟩, h1⟩ := hr
  obtain rfl : c1 = [] := h1
  rw [List.append_nil]
  exact h H enc W base spare held n c0 x hx
theorem opnF_cons {P : Program} {α β : Type} {f : α → Row} {g : β → Row} {t : TypeId} {ts : List TypeId} {Q : α → Prop} {R : β → Prop} (h : OpnA P f t Q) (k : OpnF P g ts R) : OpnF P (fun y : α × β => f y.1 ++ g y.2) (t :: ts) (fun y => Q y.1 ∧ R y.2) := by
  intro H enc W base spare held cs hr
  obtain ⟨c0, c1, rfl, ⟨n, x, hx⟩, h1⟩ := hr
  obtain ⟨y, h2, h3⟩ := h H enc W base spare held n c0 x hx
  obtain ⟨z, h4, h5⟩ := k H enc W base spare held c1 h1
  exact ⟨(y, z), cellsR_app h2 h4, h3, h5⟩
/-- The fields lie one behind the other. -/
def laidFields (P : Program) : Nat → List Field → Nat → Bool
  | o, [], n => decide (o = n)
  | o, f :: fs, n => decide (f.offset = o) && laidFields P (o + P.cellsOf f.type) fs n
theorem laid_le (P : Program) : ∀ (fs : List Field) (o n : Nat), laidFields P o fs n = true → o ≤ n
  | [], o, n, h => by simp [laidFields] at h; omega
  | f :: fs, o, n, h => by
    simp [laidFields] at h
    have := laid_le P fs _ n h.2; omega
theorem reads_fields {H : Type} {enc : TypeId × Value → H} {P : Program} {W : Go.World} {base : Nat} {spare : Nat → Bool} {held : Bool} (n : Nat) (cs : List Value) (xs : List (DataW H × List MemPlace)) :
    ∀ (fs : List Field) (o j : Nat), laidFields P o fs cs.length = true → j + fs.length = xs.length → (∀ (i : Nat) (f : Field), fs[i]? = some f → DataW.trod enc P W base spare held n f.type ((cs.drop f.offset).take (P.cellsOf f.type)) = xs[j + i]?) →
      Reads enc P W base spare held (fs.map (·.type)) (cs.drop o)
  | [], o, j, h, _, _ => by
    simp [laidFields] at h
    exact List.drop_eq_nil_of_le (by omega)
  | f :: fs, o, j, h, hl, hx => by
    simp [laidFields] at h
    have le := laid_le P fs _ _ h.2
    refine ⟨(cs.drop o).take (P.cellsOf f.type), cs.drop (o + P.cellsOf f.type), by rw [← List.drop_drop, List.take_append_drop], ?_, reads_fields n cs xs fs _ (j + 1) h.2 (by simp at hl; omega) (fun i g hg => ?_)⟩
    · have := hx 0 f rfl
      rw [h.1] at this
      have hj : j < xs.length := by simp at hl; omega
      rw [Nat.add_zero, List.getElem?_eq_getElem hj] at this
      exact ⟨n, _, this⟩
    · rw [show j + 1 + i = j + (i + 1) by omega]
      exact hx (i + 1) g (by simpa using hg)
theorem opn_struct {P : Program} {α β : Type} {f : α → Row} {g : β → Row} {t : TypeId} {fs : Array Field} {ts : List TypeId} {Q : α → Prop} {R : β → Prop} (hu : P.underlying t = some (.struct fs)) (hl : laidFields P 0 fs.toList (P.cellsOf t) = true) (ht : fs.toList.map (·.type) = ts)
    (h : OpnF P f ts Q) («to» : α → β) (he : ∀ x, f x = g («to» x)) (hq : ∀ x, Q x → R («to» x)) : OpnA P g t R := by
  intro H enc W base spare held fuel cs x hx
  obtain ⟨xs, n, _, _, h1, h2, h3⟩ := DataW.trod_struct hu hx
  subst ht
  have := reads_fields (enc := enc) (W := W) (base := base) (spare := spare) (held := held) n cs xs fs.toList 0 0 (by rw [h1]; exact hl) (by rw [Array.length_toList]; omega) (fun i f hf => by rw [Nat.zero_add]; exact h3 i f (by simpa using hf))
  obtain ⟨y, h4, h5⟩ := h H enc W base spare held cs (by simpa using this)
  exact ⟨«to» y, by rw [← he]; exact h4, hq y h5⟩
section
variable {H : Type} {enc : TypeId × Value → H} {P : Program} {W : Go.World} {base b0 : Nat} {spare : Nat → Bool} {held : Bool} {t : TypeId} {v : Value} {D : DataW H} {ps : List MemPlace} {r : Reach}
theorem arg_struct {β : Type} {g : β → Row} {fs : Array Field} {Q : β → Prop} (hu : P.underlying t = some (.struct fs)) (hv : Value.okWide P W r b0 t v) (ht : DataW.Trod enc P W base spare held t v D ps) (h : OpnA P g t Q) :
    ∃ y, OwnA W (fun b => b < W.heap.size) (fun _ => False) v (.ag (g y)) ∧ Q y := by
  obtain ⟨cs, rfl, _⟩ := okWide_struct hu hv
  obtain ⟨fuel, hf⟩ := ht
  obtain ⟨y, h1, h2⟩ := h H enc W base spare held fuel _ _ hf
  refine ⟨y, ⟨cs.toList, fun _ _ => False, by simp, h1.1, fun _ _ h => h.elim, fun _ _ _ h => h.elim, fun j v x hv hx => ?_⟩, h2⟩
  obtain ⟨a1, a2, a3, a4⟩ := h1.2 j v x hv hx
  exact ⟨.rd _ _ _ a3 a4 a1, a2⟩
end
/-- a promise, as a call -/
theorem does_calls {P : Program} {f : FuncId} {fn : Func} {c : Code} {avs : List AV} {u : Value} (h : Does P f avs (.sc u, [])) (hf : P.funcs[f]? = some fn) (hb : fn.body = some c) (hn : (fn.name == "runtime.NumGoroutine") = false) {W : Go.World} {args : List Value}
    (hg : NG ≤ W.heap.size) (hw : GP W) (hl : args.length = avs.length) (ha : ∀ (i : Nat) (v : Value) (x : AV), args[i]? = some v → avs[i]? = some x → OwnA W (fun b => b < W.heap.size) (fun _ => False) v x) :
    Calls P f args.toArray W fun e W' => e = .returned u ∧ Below W.heap.size W W' := by
  have h1 : fn.name ≠ "runtime.NumGoroutine" := by simpa using hn
  rcases h.m W (fun b => b < W.heap.size) (fun _ _ => False) args ⟨hl, ha, fun _ _ _ h => h.elim, fun _ _ h => h.elim, fun _ h => h, fun b hb => Nat.lt_of_lt_of_le hb hg, hw⟩ with ⟨_, hc⟩ | ⟨v, w', H, hr, _⟩
  · refine hc.mono fun e W' he => ?_
    cases e with
    | returned v =>
      obtain ⟨H, hp⟩ := he
      have hv := hp.res
      have : v = u := by
        have := own_rep (show Own _ _ _ v (.sc u) from hv) (by intro z r h; cases h) (by intro c h; cases h)
        cases this; rfl
      exact ⟨by rw [this], ⟨hp.fr.os, hp.fr.tape, hp.fr.output, hp.fr.size, fun k hk => hp.fr.block k hk (by rintro ⟨_, h⟩; exact h)⟩⟩
    | _ => exact he.elim
  · simp [callFunc, hf, h1, hb] at hr
end Go.Proofs.YtkkmgjhfjhcdmaaGreatDoor.Mx

/- The laws' data: as values; sizes, marks. (By fam.py of this session.) -/
namespace Go.Proofs.YtkkmgjhfjhcdmaaGreatDoor.Mx
set_option linter.all false
open Go Go.RowKit
structure Lst where
  sz : Int
  S : List Str
  deriving DecidableEq
@[push_cast] def lstC (o : Bool) (x : Lst) : Row := [.sc (.int .i64 x.sz), .sl o 1 (x.S.map strR)]
@[push_cast] theorem own_Lst (l : List Lst) : (l.map (lstC true)).all (fun row => row.all own2) = true := by simp [lstC, own2, flat_String]
@[push_cast] theorem rd_Lst (o : Bool) (l : List Lst) : rdR (l.map (lstC o)) = l.map (lstC false) := by simp [rdR, lstC, rdC]
end Go.Proofs.YtkkmgjhfjhcdmaaGreatDoor.Mx

/- Stores: what they mean. -/
namespace Go.Proofs.YtkkmgjhfjhcdmaaGreatDoor.Mx
set_option linter.all false
open Go Go.RowKit
def aft (p : Option Str) (s : Str) : Bool := match p with | none => true | some q => lts q s
def ascF (w : Int) : Option Str → List Str → Bool
  | _, [] => true
  | p, s :: r => decide ((s.size : Int) = w) && aft p s && ascF w (some s) r
def itF (w : Int) : Option Str → List Item → Bool
  | _, [] => true
  | p, x :: r => inB x.t.size 1 7000 && inB x.u 0 1000000 && aft p (sumS x.t w) && itF w (some (sumS x.t w)) r
def bytes : List Item → Int
  | [] => 0
  | x :: r => x.t.size + bytes r
def validSt (s : Store) : Bool := inB s.w 1 8 && inB s.r 0 60000 && decide (s.I.length ≤ 1000) && decide (s.P.length ≤ 10) && ascF s.w none s.P && itF s.w none s.I && decide (bytes s.I ≤ s.r)
theorem bytes_app (a b : List Item) : bytes (a ++ b) = bytes a + bytes b := by
  induction a with
  | nil => simp [bytes]
  | cons x r ih => rw [List.cons_append, bytes, bytes, ih]; omega
theorem bytes_nn (l : List Item) : 0 ≤ bytes l := by
  induction l with
  | nil => simp [bytes]
  | cons x r ih => rw [bytes]; omega
theorem bytes_le {l : List Item} (h : okL okItem l) : bytes l ≤ l.length * 2097152 := by
  replace h := h.2
  induction l with
  | nil => simp [bytes]
  | cons x r ih =>
    have h1 := h x (List.mem_cons_self ..)
    have := ih fun a ha => h a (List.mem_cons_of_mem _ ha)
    unfold okItem okStr at h1
    rw [bytes, List.length_cons]
    omega
def emS : Store := ⟨0, 0, [], []⟩
def inL (l : List Str) (s : Str) : Bool := l.any fun y => decide (y = s)
theorem inL_iff (l : List Str) (s : Str) : inL l s = true ↔ s ∈ l := by simp [inL]
/-- where a text belongs in an ascending list -/
def rk : List Str → Str → Nat
  | [], _ => 0
  | y :: r, s => bif lts y s then rk r s + 1 else 0
def hasS (l : List Str) (s : Str) : Bool := decide (l[rk l s]? = some s)
def addS (l : List Str) (s : Str) : List Str := bif hasS l s then l else l.take (rk l s) ++ s :: l.drop (rk l s)
def pinS (s : Store) (n : Str) : Store × Int :=
  if (validSt s && decide ((n.size : Int) = s.w)) = false then (emS, 1)
  else if hasS s.P n = true then (s, 0)
  else if s.P.length = 10 then (emS, 2)
  else ({ s with P := addS s.P n }, 0)
theorem rk_le : ∀ (l : List Str) (s : Str), rk l s ≤ l.length
  | [], _ => Nat.le_refl _
  | y :: r, s => by
    have := rk_le r s
    rw [rk, List.length_cons]
    cases lts y s <;> simp only [cond_true, cond_false] <;> omega
theorem rk_step {s x : Str} : ∀ {l : List Str} {i : Nat}, i ≤ rk l s → l[i]? = some x → lts x s = true → i + 1 ≤ rk l s
  | [], i, _, hx, _ => by simp at hx
  | a :: r, 0, hi, hx, h => by
    simp only [List.getElem?_cons_zero, Option.some.injEq] at hx
    subst hx
    rw [rk, h, cond_true]; omega
  | a :: r, i + 1, hi, hx, h => by
    rw [rk] at hi ⊢
    cases ha : lts a s with
    | true =>
      rw [ha, cond_true] at hi
      have := rk_step (l := r) (i := i) (by omega) (by simpa using hx) h
      rw [cond_true]; omega
    | false => rw [ha, cond_false] at hi; omega
theorem rk_stop {l : List Str} {s x : Str} (hx : l[rk l s]? = some x) : lts x s = false := by
  cases h : lts x s with
  | false => rfl
  | true => have := rk_step (Nat.le_refl _) hx h; omega
theorem rk_all {s : Str} : ∀ {l : List Str} {i : Nat}, i < rk l s → ∃ x, l[i]? = some x ∧ lts x s = true
  | [], i, h => by simp [rk] at h
  | a :: r, i, h => by
    rw [rk] at h
    cases ha : lts a s with
    | true =>
      rw [ha, cond_true] at h
      cases i with
      | zero => exact ⟨a, rfl, ha⟩
      | succ i => exact rk_all (l := r) (i := i) (by omega)
    | false => rw [ha, cond_false] at h; omega
end Go.Proofs.YtkkmgjhfjhcdmaaGreatDoor.Mx

/- Lists of sums, their form. -/
namespace Go.Proofs.YtkkmgjhfjhcdmaaGreatDoor.Mx
set_option linter.all false
open Go Go.RowKit
def stB (l : List UInt8) : Str := ⟨l.toArray⟩
def sizB : List UInt8 := [115, 105, 122, 101, 32]
def lineB (x : Str) : List UInt8 := Lib.Hx.encode (bt x) ++ [10]
def formB (l : Lst) : List UInt8 := sizB ++ Lib.decDigits l.sz.toNat ++ [10] ++ l.S.flatMap lineB
def okLs (l : Lst) (w : Int) : Bool := inB w 1 8 && inB l.sz 0 3000 && decide (l.S.length ≤ 375) && l.S.all fun s => decide ((s.size : Int) = w)
def formL (l : Lst) (w : Int) : Str := if okLs l w = true then stB (formB l) else em
theorem bt_stB (l : List UInt8) : bt (stB l) = l := by simp [bt, stB]
theorem stB_bt (s : Str) : stB (bt s) = s := by simp [bt, stB]
theorem stB_size (l : List UInt8) : (stB l).size = l.length := by simp [stB, ByteArray.size]
theorem stB_app (a b : List UInt8) : stB a ++ stB b = stB (a ++ b) := by
  unfold stB
  apply ByteArray.ext
  simp
theorem app_stB (s : Str) (b : List UInt8) : s ++ stB b = stB (bt s ++ b) := by rw [← stB_app, stB_bt]
theorem bytesOf_byte (l : List UInt8) : bytesOf (l.map byteRow) = some l := by
  induction l with
  | nil => rfl
  | cons x r ih =>
    rw [List.map_cons]
    unfold bytesOf
    rw [show byteOf (byteRow x) = some x by simp [byteOf, byteRow]]
    simp only []
    rw [ih]
theorem flat_byte (l : List UInt8) : flatR (l.map byteRow) = true := by simp [flatR, byteRow, isSc]
theorem rd_byte (l : List UInt8) : rdR (l.map byteRow) = l.map byteRow := by simp [rdR, byteRow, rdC]
theorem own_byte (l : List UInt8) : (l.map byteRow).all (fun row => row.all own2) = true := by simp [byteRow, own2]
attribute [push_cast] bytesOf_byte flat_byte rd_byte own_byte
theorem lineB_len (x : Str) : (lineB x).length = 2 * x.size + 1 := by
  unfold lineB
  rw [List.length_append, Lib.Hx.encode_length, bt_len]; rfl
theorem lines_len {w : Int} : ∀ {S : List Str}, (∀ s ∈ S, (s.size : Int) = w) → w ≤ 8 → (S.flatMap lineB).length ≤ 17 * S.length
  | [], _, _ => Nat.zero_le _
  | x :: r, h, hw => by
    have := lines_len (S := r) (fun s hs => h s (by simp [hs])) hw
    have h2 := h x (by simp)
    rw [List.flatMap_cons, List.length_append, lineB_len, List.length_cons]
    omega
theorem okLs_up {l : Lst} {w : Int} (h : okLs l w = true) : 1 ≤ w ∧ w ≤ 8 ∧ 0 ≤ l.sz ∧ l.sz ≤ 3000 ∧ l.S.length ≤ 375 ∧ ∀ s ∈ l.S, (s.size : Int) = w := by
  unfold okLs at h
  simp only [Bool.and_eq_true, decide_eq_true_eq, inB, List.all_eq_true] at h
  exact ⟨h.1.1.1.1, h.1.1.1.2, h.1.1.2.1, h.1.1.2.2, h.1.2, h.2⟩
end Go.Proofs.YtkkmgjhfjhcdmaaGreatDoor.Mx

/- The types that the texts use: as the machine asks. -/
namespace Go.Proofs.YtkkmgjhfjhcdmaaGreatDoor.Mx
set_option linter.all false
open Go Go.RowKit Go.Proofs
def T0 : Ty
  | 3 => some { kind := .int .i64, size := 1, bytes := 8, zero := [.int .i64 0], cz := [] }
  | 4 => some { kind := .bool, size := 1, bytes := 1, zero := [.bool false], cz := [] }
  | 5 => some { kind := .int .u8, size := 1, bytes := 1, zero := [.int .u8 0], cz := [] }
  | 9 => some { kind := .str, size := 1, bytes := 16, zero := [.string ⟨#[]⟩], cz := [] }
  | 22 => some { kind := .slice 5, size := 1, bytes := 24, zero := [.slice none 0 0], cz := [some 1] }
  | 23 => some { kind := .slice 37, size := 1, bytes := 24, zero := [.slice none 0 0], cz := [some 2] }
  | 24 => some { kind := .slice 9, size := 1, bytes := 24, zero := [.slice none 0 0], cz := [some 1] }
  | 26 => some { kind := .struct [(0, 3), (1, 3), (2, 23), (3, 24)], size := 4, bytes := 64, zero := [.int .i64 0, .int .i64 0, .slice none 0 0, .slice none 0 0], cz := [none, none, some 2, some 1] }
  | 37 => some { kind := .struct [(0, 9), (1, 3)], size := 2, bytes := 24, zero := [.string ⟨#[]⟩, .int .i64 0], cz := [], cmp := true }
  | 44 => some { kind := .slice 177, size := 1, bytes := 24, zero := [.slice none 0 0], cz := [some 2] }
  | 46 => some { kind := .struct [(0, 3), (1, 3), (2, 44), (3, 24)], size := 4, bytes := 64, zero := [.int .i64 0, .int .i64 0, .slice none 0 0, .slice none 0 0], cz := [none, none, some 2, some 1] }
  | 47 => some { kind := .slice 143, size := 1, bytes := 24, zero := [.slice none 0 0], cz := [some 5] }
  | 49 => some { kind := .struct [(0, 9), (1, 3), (2, 4), (3, 46), (7, 47)], size := 8, bytes := 120, zero := [.string ⟨#[]⟩, .int .i64 0, .bool false, .int .i64 0, .int .i64 0, .slice none 0 0, .slice none 0 0, .slice none 0 0], cz := [none, none, none, none, none, some 2, some 1, some 5] }
  | 51 => some { kind := .slice 77, size := 1, bytes := 24, zero := [.slice none 0 0], cz := [some 5] }
  | 53 => some { kind := .struct [(0, 9), (1, 3), (2, 4), (3, 26), (7, 51)], size := 8, bytes := 120, zero := [.string ⟨#[]⟩, .int .i64 0, .bool false, .int .i64 0, .int .i64 0, .slice none 0 0, .slice none 0 0, .slice none 0 0], cz := [none, none, none, none, none, some 2, some 1, some 5] }
  | 54 => some { kind := .slice 70, size := 1, bytes := 24, zero := [.slice none 0 0], cz := [some 5] }
  | 67 => some { kind := .struct [(0, 3), (1, 3), (2, 9), (3, 4), (4, 9)], size := 5, bytes := 56, zero := [.int .i64 0, .int .i64 0, .string ⟨#[]⟩, .bool false, .string ⟨#[]⟩], cz := [], cmp := true }
  | 70 => some { kind := .struct [(0, 3), (1, 3), (2, 9), (3, 4), (4, 9)], size := 5, bytes := 56, zero := [.int .i64 0, .int .i64 0, .string ⟨#[]⟩, .bool false, .string ⟨#[]⟩], cz := [], cmp := true }
  | 77 => some { kind := .struct [(0, 3), (1, 3), (2, 3), (3, 9), (4, 24)], size := 5, bytes := 64, zero := [.int .i64 0, .int .i64 0, .int .i64 0, .string ⟨#[]⟩, .slice none 0 0], cz := [none, none, none, none, some 1] }
  | 91 => some { kind := .map 9 4, size := 1, bytes := 8, zero := [.map none], cz := [] }
  | 96 => some { kind := .struct [(0, 3), (1, 24)], size := 2, bytes := 32, zero := [.int .i64 0, .slice none 0 0], cz := [none, some 1] }
  | 103 => some { kind := .int .u64, size := 1, bytes := 8, zero := [.int .u64 0], cz := [] }
  | 108 => some { kind := .slice 4, size := 1, bytes := 24, zero := [.slice none 0 0], cz := [some 1] }
  | 123 => some { kind := .slice 26, size := 1, bytes := 24, zero := [.slice none 0 0], cz := [some 4] }
  | 125 => some { kind := .struct [(0, 53), (8, 108), (9, 123), (10, 54), (11, 3)], size := 12, bytes := 200, zero := [.string ⟨#[]⟩, .int .i64 0, .bool false, .int .i64 0, .int .i64 0, .slice none 0 0, .slice none 0 0, .slice none 0 0, .slice none 0 0, .slice none 0 0, .slice none 0 0, .int .i64 0], cz := [none, none, none, none, none, some 2, some 1, some 5, some 1, some 4, some 5, none] }
  | 128 => some { kind := .slice 3, size := 1, bytes := 24, zero := [.slice none 0 0], cz := [some 1] }
  | 132 => some { kind := .struct [(0, 22), (1, 3)], size := 2, bytes := 32, zero := [.slice none 0 0, .int .i64 0], cz := [some 1, none] }
  | 143 => some { kind := .struct [(0, 3), (1, 3), (2, 3), (3, 9), (4, 24)], size := 5, bytes := 64, zero := [.int .i64 0, .int .i64 0, .int .i64 0, .string ⟨#[]⟩, .slice none 0 0], cz := [none, none, none, none, some 1] }
  | 156 => some { kind := .iface, size := 1, bytes := 16, zero := [.nilIface], cz := [] }
  | 170 => some { kind := .struct [(0, 3), (1, 3), (2, 3), (3, 70)], size := 8, bytes := 80, zero := [.int .i64 0, .int .i64 0, .int .i64 0, .int .i64 0, .int .i64 0, .string ⟨#[]⟩, .bool false, .string ⟨#[]⟩], cz := [] }
  | 177 => some { kind := .struct [(0, 9), (1, 3)], size := 2, bytes := 24, zero := [.string ⟨#[]⟩, .int .i64 0], cz := [], cmp := true }
  | _ => none
@[push_cast] theorem T0_3 : T0 3 = some { kind := .int .i64, size := 1, bytes := 8, zero := [.int .i64 0], cz := [] } := rfl
@[push_cast] theorem T0_4 : T0 4 = some { kind := .bool, size := 1, bytes := 1, zero := [.bool false], cz := [] } := rfl
@[push_cast] theorem T0_5 : T0 5 = some { kind := .int .u8, size := 1, bytes := 1, zero := [.int .u8 0], cz := [] } := rfl
@[push_cast] theorem T0_9 : T0 9 = some { kind := .str, size := 1, bytes := 16, zero := [.string ⟨#[]⟩], cz := [] } := rfl
@[push_cast] theorem T0_22 : T0 22 = some { kind := .slice 5, size := 1, bytes := 24, zero := [.slice none 0 0], cz := [some 1] } := rfl
@[push_cast] theorem T0_23 : T0 23 = some { kind := .slice 37, size := 1, bytes := 24, zero := [.slice none 0 0], cz := [some 2] } := rfl
@[push_cast] theorem T0_24 : T0 24 = some { kind := .slice 9, size := 1, bytes := 24, zero := [.slice none 0 0], cz := [some 1] } := rfl
@[push_cast] theorem T0_26 : T0 26 = some { kind := .struct [(0, 3), (1, 3), (2, 23), (3, 24)], size := 4, bytes := 64, zero := [.int .i64 0, .int .i64 0, .slice none 0 0, .slice none 0 0], cz := [none, none, some 2, some 1] } := rfl
@[push_cast] theorem T0_37 : T0 37 = some { kind := .struct [(0, 9), (1, 3)], size := 2, bytes := 24, zero := [.string ⟨#[]⟩, .int .i64 0], cz := [], cmp := true } := rfl
@[push_cast] theorem T0_44 : T0 44 = some { kind := .slice 177, size := 1, bytes := 24, zero := [.slice none 0 0], cz := [some 2] } := rfl
@[push_cast] theorem T0_46 : T0 46 = some { kind := .struct [(0, 3), (1, 3), (2, 44), (3, 24)], size := 4, bytes := 64, zero := [.int .i64 0, .int .i64 0, .slice none 0 0, .slice none 0 0], cz := [none, none, some 2, some 1] } := rfl
@[push_cast] theorem T0_47 : T0 47 = some { kind := .slice 143, size := 1, bytes := 24, zero := [.slice none 0 0], cz := [some 5] } := rfl
@[push_cast] theorem T0_49 : T0 49 = some { kind := .struct [(0, 9), (1, 3), (2, 4), (3, 46), (7, 47)], size := 8, bytes := 120, zero := [.string ⟨#[]⟩, .int .i64 0, .bool false, .int .i64 0, .int .i64 0, .slice none 0 0, .slice none 0 0, .slice none 0 0], cz := [none, none, none, none, none, some 2, some 1, some 5] } := rfl
@[push_cast] theorem T0_51 : T0 51 = some { kind := .slice 77, size := 1, bytes := 24, zero := [.slice none 0 0], cz := [some 5] } := rfl
@[push_cast] theorem T0_53 : T0 53 = some { kind := .struct [(0, 9), (1, 3), (2, 4), (3, 26), (7, 51)], size := 8, bytes := 120, zero := [.string ⟨#[]⟩, .int .i64 0, .bool false, .int .i64 0, .int .i64 0, .slice none 0 0, .slice none 0 0, .slice none 0 0], cz := [none, none, none, none, none, some 2, some 1, some 5] } := rfl
@[push_cast] theorem T0_54 : T0 54 = some { kind := .slice 70, size := 1, bytes := 24, zero := [.slice none 0 0], cz := [some 5] } := rfl
@[push_cast] theorem T0_67 : T0 67 = some { kind := .struct [(0, 3), (1, 3), (2, 9), (3, 4), (4, 9)], size := 5, bytes := 56, zero := [.int .i64 0, .int .i64 0, .string ⟨#[]⟩, .bool false, .string ⟨#[]⟩], cz := [], cmp := true } := rfl
@[push_cast] theorem T0_70 : T0 70 = some { kind := .struct [(0, 3), (1, 3), (2, 9), (3, 4), (4, 9)], size := 5, bytes := 56, zero := [.int .i64 0, .int .i64 0, .string ⟨#[]⟩, .bool false, .string ⟨#[]⟩], cz := [], cmp := true } := rfl
@[push_cast] theorem T0_77 : T0 77 = some { kind := .struct [(0, 3), (1, 3), (2, 3), (3, 9), (4, 24)], size := 5, bytes := 64, zero := [.int .i64 0, .int .i64 0, .int .i64 0, .string ⟨#[]⟩, .slice none 0 0], cz := [none, none, none, none, some 1] } := rfl
@[push_cast] theorem T0_91 : T0 91 = some { kind := .map 9 4, size := 1, bytes := 8, zero := [.map none], cz := [] } := rfl
@[push_cast] theorem T0_96 : T0 96 = some { kind := .struct [(0, 3), (1, 24)], size := 2, bytes := 32, zero := [.int .i64 0, .slice none 0 0], cz := [none, some 1] } := rfl
@[push_cast] theorem T0_103 : T0 103 = some { kind := .int .u64, size := 1, bytes := 8, zero := [.int .u64 0], cz := [] } := rfl
@[push_cast] theorem T0_108 : T0 108 = some { kind := .slice 4, size := 1, bytes := 24, zero := [.slice none 0 0], cz := [some 1] } := rfl
@[push_cast] theorem T0_123 : T0 123 = some { kind := .slice 26, size := 1, bytes := 24, zero := [.slice none 0 0], cz := [some 4] } := rfl
@[push_cast] theorem T0_125 : T0 125 = some { kind := .struct [(0, 53), (8, 108), (9, 123), (10, 54), (11, 3)], size := 12, bytes := 200, zero := [.string ⟨#[]⟩, .int .i64 0, .bool false, .int .i64 0, .int .i64 0, .slice none 0 0, .slice none 0 0, .slice none 0 0, .slice none 0 0, .slice none 0 0, .slice none 0 0, .int .i64 0], cz := [none, none, none, none, none, some 2, some 1, some 5, some 1, some 4, some 5, none] } := rfl
@[push_cast] theorem T0_128 : T0 128 = some { kind := .slice 3, size := 1, bytes := 24, zero := [.slice none 0 0], cz := [some 1] } := rfl
@[push_cast] theorem T0_132 : T0 132 = some { kind := .struct [(0, 22), (1, 3)], size := 2, bytes := 32, zero := [.slice none 0 0, .int .i64 0], cz := [some 1, none] } := rfl
@[push_cast] theorem T0_143 : T0 143 = some { kind := .struct [(0, 3), (1, 3), (2, 3), (3, 9), (4, 24)], size := 5, bytes := 64, zero := [.int .i64 0, .int .i64 0, .int .i64 0, .string ⟨#[]⟩, .slice none 0 0], cz := [none, none, none, none, some 1] } := rfl
@[push_cast] theorem T0_156 : T0 156 = some { kind := .iface, size := 1, bytes := 16, zero := [.nilIface], cz := [] } := rfl
@[push_cast] theorem T0_170 : T0 170 = some { kind := .struct [(0, 3), (1, 3), (2, 3), (3, 70)], size := 8, bytes := 80, zero := [.int .i64 0, .int .i64 0, .int .i64 0, .int .i64 0, .int .i64 0, .string ⟨#[]⟩, .bool false, .string ⟨#[]⟩], cz := [] } := rfl
@[push_cast] theorem T0_177 : T0 177 = some { kind := .struct [(0, 9), (1, 3)], size := 2, bytes := 24, zero := [.string ⟨#[]⟩, .int .i64 0], cz := [], cmp := true } := rfl
theorem tOk : TOk Tryz.prog T0 := by
  intro t ti h
  unfold T0 at h
  split at h <;> cases h
  · exact tyOk_one Tryz.type3 rfl rfl rfl rfl rfl (by decide) rfl Tryz.underlying3 rfl rfl rfl rfl
  · exact tyOk_one Tryz.type4 rfl rfl rfl rfl rfl (by decide) rfl Tryz.underlying4 rfl rfl rfl rfl
  · exact tyOk_one Tryz.type5 rfl rfl rfl rfl rfl (by decide) rfl Tryz.underlying5 rfl rfl rfl rfl
  · exact tyOk_one Tryz.type9 rfl rfl rfl rfl rfl (by decide) rfl Tryz.underlying9 rfl rfl rfl rfl
  · exact tyOk_sl Tryz.type22 rfl rfl rfl rfl rfl (by decide) rfl Tryz.underlying22 rfl rfl rfl rfl
  · exact tyOk_sl Tryz.type23 rfl rfl rfl rfl rfl (by decide) rfl Tryz.underlying23 rfl rfl rfl rfl
  · exact tyOk_sl Tryz.type24 rfl rfl rfl rfl rfl (by decide) rfl Tryz.underlying24 rfl rfl rfl rfl
  · exact tyOk_str (info_of Tryz.type26) rfl rfl rfl rfl rfl rfl ⟨_, Tryz.underlying26, rfl⟩ rfl (flds_ok (by kernel_rfl)) rfl rfl rfl
  · exact tyOk_strC (info_of Tryz.type37) rfl rfl rfl rfl rfl rfl ⟨_, Tryz.underlying37, rfl⟩ rfl (flds_ok (by kernel_rfl)) rfl rfl (by kernel_rfl) (by kernel_rfl) (nm_of Tryz.underlying37 (by decide))
  · exact tyOk_sl Tryz.type44 rfl rfl rfl rfl rfl (by decide) rfl Tryz.underlying44 rfl rfl rfl rfl
  · exact tyOk_str (info_of Tryz.type46) rfl rfl rfl rfl rfl rfl ⟨_, Tryz.underlying46, rfl⟩ rfl (flds_ok (by kernel_rfl)) rfl rfl rfl
  · exact tyOk_sl Tryz.type47 rfl rfl rfl rfl rfl (by decide) rfl Tryz.underlying47 rfl rfl rfl rfl
  · exact tyOk_str (info_of Tryz.type49) rfl rfl rfl rfl rfl rfl ⟨_, Tryz.underlying49, rfl⟩ rfl (flds_ok (by kernel_rfl)) rfl rfl rfl
  · exact tyOk_sl Tryz.type51 rfl rfl rfl rfl rfl (by decide) rfl Tryz.underlying51 rfl rfl rfl rfl
  · exact tyOk_str (info_of Tryz.type53) rfl rfl rfl rfl rfl rfl ⟨_, Tryz.underlying53, rfl⟩ rfl (flds_ok (by kernel_rfl)) rfl rfl rfl
  · exact tyOk_sl Tryz.type54 rfl rfl rfl rfl rfl (by decide) rfl Tryz.underlying54 rfl rfl rfl rfl
  · exact tyOk_strC (info_of Tryz.type67) rfl rfl rfl rfl rfl rfl ⟨_, Tryz.underlying67, rfl⟩ rfl (flds_ok (by kernel_rfl)) rfl rfl (by kernel_rfl) (by kernel_rfl) (nm_of Tryz.underlying67 (by decide))
  · exact tyOk_strC (info_of Tryz.type70) rfl rfl rfl rfl rfl rfl ⟨_, Tryz.underlying70, rfl⟩ rfl (flds_ok (by kernel_rfl)) rfl rfl (by kernel_rfl) (by kernel_rfl) (nm_of Tryz.underlying70 (by decide))
  · exact tyOk_str (info_of Tryz.type77) rfl rfl rfl rfl rfl rfl ⟨_, Tryz.underlying77, rfl⟩ rfl (flds_ok (by kernel_rfl)) rfl rfl rfl
  · exact tyOk_one Tryz.type91 rfl rfl rfl rfl rfl (by decide) rfl Tryz.underlying91 rfl rfl rfl rfl
  · exact tyOk_str (info_of Tryz.type96) rfl rfl rfl rfl rfl rfl ⟨_, Tryz.underlying96, rfl⟩ rfl (flds_ok (by kernel_rfl)) rfl rfl rfl
  · exact tyOk_one Tryz.type103 rfl rfl rfl rfl rfl (by decide) rfl Tryz.underlying103 rfl rfl rfl rfl
  · exact tyOk_sl Tryz.type108 rfl rfl rfl rfl rfl (by decide) rfl Tryz.underlying108 rfl rfl rfl rfl
  · exact tyOk_sl Tryz.type123 rfl rfl rfl rfl rfl (by decide) rfl Tryz.underlying123 rfl rfl rfl rfl
  · exact tyOk_str (info_of Tryz.type125) rfl rfl rfl rfl rfl rfl ⟨_, Tryz.underlying125, rfl⟩ rfl (flds_ok (by kernel_rfl)) rfl rfl rfl
  · exact tyOk_sl Tryz.type128 rfl rfl rfl rfl rfl (by decide) rfl Tryz.underlying128 rfl rfl rfl rfl
  · exact tyOk_str (info_of Tryz.type132) rfl rfl rfl rfl rfl rfl ⟨_, Tryz.underlying132, rfl⟩ rfl (flds_ok (by kernel_rfl)) rfl rfl rfl
  · exact tyOk_str (info_of Tryz.type143) rfl rfl rfl rfl rfl rfl ⟨_, Tryz.underlying143, rfl⟩ rfl (flds_ok (by kernel_rfl)) rfl rfl rfl
  · exact tyOk_one Tryz.type156 rfl rfl rfl rfl rfl (by decide) rfl ⟨_, Tryz.underlying156⟩ rfl rfl rfl rfl
  · exact tyOk_str (info_of Tryz.type170) rfl rfl rfl rfl rfl rfl ⟨_, Tryz.underlying170, rfl⟩ rfl (flds_ok (by kernel_rfl)) rfl rfl rfl
  · exact tyOk_strC (info_of Tryz.type177) rfl rfl rfl rfl rfl rfl ⟨_, Tryz.underlying177, rfl⟩ rfl (flds_ok (by kernel_rfl)) rfl rfl (by kernel_rfl) (by kernel_rfl) (nm_of Tryz.underlying177 (by decide))
end Go.Proofs.YtkkmgjhfjhcdmaaGreatDoor.Mx

/- strconv.Itoa, hex.EncodeToString. -/
namespace Go.Proofs.YtkkmgjhfjhcdmaaGreatDoor.Mx
set_option linter.all false
open Go Go.RowKit Go.Proofs Go.Sort
theorem rep_bytes {w : Go.World} {ok : Nat → Prop} {v : Value} {o : Bool} {l : List UInt8} (h : Rep w ok v (.sl o 1 (l.map byteRow))) (hne : l ≠ []) :
    ∃ b off cap, v = .slice (some ⟨b, off, none⟩) l.length cap ∧ l.length ≤ cap ∧ ok b ∧ ∀ i (h : i < l.length), w.cell? ⟨b, off + i, none⟩ = some (.int .u8 ((l[i]'h).toNat : Int)) := by
  generalize hr : l.map byteRow = rows at h
  cases h with
  | nil => exact (hne (by simpa using hr)).elim
  | emp => exact (hne (by simpa using hr)).elim
  | sl _ _ b off cap _ vs h1 h2 h3 h4 h5 =>
    subst hr
    refine ⟨b, off, cap, by rw [List.length_map], by simpa using h2, h1, fun i hi => ?_⟩
    have hi' : (l.map byteRow)[i]? = some [.sc (.int .u8 (l[i].toNat : Int))] := by rw [List.getElem?_map, List.getElem?_eq_getElem hi]; rfl
    have a := (h4 i _ 0 _ hi' rfl).1
    have b := h5 i _ 0 _ hi' rfl
    generalize vs i 0 = z at a b
    have b : z = .int .u8 (l[i].toNat : Int) := by cases b; rfl
    rw [b] at a
    simpa using a
theorem args1' {w : Go.World} {ok : Nat → Prop} {G : Fp} {args : List Value} {x : AV} (h : ArgsRep w ok G args [x]) : ∃ u, args = [u] ∧ OwnA w ok (G 0) u x := by
  match args, h.len with
  | [u], _ => exact ⟨u, rfl, h.own 0 u x rfl rfl⟩
theorem below_grow (w : Go.World) (k : Nat) (os) : Below w.heap.size w (grow (w.drewN k) os) :=
  ⟨rfl, rfl, rfl, by simp [grow], fun n hn => by simp only [grow]; rw [Array.getElem?_append_left (by simpa using hn)]; rfl⟩
theorem itoa (n : Nat) (hn : n < 4611686018427387904) : Does Tryz.prog 115 [.sc (.int .i64 n)] (.sc (.string (stB (Lib.decDigits n))), []) := by
  refine does_pure Tryz.func115 rfl rfl rfl fun w ok G args hA => ?_
  obtain ⟨u, rfl, h0⟩ := args1' hA
  obtain rfl := rep_int (own_rep h0 (by intro z r h; cases h) (by intro cs h; cases h))
  have ht : Lib.TabIs Tryz.prog w "internal/strconv.uint64pow10" .u64 Lib.pow10Tab := by
    unfold Lib.TabIs World.var?
    rw [Tryz.laysM171.m17]
    have hg : GP w := hA.gw
    unfold GP at hg
    first
    | (obtain ⟨e, fr, h3⟩ := hg
       show (match w.heap[3]? with | some (.cells cs _ _) => some cs | _ => none) = _
       rw [h3])
    | (obtain ⟨⟨e, fr, h3⟩, _⟩ := hg
       show (match w.heap[3]? with | some (.cells cs _ _) => some cs | _ => none) = _
       rw [h3])
  refine (Any.strconv_Itoa Tryz.laysM171 (n : Int) (by omega) (by omega) w ht).mono fun e w' hh => ?_
  obtain ⟨rfl, k, os, rfl⟩ := hh
  refine ⟨?_, below_grow w k os⟩
  have : Lib.itoa (n : Int) = Lib.decDigits n := by unfold Lib.itoa; rw [if_neg (by omega)]; simp
  rw [this]; rfl
theorem hexEnc (l : List UInt8) (hne : l ≠ []) (hl : l.length ≤ 100000) : Does Tryz.prog 116 [.sl false 1 (l.map byteRow)] (.sc (.string (stB (Lib.Hx.encode l))), []) := by
  refine does_pure Tryz.func116 rfl rfl rfl fun w ok G args hA => ?_
  obtain ⟨u, rfl, h0⟩ := args1' hA
  obtain ⟨b, off, cap, rfl, hc, hb, hcell⟩ := rep_bytes (own_rep h0 (by intro z r h; cases h) (by intro cs h; cases h)) hne
  exact Any.hex_EncodeToString_bytes Tryz.hexE b off cap l w hcell (hA.inn b hb) (by omega)
end Go.Proofs.YtkkmgjhfjhcdmaaGreatDoor.Mx

/- Texts cut into lines; what a list's form is read as. -/
namespace Go.Proofs.YtkkmgjhfjhcdmaaGreatDoor.Mx
set_option linter.all false
open Go Go.RowKit
def cutF (c : UInt8) : List (List UInt8) → List UInt8 → List UInt8 → List (List UInt8)
  | acc, cur, [] => acc ++ [cur]
  | acc, cur, x :: r => if x = c then cutF c (acc ++ [cur]) [] r else cutF c acc (cur ++ [x]) r
def cutL (c : UInt8) (s : List UInt8) : List (List UInt8) := cutF c [] [] s
theorem cutF_acc (c : UInt8) : ∀ (s : List UInt8) (acc : List (List UInt8)) (cur : List UInt8), cutF c acc cur s = acc ++ cutF c [] cur s
  | [], acc, cur => by simp [cutF]
  | x :: r, acc, cur => by
    rw [cutF, cutF]
    split
    · rw [cutF_acc c r (acc ++ [cur]), cutF_acc c r ([] ++ [cur])]; simp
    · rw [cutF_acc c r acc]
theorem cutF_skip {c : UInt8} : ∀ {a : List UInt8}, c ∉ a → ∀ (s : List UInt8) (acc : List (List UInt8)) (cur : List UInt8), cutF c acc cur (a ++ s) = cutF c acc (cur ++ a) s
  | [], _, s, acc, cur => by simp
  | x :: r, h, s, acc, cur => by
    have hx : ¬ x = c := fun e => h (by simp [e])
    rw [List.cons_append, cutF, if_neg hx, cutF_skip (fun q => h (by simp [q]))]
    simp
theorem cutL_none {c : UInt8} {a : List UInt8} (h : c ∉ a) : cutL c a = [a] := by
  have := cutF_skip h [] [] []
  rw [List.append_nil] at this
  unfold cutL; rw [this]; simp [cutF]
theorem cutL_one {c : UInt8} {a : List UInt8} (h : c ∉ a) (s : List UInt8) : cutL c (a ++ c :: s) = a :: cutL c s := by
  unfold cutL
  rw [cutF_skip h, cutF, if_pos rfl, cutF_acc]; simp
/-- lines, each with its end -/
theorem cutL_lines {c : UInt8} : ∀ {L : List (List UInt8)}, (∀ a ∈ L, c ∉ a) → cutL c (L.flatMap fun a => a ++ [c]) = L ++ [[]]
  | [], _ => by simp [cutL, cutF]
  | a :: r, h => by
    rw [List.flatMap_cons, List.append_assoc, List.singleton_append, cutL_one (h a (by simp)), cutL_lines fun b hb => h b (by simp [hb])]
    rfl
theorem cutF_ne (c : UInt8) : ∀ (s : List UInt8) (acc : List (List UInt8)) (cur : List UInt8), cutF c acc cur s ≠ []
  | [], acc, cur => by simp [cutF]
  | x :: r, acc, cur => by
    rw [cutF]
    split
    · exact cutF_ne c r _ _
    · exact cutF_ne c r _ _
theorem cutF_len (c : UInt8) : ∀ (s : List UInt8) (acc : List (List UInt8)) (cur : List UInt8), (cutF c acc cur s).length ≤ acc.length + 1 + s.length
  | [], acc, cur => by simp [cutF]
  | x :: r, acc, cur => by
    rw [cutF]
    split
    · have := cutF_len c r (acc ++ [cur]) []
      rw [List.length_append, List.length_cons, List.length_nil] at this
      rw [List.length_cons]; omega
    · have := cutF_len c r acc (cur ++ [x])
      rw [List.length_cons]; omega
theorem cutF_sz (c : UInt8) : ∀ (s : List UInt8) (acc : List (List UInt8)) (cur : List UInt8) (n : Nat), (∀ a ∈ acc, a.length ≤ n) → cur.length + s.length ≤ n → ∀ a ∈ cutF c acc cur s, a.length ≤ n
  | [], acc, cur, n, h, hc, a, ha => by
    rw [cutF, List.mem_append, List.mem_singleton] at ha
    rcases ha with ha | rfl
    · exact h a ha
    · simpa using hc
  | x :: r, acc, cur, n, h, hc, a, ha => by
    rw [cutF] at ha
    rw [List.length_cons] at hc
    split at ha
    · refine cutF_sz c r (acc ++ [cur]) [] n (fun b hb => ?_) (by simp; omega) a ha
      rcases List.mem_append.1 hb with hb | hb
      · exact h b hb
      · rw [List.mem_singleton.1 hb]; omega
    · exact cutF_sz c r acc (cur ++ [x]) n h (by rw [List.length_append, List.length_cons, List.length_nil]; omega) a ha
/-! the library's cut -/
theorem split_cut (c : UInt8) : ∀ (n : Nat) (s : List UInt8), s.length ≤ n → Lib.splitK [c] 0 (Lib.count s [c]) s = cutL c s := by
  intro n
  induction n with
  | zero =>
    intro s hs
    have : s = [] := List.length_eq_zero_iff.1 (by omega)
    subst this
    have hi : Lib.index [] [c] = -1 := by simp [Lib.index]
    rw [Lib.count_miss hi]
    simp [Lib.splitK, cutL, cutF]
  | succ n ih =>
    intro s hs
    rcases Lib.index_spec s [c] with ⟨h1, h2⟩ | ⟨i, h1, h2, h3, h4⟩
    · rw [Lib.count_miss h1, Lib.splitK]
      have hn : c ∉ s := fun hc => by
        obtain ⟨j, hj⟩ := List.mem_iff_getElem?.1 hc
        have hjl := (List.getElem?_eq_some_iff.1 hj).1
        have := h2 j (by omega)
        rw [Lib.occAt_iff_take s [c] j (by simp; omega)] at this
        have hd : s.drop j = c :: s.drop (j + 1) := by
          rw [List.drop_eq_getElem_cons hjl]
          rw [List.getElem?_eq_getElem hjl] at hj
          rw [Option.some.inj hj]
        rw [hd] at this
        simp at this
      rw [cutL_none hn]
    · rw [Lib.count_hit (by simp) h1, Nat.add_comm, Lib.splitK]
      have hne : ¬ (Lib.index s [c] == -1) = true := by rw [h1]; simp
      rw [if_neg hne, h1]
      have ei : ((i : Nat) : Int).toNat = i := by omega
      rw [ei]
      have hci := Lib.occAt_head (t := []) rfl h3
      have hil := (List.getElem?_eq_some_iff.1 hci).1
      have hd : s.drop i = c :: s.drop (i + 1) := by
        rw [List.drop_eq_getElem_cons hil]
        rw [List.getElem?_eq_getElem hil] at hci
        rw [Option.some.inj hci]
      have hn : c ∉ s.take i := fun hc => by
        obtain ⟨j, hj⟩ := List.mem_iff_getElem?.1 hc
        have hjl := (List.getElem?_eq_some_iff.1 hj).1
        rw [List.length_take] at hjl
        rw [List.getElem?_take_of_lt (by omega)] at hj
        have := h4 j (by omega)
        rw [Lib.occAt_iff_take s [c] j (by simp; omega)] at this
        have hd : s.drop j = c :: s.drop (j + 1) := by
          rw [List.drop_eq_getElem_cons (by omega)]
          rw [List.getElem?_eq_getElem (by omega)] at hj
          rw [Option.some.inj hj]
        rw [hd] at this
        simp at this
      have hs2 : s = s.take i ++ c :: s.drop (i + 1) := by rw [← hd, List.take_append_drop]
      conv => rhs; rw [hs2]
      rw [cutL_one hn]
      simp only [List.length_cons, List.length_nil, Nat.add_zero]
      rw [ih (s.drop (i + 1)) (by rw [List.length_drop]; omega)]
end Go.Proofs.YtkkmgjhfjhcdmaaGreatDoor.Mx
