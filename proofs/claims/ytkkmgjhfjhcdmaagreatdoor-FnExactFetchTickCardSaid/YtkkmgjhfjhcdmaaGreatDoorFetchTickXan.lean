/- A machine over values for Go functions, proved sound, and functions run on it: texts F72, F66, F68, LFetchTick. -/
import Derived.Test.YtkkmgjhfjhcdmaaGreatDoorShC
import Derived.Test.YtkkmgjhfjhcdmaaGreatDoorFetchTickXag
import Derived.Test.YtkkmgjhfjhcdmaaGreatDoorFetchTickXah
import Derived.Test.YtkkmgjhfjhcdmaaGreatDoorFetchTickXaj
import Derived.Test.YtkkmgjhfjhcdmaaGreatDoorFetchTickXak
import Derived.Test.YtkkmgjhfjhcdmaaGreatDoorFetchTickXal
import Derived.Test.YtkkmgjhfjhcdmaaGreatDoorFetchTickXam
/- A fetch ticks: region 21 as a whole. -/
namespace Go.Proofs.YtkkmgjhfjhcdmaaGreatDoor.Mx
set_option linter.all false
open Go Go.RowKit Go.Proofs Go.Sort
set_option linter.unusedSimpArgs false
theorem wpOps_cons {P : Program} {all : Array Oper} {Q : Exit → Act → Go.World → Prop} {i : Nat} {r : List Nat} {a : Act} {w : Go.World} {o : Oper} (ho : all[i]? = some o) (hg : o.guard = none) (h : o.wp P a w (wpOps P all Q r) Q) : wpOps P all Q (i :: r) a w := by
  simp only [wpOps, ho]
  rw [if_pos (by simp [Region.wanted, hg])]
  exact .inl h
theorem updT_no {tv : Tv} {t : Nat} (h : tv t = .no) : updT tv (some t) .no = tv := by
  funext k
  unfold updT
  split
  · rename_i e
    cases e
    exact h.symm
  · rfl
theorem sort_region {id : Nat} {ps0 ps1 ps2 ps3 : String} {af0 af1 af2 af3 : Array Edge} {s : St} {m1 m5 mk mq vk vq : Nat} {cs : Row} {D : List Nat} {Q : List Peer}
    (h1 : s.tv 1 = .pt m1 0 0) (h5 : s.tv 5 = .pt m5 0 0) (hno : ∀ t, 78 ≤ t → t ≤ 81 → s.tv t = .no)
    (hm1 : s.sv m1 = some (.bx cs)) (hcs : cs[7]? = some (.ow mq 0 Q.length)) (hm5 : s.sv m5 = some (.bx [.ow mk 0 D.length])) (hmk : s.sv mk = some (.ar 1 vk (D.map natR))) (hmq : s.sv mq = some (.ar 5 vq (Q.map (peerC true))))
    (ne1 : m1 ≠ mk) (ne5 : m5 ≠ mk) (neq : mq ≠ mk) (hD : ∀ k ∈ D, k < Q.length) (hDl : D.length ≤ 20) (hQl : Q.length ≤ 20)
    (hal : ∀ k p i j v, s.sv k = some (.sb p i j v) → p ≠ mk) (hit : ∀ k p v seen, s.sv k = some (.it p v seen) → p ≠ mk) :
    RegOk Tryz.prog id #[⟨some 78, .load 128 (.tmp 5), 128, ps0, af0, none⟩, ⟨some 79, .makeInterface 128 (.tmp 78), 20, ps1, af1, none⟩, ⟨some 80, .makeFunc (.func 128) #[] #[.tmp 1, .tmp 5], 149, ps2, af2, none⟩,
      ⟨some 81, .call { callee := .value (.func 127), args := #[.tmp 79, .tmp 80], argTypes := #[20, 149] }, 0, ps3, af3, none⟩] s ⟨s.tm, supd s.sto mk (some (.ar 1 vk ((sortT Q D).map natR))), s.ctr + 256⟩ := by
  intro w0 M R args np N a w ha hd hI
  obtain ⟨γ, φ, hS, hg, hargs, hsz⟩ := hI
  refine wp_region ?_
  show wpOps _ _ _ [0, 1, 2, 3] a w
  simp only [List.mem_cons, List.not_mem_nil, or_false, forall_eq_or_imp, forall_eq, opDst, decide_eq_true_eq] at hd
  obtain ⟨d0, d1, d2, d3⟩ := hd
  refine wpOps_cons (o := ⟨some 78, .load 128 (.tmp 5), 128, ps0, af0, none⟩) rfl rfl ?_
  refine OpStep.of_res (aop_ok (b := s.ctr) (d := ⟨.ow mk 0 D.length, []⟩) tOk hS (fun n h1 _ => hg n h1) ?_) _ _ fun v w' γ' φ' g1 g2 g3 => ?_
  · have e5 : opv s.tv (.tmp 5) = .pt m5 0 0 := h5
    show aop T0 (.load 128 (.tmp 5)) 128 s.ctr s.tv s.sv = _
    simp only [aop, e5, hm5]
    rfl
  have g2 : Sim w0 M R γ' φ' s.tv s.sv a w' := g2
  have g3 : RepV w' (okOf w0 M R φ' s.sv w') γ' v (.ow mk 0 D.length) := g3
  have rno : ∀ (w : Go.World) (ok : Nat → Prop) (γ : Gs) (v : Value), RepV w ok γ v .no := fun _ _ _ _ => .no _
  have s1 := g2.put (d := some 78) (fun t ht => by cases ht; rw [hsz]; exact d0.2) (rno _ _ _ v)
  rw [updT_no (hno 78 (by omega) (by omega))] at s1
  have z1 : (a.put (some 78) v).tmps.size = N := (put_size ..).trans hsz
  have ev1 : ∀ t, (a.put (some 78) v).tmps.getD t undef = if some 78 = some t then v else a.tmps.getD t undef := fun t => put_getD a (some 78) v (fun t ht => by cases ht; rw [hsz]; exact d0.2) t
  have hargs1 : ∀ (i : Nat) (u : Value), args[i]? = some u → (a.put (some 78) v).tmps.getD i undef = u := fun i u hi => by
    have := idx_lt hi
    rw [ev1, if_neg (by intro q; cases q; omega)]
    exact hargs i u hi
  show wpOps _ _ _ [1, 2, 3] (a.put (some 78) v) w'
  generalize a.put (some 78) v = a1 at *
  refine wpOps_cons (o := ⟨some 79, .makeInterface 128 (.tmp 78), 20, ps1, af1, none⟩) rfl rfl ?_
  have x1 : (execOp a1.eval (⟨some 79, .makeInterface 128 (.tmp 78), 20, ps1, af1, none⟩ : Oper)).run Tryz.prog w' = .ok (.value (.iface 128 v)) w' := by
    have e : a1.eval (.tmp 78) = v := by
      show a1.tmps.getD 78 undef = v
      rw [ev1, if_pos rfl]
    have hu : Tryz.prog.underlying 128 = some (.slice 3) := by kernel_rfl
    simp [execOp, Instr.makeInterface, e, run_underlying hu]
  show Oper.upon _ _ _ _ _ _
  rw [x1, Oper.upon_value]
  have s2 := s1.put (d := some 79) (fun t ht => by cases ht; rw [z1]; exact d1.2) (rno _ _ _ (.iface 128 v))
  rw [updT_no (hno 79 (by omega) (by omega))] at s2
  have z2 : (a1.put (some 79) (.iface 128 v)).tmps.size = N := (put_size ..).trans z1
  have ev2 : ∀ t, (a1.put (some 79) (.iface 128 v)).tmps.getD t undef = if some 79 = some t then .iface 128 v else a1.tmps.getD t undef := fun t => put_getD a1 (some 79) _ (fun t ht => by cases ht; rw [z1]; exact d1.2) t
  have hargs2 : ∀ (i : Nat) (u : Value), args[i]? = some u → (a1.put (some 79) (.iface 128 v)).tmps.getD i undef = u := fun i u hi => by
    have := idx_lt hi
    rw [ev2, if_neg (by intro q; cases q; omega)]
    exact hargs1 i u hi
  show wpOps _ _ _ [2, 3] (a1.put (some 79) (.iface 128 v)) w'
  generalize a1.put (some 79) (.iface 128 v) = a2 at *
  refine wpOps_cons (o := ⟨some 80, .makeFunc (.func 128) #[] #[.tmp 1, .tmp 5], 149, ps2, af2, none⟩) rfl rfl ?_
  have x2 : (execOp a2.eval (⟨some 80, .makeFunc (.func 128) #[] #[.tmp 1, .tmp 5], 149, ps2, af2, none⟩ : Oper)).run Tryz.prog w' = .ok (.value (.func (.func 128) #[] #[a2.tmps.getD 1 undef, a2.tmps.getD 5 undef])) w' := by
    simp [execOp, Instr.makeFunc, Act.eval]
  show Oper.upon _ _ _ _ _ _
  rw [x2, Oper.upon_value]
  obtain ⟨fv, hfv⟩ : ∃ fv, fv = Value.func (.func 128) #[] #[a2.tmps.getD 1 undef, a2.tmps.getD 5 undef] := ⟨_, rfl⟩
  rw [← hfv]
  have s3 := s2.put (d := some 80) (fun t ht => by cases ht; rw [z2]; exact d2.2) (rno _ _ _ fv)
  rw [updT_no (hno 80 (by omega) (by omega))] at s3
  have z3 : (a2.put (some 80) fv).tmps.size = N := (put_size ..).trans z2
  have ev3 : ∀ t, (a2.put (some 80) fv).tmps.getD t undef = if some 80 = some t then fv else a2.tmps.getD t undef := fun t => put_getD a2 (some 80) _ (fun t ht => by cases ht; rw [z2]; exact d2.2) t
  have hargs3 : ∀ (i : Nat) (u : Value), args[i]? = some u → (a2.put (some 80) fv).tmps.getD i undef = u := fun i u hi => by
    have := idx_lt hi
    rw [ev3, if_neg (by intro q; cases q; omega)]
    exact hargs2 i u hi
  show wpOps _ _ _ [3] (a2.put (some 80) fv) w'
  generalize a2.put (some 80) fv = a3 at *
  refine wpOps_cons (o := ⟨some 81, .call { callee := .value (.func 127), args := #[.tmp 79, .tmp 80], argTypes := #[20, 149] }, 0, ps3, af3, none⟩) rfl rfl ?_
  have r1 := s2.tm 1
  have r5 := s2.tm 5
  rw [h1] at r1
  rw [h5] at r5
  have x3 : (execOp a3.eval (⟨some 81, .call { callee := .value (.func 127), args := #[.tmp 79, .tmp 80], argTypes := #[20, 149] }, 0, ps3, af3, none⟩ : Oper)).run Tryz.prog w' = .ok (.enter 127 #[.iface 128 v, fv]) w' := by
    have e1 : a3.tmps.getD 79 undef = .iface 128 v := by rw [ev3, if_neg (by intro q; cases q), ev2, if_pos rfl]
    have e2 : a3.tmps.getD 80 undef = fv := by rw [ev3, if_pos rfl]
    have hE := enters_of (P := Tryz.prog) Tryz.func127 (by kernel_rfl) rfl #[.iface 128 v, fv] w'
    rw [← hE, ← e1, ← e2]
    simp [execOp, resolve, Deferred.ofValue, invoke, Act.eval]
  show Oper.upon _ _ _ _ _ _
  rw [x3, Oper.upon_enter, hfv]
  refine (sort_core s3 r1 r5 g3 hm1 hcs hm5 hmk hmq ne1 ne5 neq hD hDl hQl hal hit).mono fun e w'' hh => ?_
  obtain ⟨rfl, s4⟩ := hh
  have s5 := s4.put (d := some 81) (fun t ht => by cases ht; rw [z3]; exact d3.2) (rno _ _ _ (.tuple #[]))
  rw [updT_no (hno 81 (by omega) (by omega))] at s5
  have z4 : (a3.put (some 81) (.tuple #[])).tmps.size = N := (put_size ..).trans z3
  refine ⟨rfl, γ', φ', ?_, fun n hn => ?_, fun i u hi => ?_, z4⟩
  · show Sim w0 M R γ' φ' s.tv (sget (supd s.sto mk (some (.ar 1 vk ((sortT Q D).map natR))))) _ _
    rw [sget_supd]
    exact s5
  · have hn : s.ctr + 256 ≤ n := hn
    rw [g1 n (by omega)]
    exact hg n (by omega)
  · have := idx_lt hi
    rw [put_getD a3 (some 81) _ (fun t ht => by cases ht; rw [z3]; exact d3.2), if_neg (by intro q; cases q; omega)]
    exact hargs3 i u hi
end Go.Proofs.YtkkmgjhfjhcdmaaGreatDoor.Mx

/- A fetch ticks: the program. -/
namespace Go.Proofs.YtkkmgjhfjhcdmaaGreatDoor.Mx
set_option linter.all false
open Go Go.RowKit Go.Proofs
set_option linter.unusedSimpArgs false
theorem rk_ex {P : Program} {E : Env} {id : Nat} {all : Array Oper} {Q : Po} {s : St} (m v : Nat) (rows' : List Row)
    (h : RegOk P id all (keep (E.kp id) (frz (E.fz id) s)) ⟨(keep (E.kp id) (frz (E.fz id) s)).tm, supd (keep (E.kp id) (frz (E.fz id) s)).sto m (some (.ar 1 v rows')), (keep (E.kp id) (frz (E.fz id) s)).ctr + 256⟩)
    (k : Q .normal ⟨(keep (E.kp id) (frz (E.fz id) s)).tm, supd (keep (E.kp id) (frz (E.fz id) s)).sto m (some (.ar 1 v rows')), (keep (E.kp id) (frz (E.fz id) s)).ctr + 256⟩) : RK P E id all Q s (true : Bool) := ⟨_, h, k⟩
def E90 : Env := { T := T0, kp := look [(0, [0]), (1, [1, 2]), (2, [1, 2]), (3, [1, 2]), (4, [1, 2]), (5, [1, 2, 4]), (6, [1, 2, 4, 5]), (7, [1, 2, 4, 5, 27, 28]), (8, [1, 2, 4, 5, 27, 28]), (9, [1, 2, 4, 5, 6, 27, 28]), (10, [1, 2, 4, 5, 6, 7, 27, 28]), (11, [1, 2, 4, 5, 6, 7, 27, 28]), (12, [1, 2, 4, 5, 6, 7, 27, 28]), (13, [1, 2, 4, 5, 6, 7, 27, 28]), (14, [1, 2, 4, 5, 6, 7, 27, 28]), (15, [1, 2, 4, 5, 7, 27, 28]), (16, [1, 2, 4, 5, 6, 7, 27, 28]), (17, [1, 2, 4, 5, 6, 27, 28]), (18, [1, 2, 4, 5, 27, 28]), (19, [1, 2, 4, 5]), (20, [1, 2]), (21, [1, 2, 4, 5]), (22, [1, 2, 4, 5]), (23, [1, 2, 4, 5, 8]), (24, [1, 2, 4, 5, 8, 9]), (25, [1, 2, 4, 8, 9, 87, 88, 89]), (26, [1, 2, 4, 8, 9, 87, 88, 89]), (27, [1, 2, 4, 8, 9, 11, 87, 88, 89]), (28, [1, 2, 4, 8, 9, 11, 12, 87, 88, 89]), (29, [1, 2, 4, 8, 9, 11, 12, 87, 88, 89, 97, 98, 99]), (30, [1, 2, 4, 8, 9, 11, 12, 87, 88, 89, 97, 98, 99]), (31, [1, 2, 4, 8, 9, 11, 12, 14, 87, 88, 89, 97, 98, 99]), (32, [1, 2, 4, 8, 9, 11, 12, 14, 15, 87, 88, 89, 97, 98, 99]), (33, [1, 2, 4, 8, 9, 11, 12, 14, 87, 88, 89]), (34, [1, 2, 4, 8, 9, 11, 12, 14, 87, 88, 89]), (35, [1, 2, 4, 8, 9, 11, 14, 87, 88, 89]), (36, [1, 2, 4, 8, 9, 11, 12, 87, 88, 89, 97, 98, 99]), (37, [1, 2, 4, 8, 9, 87, 88, 89]), (38, [1, 2, 9])], dp := look2 [(34, [[], [], [], [], [], [4], [0, 3], [0, 3, 6], [0, 3, 6, 7], [0, 1, 3, 6, 7, 8], [0, 1, 3, 6, 7, 8, 9], [0, 1, 3, 6, 7, 8, 9, 10], [0, 1, 2, 3, 4, 5, 6, 7, 8, 9, 10, 11], [0, 1, 2, 3, 4, 5, 6, 7, 8, 9, 10, 11, 12], [0, 1, 2, 3, 4, 5, 6, 7, 8, 9, 10, 11, 12, 13]])], ex := lookB [21] }
attribute [local push_cast] E90
set_option maxRecDepth 20000 in
set_option maxHeartbeats 4000000 in
theorem implTick (f : Fetch) (hf : okFetch f) (hv : validF f = true) : Does Tryz.prog 90 [.ag (fetchC true f)] (.tu [.ag (fetchC true (tickF f).1), .sl true 5 ((tickF f).2.map (messageC true))], []) := by
  obtain ⟨M, hM⟩ : ∃ M, M = (tickF f).1 := ⟨_, rfl⟩
  obtain ⟨O, hO⟩ : ∃ O, O = (tickF f).2 := ⟨_, rfl⟩
  rw [← hM, ← hO]
  have hQl := hf.2.2.1
  have hIl := hf.2.1.1.1
  have hPl := hf.2.1.2.1
  have hnow := now_of hv
  unfold tickF at hM hO
  refine does_of (E := E90) (rs := [.cell 2 53, .tmp 3]) (lent := []) tOk rfl Tryz.func90 rfl (by decide) rfl rfl (Nat.le_of_ble_eq_true rfl) (Nat.le_of_ble_eq_true rfl) ?_
  by_cases c1 : 1000000 ≤ f.now
  · rw [if_pos c1] at hM hO
    replace hM := hM.symm
    subst hM hO
    have c2 : f.now = 1000000 := by omega
    (simp -dsimp (disch := first | omega | (simp only [c2, LR] <;> omega) | fail) only [push_cast, c2, simprocAttr, -Nat.reduceSubDiff]) <;> (repeat (refine (aw_draw (by kernel_rfl)).2 ?_; simp -dsimp (disch := first | omega | (simp only [c2, LR] <;> omega) | fail) only [push_cast, c2, simprocAttr, -Nat.reduceSubDiff]))
  rw [if_neg c1] at hM hO
  have c2 : ¬ f.now = 1000000 := by omega
  (simp -dsimp (disch := first | omega | (simp only [c2, LR] <;> omega) | fail) only [push_cast, c2, simprocAttr, -Nat.reduceSubDiff]) <;> (repeat (refine (aw_draw (by kernel_rfl)).2 ?_; simp -dsimp (disch := first | omega | (simp only [c2, LR] <;> omega) | fail) only [push_cast, c2, simprocAttr, -Nat.reduceSubDiff]))
  refine loop_ind (α := Nat) (fun i => i ≤ f.Q.length)
    (fun i => ⟨[(1, .pt 1 0 0), (2, .pt 5 0 0), (4, .mv 9), (5, .pt 10 0 0), (27, .sc (.int .i64 f.Q.length)), (28, .sc (.int .i64 i))],
      [(1, .bx [.sc (.string f.nm), .sc (.int .i64 (f.now + 1)), .sc (.bool f.full), .sc (.int .i64 f.st.w), .sc (.int .i64 f.st.r), .ow 2 0 f.st.I.length, .ow 3 0 f.st.P.length, .ow 4 0 f.Q.length]), (2, .ar 2 0 (f.st.I.map (itemC true))), (3, .ar 1 0 (f.st.P.map strR)), (4, .ar 5 0 ((decT f.Q i).map (peerC true))),
       (5, .bx [.sc (.string ⟨#[]⟩), .sc (.int .i64 0), .sc (.bool false), .sc (.int .i64 0), .sc (.int .i64 0), .ow 6 0 0, .ow 7 0 0, .ow 8 0 0]), (6, .ar 2 0 []), (7, .ar 1 0 []), (8, .ar 5 0 []),
       (9, .mp 0 (mset (asksT (f.Q.map decP) i))), (10, .bx [.ow 11 0 (freeT (f.Q.map decP) i).length]), (11, .ar 1 0 ((freeT (f.Q.map decP) i).map natR))], 12⟩) (fun i => f.Q.length - i) 0 (Nat.zero_le _) ?_ ?_
  · simp -dsimp (disch := first | omega | (simp only [wr_id, decT_zero, asksT, freeT, List.take_zero, List.filter_nil, List.map_nil, mset, List.foldl_nil, List.range_zero, LR] <;> omega) | fail) only [push_cast, wr_id, decT_zero, asksT, freeT, List.take_zero, List.filter_nil, List.map_nil, mset, List.foldl_nil, List.range_zero, simprocAttr, -Nat.reduceSubDiff]
  intro i hi ih
  by_cases h : i < f.Q.length
  · obtain ⟨p, hp⟩ := ex_get h
    have hD := decT_get hp
    have hl := decT_len f.Q i
    obtain ⟨q1, q2, q3, q4, q5, q6⟩ := peer_up (peer_of hv hp)
    have hN := decT_step hp
    have hS := decT_same hp
    have hl2 := decT_len f.Q (i + 1)
    have ha := asks_step (decQ_get hp)
    have hfr := free_step (decQ_get hp)
    have hfl := free_len (f.Q.map decP) i
    have hk := mok_kok (mset_mok (asksT (f.Q.map decP) i))
    have hmp := mset_app (asksT (f.Q.map decP) i)
    generalize freeT (f.Q.map decP) i = R at *
    generalize asksT (f.Q.map decP) i = A at *
    obtain ⟨E, hE⟩ : ∃ E, E = mset A := ⟨_, rfl⟩
    rw [← hE] at hk hmp ⊢
    generalize decT f.Q i = D at *
    by_cases w0 : 0 < p.wait
    rotate_left
    · have e : decP p = p := by unfold decP; rw [if_neg w0]
      have w1 : p.wait = 0 := by omega
      replace hS := hS e
      rw [e] at ha hfr
      rw [if_neg w0] at ha
      rw [← hS] at hl2
      by_cases l0 : p.lies < 3
      · rw [if_pos (by unfold freeP; simp [l0, w1])] at hfr
        (simp -dsimp (disch := first | omega | (simp only [h, hD, w1, l0, LR] <;> omega) | fail) only [push_cast, h, hD, w1, l0, simprocAttr, -Nat.reduceSubDiff]) <;> (repeat (refine (aw_draw (by kernel_rfl)).2 ?_; simp -dsimp (disch := first | omega | (simp only [h, hD, w1, l0, LR] <;> omega) | fail) only [push_cast, h, hD, w1, l0, simprocAttr, -Nat.reduceSubDiff]))
        refine ih (i + 1) _ (by omega) h ?_
        rw [← hS, ha, hfr, ← hE]
        simp -dsimp (disch := first | omega | (simp only [wr_id, List.length_append, List.map_append, List.length_singleton, List.map_cons, List.map_nil, LR] <;> omega) | fail) only [push_cast, wr_id, List.length_append, List.map_append, List.length_singleton, List.map_cons, List.map_nil, simprocAttr, -Nat.reduceSubDiff]
      · rw [if_neg (by unfold freeP; simp [l0])] at hfr
        (simp -dsimp (disch := first | omega | (simp only [h, hD, w1, l0, LR] <;> omega) | fail) only [push_cast, h, hD, w1, l0, simprocAttr, -Nat.reduceSubDiff]) <;> (repeat (refine (aw_draw (by kernel_rfl)).2 ?_; simp -dsimp (disch := first | omega | (simp only [h, hD, w1, l0, LR] <;> omega) | fail) only [push_cast, h, hD, w1, l0, simprocAttr, -Nat.reduceSubDiff]))
        refine ih (i + 1) _ (by omega) h ?_
        rw [← hS, ha, hfr, ← hE]
        simp -dsimp (disch := first | omega | (simp only [wr_id, List.length_append, List.map_append, List.length_singleton, List.map_cons, List.map_nil, LR] <;> omega) | fail) only [push_cast, wr_id, List.length_append, List.map_append, List.length_singleton, List.map_cons, List.map_nil, simprocAttr, -Nat.reduceSubDiff]
    clear hS
    by_cases w1 : p.wait - 1 = 0
    · have e : decP p = ⟨p.lies, 0, p.last, ⟨#[]⟩, p.N⟩ := by unfold decP; rw [if_pos w0, if_pos w1, w1]
      rw [e] at hN ha hfr
      rw [if_neg (by show ¬ (0 : Int) < 0; omega)] at ha
      by_cases l0 : p.lies < 3
      · rw [if_pos (by unfold freeP; simp [l0])] at hfr
        (simp -dsimp (disch := first | omega | (simp only [h, hD, w0, w1, l0, wr_id, List.getElem?_set_self, List.set_set, set_peer, LR] <;> omega) | fail) only [push_cast, h, hD, w0, w1, l0, wr_id, List.getElem?_set_self, List.set_set, set_peer, simprocAttr, -Nat.reduceSubDiff]) <;> (repeat (refine (aw_draw (by kernel_rfl)).2 ?_; simp -dsimp (disch := first | omega | (simp only [h, hD, w0, w1, l0, wr_id, List.getElem?_set_self, List.set_set, set_peer, LR] <;> omega) | fail) only [push_cast, h, hD, w0, w1, l0, wr_id, List.getElem?_set_self, List.set_set, set_peer, simprocAttr, -Nat.reduceSubDiff]))
        refine ih (i + 1) _ (by omega) h ?_
        rw [← hN, ha, hfr, ← hE]
        simp -dsimp (disch := first | omega | (simp only [wr_id, List.length_append, List.map_append, List.length_singleton, List.map_cons, List.map_nil, LR] <;> omega) | fail) only [push_cast, wr_id, List.length_append, List.map_append, List.length_singleton, List.map_cons, List.map_nil, simprocAttr, -Nat.reduceSubDiff]
      · rw [if_neg (by unfold freeP; simp [l0])] at hfr
        (simp -dsimp (disch := first | omega | (simp only [h, hD, w0, w1, l0, wr_id, List.getElem?_set_self, List.set_set, set_peer, LR] <;> omega) | fail) only [push_cast, h, hD, w0, w1, l0, wr_id, List.getElem?_set_self, List.set_set, set_peer, simprocAttr, -Nat.reduceSubDiff]) <;> (repeat (refine (aw_draw (by kernel_rfl)).2 ?_; simp -dsimp (disch := first | omega | (simp only [h, hD, w0, w1, l0, wr_id, List.getElem?_set_self, List.set_set, set_peer, LR] <;> omega) | fail) only [push_cast, h, hD, w0, w1, l0, wr_id, List.getElem?_set_self, List.set_set, set_peer, simprocAttr, -Nat.reduceSubDiff]))
        refine ih (i + 1) _ (by omega) h ?_
        rw [← hN, ha, hfr, ← hE]
        simp -dsimp (disch := first | omega | (simp only [wr_id, List.length_append, List.map_append, List.length_singleton, List.map_cons, List.map_nil, LR] <;> omega) | fail) only [push_cast, wr_id, List.length_append, List.map_append, List.length_singleton, List.map_cons, List.map_nil, simprocAttr, -Nat.reduceSubDiff]
    · have e : decP p = ⟨p.lies, p.wait - 1, p.last, p.ask, p.N⟩ := by unfold decP; rw [if_pos w0, if_neg w1]
      have w2 : 0 < p.wait - 1 := by omega
      rw [e] at hN ha hfr
      rw [if_pos w2] at ha
      rw [if_neg (by unfold freeP; simp; omega)] at hfr
      (simp -dsimp (disch := first | omega | (simp only [h, hD, w0, w1, w2, pMapSet, hk.1, kkey, wr_id, List.getElem?_set_self, List.set_set, set_peer, LR] <;> omega) | fail) only [push_cast, h, hD, w0, w1, w2, pMapSet, hk.1, kkey, wr_id, List.getElem?_set_self, List.set_set, set_peer, simprocAttr, -Nat.reduceSubDiff]) <;> (repeat (refine (aw_draw (by kernel_rfl)).2 ?_; simp -dsimp (disch := first | omega | (simp only [h, hD, w0, w1, w2, pMapSet, hk.1, kkey, wr_id, List.getElem?_set_self, List.set_set, set_peer, LR] <;> omega) | fail) only [push_cast, h, hD, w0, w1, w2, pMapSet, hk.1, kkey, wr_id, List.getElem?_set_self, List.set_set, set_peer, simprocAttr, -Nat.reduceSubDiff]))
      refine ih (i + 1) _ (by omega) h ?_
      rw [← hN, ha, hfr, hmp]
      simp -dsimp (disch := first | omega | (simp only [wr_id, LR] <;> omega) | fail) only [push_cast, wr_id, simprocAttr, -Nat.reduceSubDiff]
  · have hi : i = f.Q.length := by omega
    subst hi
    rw [decT_all]
    have hl : (f.Q.map decP).length = f.Q.length := List.length_map ..
    cases c3 : f.full with
    | true =>
      rw [if_pos c3] at hM hO
      subst hM hO
      (simp -dsimp (disch := first | omega | (simp only [h, c3, LR] <;> omega) | fail) only [push_cast, h, c3, simprocAttr, -Nat.reduceSubDiff]) <;> (repeat (refine (aw_draw (by kernel_rfl)).2 ?_; simp -dsimp (disch := first | omega | (simp only [h, c3, LR] <;> omega) | fail) only [push_cast, h, c3, simprocAttr, -Nat.reduceSubDiff]))
    | false =>
      rw [if_neg (by rw [c3]; simp)] at hM hO
      have hLk := lacksOk f.st f.nm hf.1
      have hL0 := lacks_ne hv
      have hask := fun x => asks_asked (Q := f.Q.map decP) x
      rw [hl] at hask
      obtain ⟨D, hD⟩ : ∃ D, D = sortT (f.Q.map decP) (freeT (f.Q.map decP) f.Q.length) := ⟨_, rfl⟩
      have hD1 : D.length ≤ 5 := by rw [hD, sortT_len]; have := free_len (f.Q.map decP) f.Q.length; omega
      have hD2 : D.Nodup := by rw [hD]; exact sort_nodup (free_up _ _)
      have hD3 : ∀ k ∈ D, ∃ p, (f.Q.map decP)[k]? = some p ∧ p.wait = 0 := by rw [hD]; exact fun k hk => sort_free hl.symm hk
      have hrun := runT_sort (f.now + 1) (lacksF f.st f.nm) (f.Q.map decP)
      rw [hl, ← hD] at hrun
      rw [hrun] at hM hO
      clear hrun
      have hasc : ∀ p ∈ f.Q.map decP, ascF f.st.w none p.N = true ∧ p.N.length ≤ 376 := fun p hp => by
        obtain ⟨q, hq, rfl⟩ := List.mem_map.1 hp
        obtain ⟨i, hi⟩ := List.mem_iff_getElem?.1 hq
        obtain ⟨_, _, _, q4, _, q6⟩ := peer_up (peer_of hv hi)
        rw [decP_N]
        exact ⟨q6, q4⟩
      have hdq := decQ_ok hf.2.2
      (simp -dsimp (disch := first | omega | (simp only [h, c3, LR] <;> omega) | fail) only [push_cast, h, c3, simprocAttr, -Nat.reduceSubDiff]) <;> (repeat (refine (aw_draw (by kernel_rfl)).2 ?_; simp -dsimp (disch := first | omega | (simp only [h, c3, LR] <;> omega) | fail) only [push_cast, h, c3, simprocAttr, -Nat.reduceSubDiff]))
      refine rk_ex 11 0 (D.map natR) ?_ ?_
      · have hl9 : f.Q.length = (f.Q.map decP).length := (List.length_map _).symm
        have h5 : f.Q.length ≤ 5 := by unfold validF at hv; simp [inB] at hv; omega
        simp -dsimp (disch := first | omega | (simp only [LR] <;> omega) | fail) only [push_cast, simprocAttr, -Nat.reduceSubDiff]
        rw [hD, hl9]
        rw [hl9] at h5
        generalize f.Q.map decP = Q at *
        have hfl := free_len Q Q.length
        exact sort_region (m1 := 1) (m5 := 10) (mk := 11) (mq := 4) (vk := 0) (vq := 0) rfl rfl (fun t h1 h2 => by
            rcases (show t = 78 ∨ t = 79 ∨ t = 80 ∨ t = 81 by omega) with rfl | rfl | rfl | rfl <;> rfl) rfl rfl rfl rfl rfl (by decide) (by decide) (by decide)
          (fun k hk => List.mem_range.1 (List.mem_filter.1 hk).1) (by omega) (by omega) (fun k p i j v h => by have := sget_mem h; simp at this) (fun k p v seen h => by have := sget_mem h; simp at this)
      obtain ⟨L, hL⟩ : ∃ L, L = lacksF f.st f.nm := ⟨_, rfl⟩
      have hla := implLacks f.st f.nm hf.2.1
      rw [← hL] at hM hO hLk hL0 hla
      obtain ⟨A, hA⟩ : ∃ A, A = asksT (f.Q.map decP) f.Q.length := ⟨_, rfl⟩
      rw [← hA] at hask ⊢
      have hD0 : (freeT (f.Q.map decP) f.Q.length).length = D.length := by rw [hD, sortT_len]
      rw [hD0]
      obtain ⟨Q, hQ⟩ : ∃ Q, Q = f.Q.map decP := ⟨_, rfl⟩
      rw [← hQ] at hM hO hl hask hD3 hasc hdq ⊢
      clear hD hD0 hQ hA hL ih
      have hLl := hLk.1
      (simp -dsimp (disch := first | omega | (simp only [LR] <;> omega) | fail) only [push_cast, simprocAttr, -Nat.reduceSubDiff]) <;> (repeat (refine (aw_draw (by kernel_rfl)).2 ?_; simp -dsimp (disch := first | omega | (simp only [LR] <;> omega) | fail) only [push_cast, simprocAttr, -Nat.reduceSubDiff]))
      refine callC hla ?_
      (simp -dsimp (disch := first | omega | (simp only [h, LR] <;> omega) | fail) only [push_cast, h, simprocAttr, -Nat.reduceSubDiff]) <;> (repeat (refine (aw_draw (by kernel_rfl)).2 ?_; simp -dsimp (disch := first | omega | (simp only [h, LR] <;> omega) | fail) only [push_cast, h, simprocAttr, -Nat.reduceSubDiff]))
      obtain ⟨R, hR⟩ : ∃ R, R = D.foldl (ask1 (f.now + 1) L) (Q, []) := ⟨_, rfl⟩
      rw [← hR] at hM hO
      refine loop_ind (α := Nat × List Str × List Peer × List Message)
        (fun q => q.1 ≤ D.length ∧ q.2.2.1.length = f.Q.length ∧ okL okPeer q.2.2.1 ∧ (∀ p ∈ q.2.2.1, ascF f.st.w none p.N = true ∧ p.N.length ≤ 376) ∧ q.2.2.2.length ≤ q.1 ∧ (∀ x, inL q.2.1 x = askedB q.2.2.1 x) ∧ (∀ k ∈ D.drop q.1, ∃ p, q.2.2.1[k]? = some p ∧ p.wait = 0) ∧ (D.drop q.1).foldl (ask1 (f.now + 1) L) q.2.2 = R)
        (fun q => ⟨[(1, .pt 1 0 0), (2, .pt 5 0 0), (4, .mv 9), (8, .ow 10 0 L.length), (9, .ow 11 0 q.2.2.2.length), (87, .ow 12 0 D.length), (88, .sc (.int .i64 D.length)), (89, .sc (.int .i64 q.1))],
          [(1, .bx [.sc (.string f.nm), .sc (.int .i64 (f.now + 1)), .sc (.bool false), .sc (.int .i64 f.st.w), .sc (.int .i64 f.st.r), .ow 2 0 f.st.I.length, .ow 3 0 f.st.P.length, .ow 4 0 q.2.2.1.length]), (2, .ar 2 0 (f.st.I.map (itemC true))), (3, .ar 1 0 (f.st.P.map strR)), (4, .ar 5 0 (q.2.2.1.map (peerC true))),
           (5, .bx [.sc (.string ⟨#[]⟩), .sc (.int .i64 0), .sc (.bool false), .sc (.int .i64 0), .sc (.int .i64 0), .ow 6 0 0, .ow 7 0 0, .ow 8 0 0]), (6, .ar 2 0 []), (7, .ar 1 0 []), (8, .ar 5 0 []),
           (9, .mp 0 (mset q.2.1)), (10, .ar 1 0 (L.map strR)), (11, .ar 5 0 (q.2.2.2.map (messageC true))), (12, .ar 1 0 (D.map natR))], 13⟩) (fun q => D.length - q.1) (0, A, Q, []) ⟨Nat.zero_le _, hl, hdq, hasc, Nat.le_refl _, hask, by rw [List.drop_zero]; exact hD3, by rw [List.drop_zero]; exact hR.symm⟩ ?_ ?_
      · simp -dsimp (disch := first | omega | (simp only [wr_id, hl, LR] <;> omega) | fail) only [push_cast, wr_id, hl, simprocAttr, -Nat.reduceSubDiff]
      clear hask hD3 hasc hdq hR hl
      rintro ⟨j, A, Q, W⟩ ⟨i1, i2, i3, i4, i5, i6, i7, i8⟩ ih
      simp only at i1 i2 i3 i4 i5 i6 i7 i8
      by_cases g : j < D.length
      rotate_left
      · rw [List.drop_eq_nil_of_le (by omega), List.foldl_nil] at i8
        subst i8
        subst hM hO
        (simp -dsimp (disch := first | omega | (simp only [g, c3, LR] <;> omega) | fail) only [push_cast, g, c3, simprocAttr, -Nat.reduceSubDiff]) <;> (repeat (refine (aw_draw (by kernel_rfl)).2 ?_; simp -dsimp (disch := first | omega | (simp only [g, c3, LR] <;> omega) | fail) only [push_cast, g, c3, simprocAttr, -Nat.reduceSubDiff]))
      obtain ⟨k, hk⟩ := ex_get g
      rw [drop_step hk, List.foldl_cons] at i8
      rw [drop_step hk] at i7
      obtain ⟨p, hp, hw⟩ := i7 k (by simp)
      have hkl := (List.getElem?_eq_some_iff.1 hp).1
      obtain ⟨a1, a2⟩ := i4 p (List.mem_of_getElem? hp)
      have hm := mok_kok (mset_mok A)
      have hm2 := hm.2
      simp only [plain] at hm2
      (simp -dsimp (disch := first | omega | (simp only [g, hk, hp, LR] <;> omega) | fail) only [push_cast, g, hk, hp, simprocAttr, -Nat.reduceSubDiff]) <;> (repeat (refine (aw_draw (by kernel_rfl)).2 ?_; simp -dsimp (disch := first | omega | (simp only [g, hk, hp, LR] <;> omega) | fail) only [push_cast, g, hk, hp, simprocAttr, -Nat.reduceSubDiff]))
      obtain ⟨u, hu⟩ : ∃ u, u = pickL Q p L := ⟨_, rfl⟩
      have hst := ask1_at (now := f.now + 1) (L := L) (W := W) hp
      rw [← hu] at hst
      rw [hst] at i8
      have hkD : k ∉ D.drop (j + 1) := by
        have := hD2.sublist (List.drop_sublist j D)
        rw [drop_step hk] at this
        exact (List.nodup_cons.1 this).1
      refine loop_ind (α := Nat) (fun y => y ≤ L.length ∧ pickL Q p (L.drop y) = u)
        (fun y => ⟨[(1, .pt 1 0 0), (2, .pt 5 0 0), (4, .mv 9), (8, .ow 10 0 L.length), (9, .ow 11 0 W.length), (11, .sc (.int .i64 k)), (12, .pt 4 k 0), (87, .ow 12 0 D.length), (88, .sc (.int .i64 D.length)), (89, .sc (.int .i64 j)), (97, .ow 10 0 L.length), (98, .sc (.int .i64 L.length)), (99, .sc (.int .i64 y))],
          [(1, .bx [.sc (.string f.nm), .sc (.int .i64 (f.now + 1)), .sc (.bool false), .sc (.int .i64 f.st.w), .sc (.int .i64 f.st.r), .ow 2 0 f.st.I.length, .ow 3 0 f.st.P.length, .ow 4 0 Q.length]), (2, .ar 2 0 (f.st.I.map (itemC true))), (3, .ar 1 0 (f.st.P.map strR)), (4, .ar 5 0 (Q.map (peerC true))),
           (5, .bx [.sc (.string ⟨#[]⟩), .sc (.int .i64 0), .sc (.bool false), .sc (.int .i64 0), .sc (.int .i64 0), .ow 6 0 0, .ow 7 0 0, .ow 8 0 0]), (6, .ar 2 0 []), (7, .ar 1 0 []), (8, .ar 5 0 []),
           (9, .mp 0 (mset A)), (10, .ar 1 0 (L.map strR)), (11, .ar 5 0 (W.map (messageC true))), (12, .ar 1 0 (D.map natR))], 13⟩) (fun y => L.length - y) 0 ⟨Nat.zero_le _, by rw [List.drop_zero, hu]⟩ ?_ ?_
      · simp -dsimp (disch := first | omega | (simp only [wr_id, LR] <;> omega) | fail) only [push_cast, wr_id, simprocAttr, -Nat.reduceSubDiff]
      rintro y ⟨hy, hq⟩ ih2
      by_cases h2 : y < L.length
      rotate_left
      · rw [List.drop_eq_nil_of_le (by omega), pickL] at hq
        rw [if_pos hq.symm] at i8
        (simp -dsimp (disch := first | omega | (simp only [h2, LR] <;> omega) | fail) only [push_cast, h2, simprocAttr, -Nat.reduceSubDiff]) <;> (repeat (refine (aw_draw (by kernel_rfl)).2 ?_; simp -dsimp (disch := first | omega | (simp only [h2, LR] <;> omega) | fail) only [push_cast, h2, simprocAttr, -Nat.reduceSubDiff]))
        refine ih (j + 1, A, Q, W) _ (by show D.length - (j + 1) < D.length - j; omega) ⟨g, i2, i3, i4, by show W.length ≤ j + 1; omega, i6, fun z hz => i7 z (by simp [hz]), i8⟩ ?_
        simp -dsimp (disch := first | omega | (simp only [wr_id, LR] <;> omega) | fail) only [push_cast, wr_id, simprocAttr, -Nat.reduceSubDiff]
      obtain ⟨x, hx⟩ := ex_get h2
      rw [drop_step hx, pickL] at hq
      have hpar := asc_parts a1 x
      have hhas := hasS_inL a1 x
      have hrk := rk_le p.N x
      (simp -dsimp (disch := first | omega | (simp only [h2, hx, hp, LR] <;> omega) | fail) only [push_cast, h2, hx, hp, simprocAttr, -Nat.reduceSubDiff]) <;> (repeat (refine (aw_draw (by kernel_rfl)).2 ?_; simp -dsimp (disch := first | omega | (simp only [h2, hx, hp, LR] <;> omega) | fail) only [push_cast, h2, hx, hp, simprocAttr, -Nat.reduceSubDiff]))
      refine callC (searchStrings p.N x (by omega) hpar) ?_
      cases d1 : inL A x with
      | true =>
        have d2 := i6 x
        rw [d1] at d2
        rw [if_neg (by rw [← d2]; simp)] at hq
        (simp -dsimp (disch := first | omega | (simp only [h2, hx, hp, pLookup, entries, hm.1, hm2, kkey, mset_get, d1, LR] <;> omega) | fail) only [push_cast, h2, hx, hp, pLookup, entries, hm.1, hm2, kkey, mset_get, d1, simprocAttr, -Nat.reduceSubDiff]) <;> (repeat (refine (aw_draw (by kernel_rfl)).2 ?_; simp -dsimp (disch := first | omega | (simp only [h2, hx, hp, pLookup, entries, hm.1, hm2, kkey, mset_get, d1, LR] <;> omega) | fail) only [push_cast, h2, hx, hp, pLookup, entries, hm.1, hm2, kkey, mset_get, d1, simprocAttr, -Nat.reduceSubDiff]))
        refine ih2 (y + 1) _ (by omega) ⟨h2, hq⟩ ?_
        simp -dsimp (disch := first | omega | (simp only [wr_id, LR] <;> omega) | fail) only [push_cast, wr_id, simprocAttr, -Nat.reduceSubDiff]
      | false =>
      have d2 := i6 x
      rw [d1] at d2
      have take : u = x → hasS p.N x = false → inL p.N x = false ∧ askedB Q x = false → True := fun _ _ _ => trivial
      clear take
      have no : hasS p.N x = true → pickL Q p (L.drop (y + 1)) = u := fun e => by
        rw [if_neg (by rw [← hhas, e]; simp)] at hq
        exact hq
      have yes : hasS p.N x = false → u = x := fun e => by
        rw [if_pos ⟨by rw [← hhas]; exact e, d2.symm⟩] at hq
        exact hq.symm
      have hx0 := hL0 x (List.mem_of_getElem? hx)
      have hmp := mset_app A x
      have fin : u = x → (j + 1 ≤ D.length ∧ (Q.set k ⟨p.lies, 5, f.now + 1, x, p.N⟩).length = f.Q.length ∧ okL okPeer (Q.set k ⟨p.lies, 5, f.now + 1, x, p.N⟩) ∧ (∀ p' ∈ Q.set k ⟨p.lies, 5, f.now + 1, x, p.N⟩, ascF f.st.w none p'.N = true ∧ p'.N.length ≤ 376) ∧ (W ++ [(⟨0, k + 1, x, false, ⟨#[]⟩⟩ : Message)]).length ≤ j + 1 ∧ (∀ z, inL (A ++ [x]) z = askedB (Q.set k ⟨p.lies, 5, f.now + 1, x, p.N⟩) z) ∧ (∀ z ∈ D.drop (j + 1), ∃ p', (Q.set k ⟨p.lies, 5, f.now + 1, x, p.N⟩)[z]? = some p' ∧ p'.wait = 0) ∧ (D.drop (j + 1)).foldl (ask1 (f.now + 1) L) (Q.set k ⟨p.lies, 5, f.now + 1, x, p.N⟩, W ++ [(⟨0, k + 1, x, false, ⟨#[]⟩⟩ : Message)]) = R) := fun hux =>
        ⟨g, by show (Q.set _ _).length = _; rw [List.length_set]; exact i2,
          ⟨by show (Q.set _ _).length ≤ _; rw [List.length_set]; exact i3.1, fun a ha => by
            rcases List.mem_or_eq_of_mem_set ha with q | q
            · exact i3.2 a q
            · rw [q]; exact ⟨hLk.2 x (List.mem_of_getElem? hx), (i3.2 p (List.mem_of_getElem? hp)).2⟩⟩,
          fun a ha => by
            rcases List.mem_or_eq_of_mem_set ha with q | q
            · exact i4 a q
            · rw [q]; exact ⟨a1, a2⟩,
          by show (W ++ _).length ≤ j + 1; rw [List.length_append, List.length_singleton]; exact Nat.succ_le_succ i5,
          fun z => by
            show inL (A ++ [x]) z = askedB (Q.set _ _) z
            rw [asked_set hp hw, ← i6 z, inL_app]
            simp [inL],
          fun z hz => by
            show ∃ p', (Q.set _ _)[z]? = some p' ∧ _
            have : k ≠ z := fun e => hkD (e ▸ hz)
            rw [List.getElem?_set_ne this]
            exact i7 z (by simp [hz]),
          by
            rw [if_neg (by rw [hux]; exact hx0), hux] at i8
            exact i8⟩
      by_cases hr : rk p.N x < p.N.length
      · obtain ⟨z, hz⟩ := ex_get hr
        by_cases e : z = x
        · have hh : hasS p.N x = true := by unfold hasS; rw [hz, e]; simp
          (simp -dsimp (disch := first | omega | (simp only [h2, hx, hp, pLookup, entries, hm.1, hm2, kkey, mset_get, d1, hr, hz, e, LR] <;> omega) | fail) only [push_cast, h2, hx, hp, pLookup, entries, hm.1, hm2, kkey, mset_get, d1, hr, hz, e, simprocAttr, -Nat.reduceSubDiff]) <;> (repeat (refine (aw_draw (by kernel_rfl)).2 ?_; simp -dsimp (disch := first | omega | (simp only [h2, hx, hp, pLookup, entries, hm.1, hm2, kkey, mset_get, d1, hr, hz, e, LR] <;> omega) | fail) only [push_cast, h2, hx, hp, pLookup, entries, hm.1, hm2, kkey, mset_get, d1, hr, hz, e, simprocAttr, -Nat.reduceSubDiff]))
          refine ih2 (y + 1) _ (by omega) ⟨h2, no hh⟩ ?_
          simp -dsimp (disch := first | omega | (simp only [wr_id, LR] <;> omega) | fail) only [push_cast, wr_id, simprocAttr, -Nat.reduceSubDiff]
        · have hh : hasS p.N x = false := by unfold hasS; rw [hz]; simp [e]
          (simp -dsimp (disch := first | omega | (simp only [h2, hx, hp, pLookup, pMapSet, entries, hm.1, hm2, kkey, mset_get, d1, hr, hz, e, List.getElem?_set_self, List.set_set, set_peer, LR] <;> omega) | fail) only [push_cast, h2, hx, hp, pLookup, pMapSet, entries, hm.1, hm2, kkey, mset_get, d1, hr, hz, e, List.getElem?_set_self, List.set_set, set_peer, simprocAttr, -Nat.reduceSubDiff]) <;> (repeat (refine (aw_draw (by kernel_rfl)).2 ?_; simp -dsimp (disch := first | omega | (simp only [h2, hx, hp, pLookup, pMapSet, entries, hm.1, hm2, kkey, mset_get, d1, hr, hz, e, List.getElem?_set_self, List.set_set, set_peer, LR] <;> omega) | fail) only [push_cast, h2, hx, hp, pLookup, pMapSet, entries, hm.1, hm2, kkey, mset_get, d1, hr, hz, e, List.getElem?_set_self, List.set_set, set_peer, simprocAttr, -Nat.reduceSubDiff]))
          refine ih (j + 1, A ++ [x], Q.set k ⟨p.lies, 5, f.now + 1, x, p.N⟩, W ++ [⟨0, k + 1, x, false, ⟨#[]⟩⟩]) _ (by show D.length - (j + 1) < D.length - j; omega) (fin (yes hh)) ?_
          rw [hmp]
          simp -dsimp (disch := first | omega | (simp only [wr_id, List.length_append, List.map_append, List.length_singleton, List.map_cons, List.map_nil, List.length_set, LR] <;> omega) | fail) only [push_cast, wr_id, List.length_append, List.map_append, List.length_singleton, List.map_cons, List.map_nil, List.length_set, simprocAttr, -Nat.reduceSubDiff]
      · have hh : hasS p.N x = false := by unfold hasS; rw [List.getElem?_eq_none (by omega)]; simp
        (simp -dsimp (disch := first | omega | (simp only [h2, hx, hp, pLookup, pMapSet, entries, hm.1, hm2, kkey, mset_get, d1, hr, List.getElem?_set_self, List.set_set, set_peer, LR] <;> omega) | fail) only [push_cast, h2, hx, hp, pLookup, pMapSet, entries, hm.1, hm2, kkey, mset_get, d1, hr, List.getElem?_set_self, List.set_set, set_peer, simprocAttr, -Nat.reduceSubDiff]) <;> (repeat (refine (aw_draw (by kernel_rfl)).2 ?_; simp -dsimp (disch := first | omega | (simp only [h2, hx, hp, pLookup, pMapSet, entries, hm.1, hm2, kkey, mset_get, d1, hr, List.getElem?_set_self, List.set_set, set_peer, LR] <;> omega) | fail) only [push_cast, h2, hx, hp, pLookup, pMapSet, entries, hm.1, hm2, kkey, mset_get, d1, hr, List.getElem?_set_self, List.set_set, set_peer, simprocAttr, -Nat.reduceSubDiff]))
        refine ih (j + 1, A ++ [x], Q.set k ⟨p.lies, 5, f.now + 1, x, p.N⟩, W ++ [⟨0, k + 1, x, false, ⟨#[]⟩⟩]) _ (by show D.length - (j + 1) < D.length - j; omega) (fin (yes hh)) ?_
        rw [hmp]
        simp -dsimp (disch := first | omega | (simp only [wr_id, List.length_append, List.map_append, List.length_singleton, List.map_cons, List.map_nil, List.length_set, LR] <;> omega) | fail) only [push_cast, wr_id, List.length_append, List.map_append, List.length_singleton, List.map_cons, List.map_nil, List.length_set, simprocAttr, -Nat.reduceSubDiff]
end Go.Proofs.YtkkmgjhfjhcdmaaGreatDoor.Mx

/- A fetch ticks: the program's FetchTick. -/
namespace Go.Proofs.YtkkmgjhfjhcdmaaGreatDoor.Mx
set_option linter.all false
open Go Go.RowKit Go.Proofs
set_option linter.unusedSimpArgs false
def E33 : Env := { T := T0, kp := look [(0, [0]), (1, [1, 2]), (2, [2]), (3, [1, 2])], md := look3 [(3, 2, [2])] }
attribute [local push_cast] E33
set_option maxRecDepth 20000 in
set_option maxHeartbeats 2000000 in
theorem implFetchTick (f : Fetch) (hf : okFetch f) : Does Tryz.prog 33 [.ag (fetchC false f)] (.tu [.ag (fetchC true (ftickF f).1), .sl true 5 ((ftickF f).2.map (messageC true))], []) := by
  refine does_of (E := E33) (rs := [.cell 2 53, .tmp 3]) (lent := []) tOk rfl Tryz.func33 rfl (by decide) rfl rfl (Nat.le_of_ble_eq_true rfl) (Nat.le_of_ble_eq_true rfl) ?_
  obtain ⟨M, hM⟩ : ∃ M, M = (ftickF f).1 := ⟨_, rfl⟩
  obtain ⟨O, hO⟩ : ∃ O, O = (ftickF f).2 := ⟨_, rfl⟩
  rw [← hM, ← hO]
  unfold ftickF at hM hO
  have hQl := hf.2.2.1
  have hIl := hf.2.1.1.1
  have hPl := hf.2.1.2.1
  (simp -dsimp (disch := first | omega | (simp only [LR] <;> omega) | fail) only [push_cast, simprocAttr, -Nat.reduceSubDiff]) <;> (repeat (refine (aw_draw (by kernel_rfl)).2 ?_; simp -dsimp (disch := first | omega | (simp only [LR] <;> omega) | fail) only [push_cast, simprocAttr, -Nat.reduceSubDiff]))
  refine callC (implValidFetch f hf) ?_
  cases hv : validF f with
  | false =>
    rw [if_neg (by rw [hv]; simp)] at hM hO
    subst hM hO
    (simp -dsimp (disch := first | omega | (simp only [LR] <;> omega) | fail) only [push_cast, simprocAttr, -Nat.reduceSubDiff]) <;> (repeat (refine (aw_draw (by kernel_rfl)).2 ?_; simp -dsimp (disch := first | omega | (simp only [LR] <;> omega) | fail) only [push_cast, simprocAttr, -Nat.reduceSubDiff]))
    rfl
  | true =>
  rw [if_pos hv] at hM hO
  (simp -dsimp (disch := first | omega | (simp only [LR] <;> omega) | fail) only [push_cast, simprocAttr, -Nat.reduceSubDiff]) <;> (repeat (refine (aw_draw (by kernel_rfl)).2 ?_; simp -dsimp (disch := first | omega | (simp only [LR] <;> omega) | fail) only [push_cast, simprocAttr, -Nat.reduceSubDiff]))
  refine callC (copyFetch f hf) ?_
  (simp -dsimp (disch := first | omega | (simp only [LR] <;> omega) | fail) only [push_cast, simprocAttr, -Nat.reduceSubDiff]) <;> (repeat (refine (aw_draw (by kernel_rfl)).2 ?_; simp -dsimp (disch := first | omega | (simp only [LR] <;> omega) | fail) only [push_cast, simprocAttr, -Nat.reduceSubDiff]))
  refine callC (implTick f hf hv) ?_
  rw [← hM, ← hO]
  (simp -dsimp (disch := first | omega | (simp only [LR] <;> omega) | fail) only [push_cast, simprocAttr, -Nat.reduceSubDiff]) <;> (repeat (refine (aw_draw (by kernel_rfl)).2 ?_; simp -dsimp (disch := first | omega | (simp only [LR] <;> omega) | fail) only [push_cast, simprocAttr, -Nat.reduceSubDiff]))
end Go.Proofs.YtkkmgjhfjhcdmaaGreatDoor.Mx

/- The law FnExactFetchTick runs. -/
namespace Go.Proofs.YtkkmgjhfjhcdmaaGreatDoor.Mx
set_option linter.all false
open Go Go.RowKit Go.Proofs
set_option linter.unusedSimpArgs false
theorem ftick_okA {f : Fetch} (hf : okFetch f) : okFetch (ftickF f).1 ∧ okL okMessage (ftickF f).2 := by
  by_cases hv : validF f = true
  · exact ftick_ok hf (now_of hv).2.2
  · unfold ftickF
    rw [if_neg hv]
    exact ⟨emFok, ⟨Nat.zero_le _, fun a h => by cases h⟩⟩
def E4 : Env := { T := T0, kp := look [(0, [0]), (1, [1]), (2, [1, 3]), (3, [1, 3]), (4, []), (5, [1]), (6, [1, 4, 5]), (7, [1, 4, 5, 6]), (8, [1, 4, 5, 6, 7, 8]), (9, []), (10, [1, 4, 5, 6, 7, 8]), (11, []), (12, [1, 4, 5, 6, 7, 8]), (13, [1, 4, 5, 6, 7, 8, 9]), (14, [1, 4, 5, 7, 8, 9]), (15, []), (16, [1, 4, 5, 7, 8]), (17, [1, 4, 5, 7, 8, 10]), (18, [1, 4, 5, 7, 8, 10]), (19, [1, 4, 5, 7, 8, 10]), (20, [1, 4, 5, 7, 8, 10, 11]), (21, [1, 4, 5, 7, 8, 10, 11]), (22, []), (23, [1, 4, 5, 7, 8, 10, 11]), (24, [1, 4, 5, 7, 8, 10, 11]), (25, []), (26, [1, 4, 5, 7, 8, 10, 11]), (27, []), (28, [1, 4, 5, 7, 8, 10]), (29, [4, 5, 7, 8, 10, 12, 13]), (30, []), (31, [7, 8, 10]), (32, [7, 8, 10, 11]), (33, [8, 10, 11]), (34, []), (35, [8, 10, 11]), (36, [10, 11]), (37, []), (38, [10, 11]), (39, []), (40, [])], dp := look2 [(10, [[], [], [1], [0, 1, 2], [0, 1, 2, 3]])], md := look3 [(13, 2, [1]), (17, 2, [1]), (18, 2, [1])] }
attribute [local push_cast] E4
set_option maxRecDepth 20000 in
set_option maxHeartbeats 4000000 in
theorem fnExactFetchTick (f : Fetch) (hb : bdFetch f) : Does Tryz.prog 4 [.ag (fetchC false f)] (.sc (.bool true), []) := by
  refine does_of (E := E4) (rs := [.tmp 2]) (lent := []) tOk rfl Tryz.func4 rfl (by decide) rfl rfl (Nat.le_of_ble_eq_true rfl) (Nat.le_of_ble_eq_true rfl) ?_
  (simp -dsimp (disch := first | omega | (simp only [LR] <;> omega) | fail) only [push_cast, simprocAttr, -Nat.reduceSubDiff]) <;> (repeat (refine (aw_draw (by kernel_rfl)).2 ?_; simp -dsimp (disch := first | omega | (simp only [LR] <;> omega) | fail) only [push_cast, simprocAttr, -Nat.reduceSubDiff]))
  refine callC (szFetch_run f _ (by omega) (by omega) hb) ?_
  by_cases h1 : szFetch f 1048576 < 0
  · (simp -dsimp (disch := first | omega | (simp only [h1, LR] <;> omega) | fail) only [push_cast, h1, simprocAttr, -Nat.reduceSubDiff]) <;> (repeat (refine (aw_draw (by kernel_rfl)).2 ?_; simp -dsimp (disch := first | omega | (simp only [h1, LR] <;> omega) | fail) only [push_cast, h1, simprocAttr, -Nat.reduceSubDiff]))
  have hq1 := szFetch_ok f 1048576 (by omega)
  have hf : okFetch f := hq1.2 (by omega)
  have hgo := ftick_okA hf
  have hsp := specFetchTick f hf
  have him := implFetchTick f hf
  obtain ⟨⟨g, l⟩, hg⟩ : ∃ q, q = ftickF f := ⟨_, rfl⟩
  rw [← hg] at hgo hsp him
  obtain ⟨k0, k1⟩ := hgo
  dsimp only at k0 k1 hsp him
  have m0 := scnFetch_le g k0
  have n0 := scnFetch_nn g
  have m1 := cnG_ok (c := cnMessage) (B := 5) (by decide) cnMessage_le k1
  have n1 := cnG_nn (c := cnMessage) cnMessage_nn l
  have hq := scnFetch_le f hf
  have hq0 := scnFetch_nn f
  (simp -dsimp (disch := first | omega | (simp only [LR] <;> omega) | fail) only [push_cast, simprocAttr, -Nat.reduceSubDiff]) <;> (repeat (refine (aw_draw (by kernel_rfl)).2 ?_; simp -dsimp (disch := first | omega | (simp only [LR] <;> omega) | fail) only [push_cast, simprocAttr, -Nat.reduceSubDiff]))
  refine callC (toFetch_run f hf) ?_
  (simp -dsimp (disch := first | omega | (simp only [LR] <;> omega) | fail) only [push_cast, simprocAttr, -Nat.reduceSubDiff]) <;> (repeat (refine (aw_draw (by kernel_rfl)).2 ?_; simp -dsimp (disch := first | omega | (simp only [LR] <;> omega) | fail) only [push_cast, simprocAttr, -Nat.reduceSubDiff]))
  refine callC hsp ?_
  (simp -dsimp (disch := first | omega | (simp only [LR] <;> omega) | fail) only [push_cast, simprocAttr, -Nat.reduceSubDiff]) <;> (repeat (refine (aw_draw (by kernel_rfl)).2 ?_; simp -dsimp (disch := first | omega | (simp only [LR] <;> omega) | fail) only [push_cast, simprocAttr, -Nat.reduceSubDiff]))
  refine callC (toFetch_run f hf) ?_
  (simp -dsimp (disch := first | omega | (simp only [LR] <;> omega) | fail) only [push_cast, simprocAttr, -Nat.reduceSubDiff]) <;> (repeat (refine (aw_draw (by kernel_rfl)).2 ?_; simp -dsimp (disch := first | omega | (simp only [LR] <;> omega) | fail) only [push_cast, simprocAttr, -Nat.reduceSubDiff]))
  refine callC him ?_
  (simp -dsimp (disch := first | omega | (simp only [LR] <;> omega) | fail) only [push_cast, simprocAttr, -Nat.reduceSubDiff]) <;> (repeat (refine (aw_draw (by kernel_rfl)).2 ?_; simp -dsimp (disch := first | omega | (simp only [LR] <;> omega) | fail) only [push_cast, simprocAttr, -Nat.reduceSubDiff]))
  refine callC (eqFetch g g k0) ?_
  (simp -dsimp (disch := first | omega | (simp only [LR] <;> omega) | fail) only [push_cast, simprocAttr, -Nat.reduceSubDiff]) <;> (repeat (refine (aw_draw (by kernel_rfl)).2 ?_; simp -dsimp (disch := first | omega | (simp only [LR] <;> omega) | fail) only [push_cast, simprocAttr, -Nat.reduceSubDiff]))
  refine callC (eqMessageS l l k1) ?_
  (simp -dsimp (disch := first | omega | (simp only [LR] <;> omega) | fail) only [push_cast, simprocAttr, -Nat.reduceSubDiff]) <;> (repeat (refine (aw_draw (by kernel_rfl)).2 ?_; simp -dsimp (disch := first | omega | (simp only [LR] <;> omega) | fail) only [push_cast, simprocAttr, -Nat.reduceSubDiff]))
  refine callC (toFetch_run f hf) ?_
  (simp -dsimp (disch := first | omega | (simp only [LR] <;> omega) | fail) only [push_cast, simprocAttr, -Nat.reduceSubDiff]) <;> (repeat (refine (aw_draw (by kernel_rfl)).2 ?_; simp -dsimp (disch := first | omega | (simp only [LR] <;> omega) | fail) only [push_cast, simprocAttr, -Nat.reduceSubDiff]))
  refine callC (eqFetch f f hf) ?_
  (simp -dsimp (disch := first | omega | (simp only [LR] <;> omega) | fail) only [push_cast, simprocAttr, -Nat.reduceSubDiff]) <;> (repeat (refine (aw_draw (by kernel_rfl)).2 ?_; simp -dsimp (disch := first | omega | (simp only [LR] <;> omega) | fail) only [push_cast, simprocAttr, -Nat.reduceSubDiff]))
  refine callC (markFetch_run f 1 (by omega) (by omega)) ?_
  (simp -dsimp (disch := first | omega | (simp only [smkFetch, smkStore, LR] <;> omega) | fail) only [push_cast, smkFetch, smkStore, simprocAttr, -Nat.reduceSubDiff]) <;> (repeat (refine (aw_draw (by kernel_rfl)).2 ?_; simp -dsimp (disch := first | omega | (simp only [smkFetch, smkStore, LR] <;> omega) | fail) only [push_cast, smkFetch, smkStore, simprocAttr, -Nat.reduceSubDiff]))
  refine callC (eqFetch g g k0) ?_
  (simp -dsimp (disch := first | omega | (simp only [LR] <;> omega) | fail) only [push_cast, simprocAttr, -Nat.reduceSubDiff]) <;> (repeat (refine (aw_draw (by kernel_rfl)).2 ?_; simp -dsimp (disch := first | omega | (simp only [LR] <;> omega) | fail) only [push_cast, simprocAttr, -Nat.reduceSubDiff]))
  refine callC (eqMessageS l l k1) ?_
  (simp -dsimp (disch := first | omega | (simp only [LR] <;> omega) | fail) only [push_cast, simprocAttr, -Nat.reduceSubDiff]) <;> (repeat (refine (aw_draw (by kernel_rfl)).2 ?_; simp -dsimp (disch := first | omega | (simp only [LR] <;> omega) | fail) only [push_cast, simprocAttr, -Nat.reduceSubDiff]))
  refine callC (markFetch_run g 1 (by omega) (by omega)) ?_
  (simp -dsimp (disch := first | omega | (simp only [smkFetch, smkStore, LR] <;> omega) | fail) only [push_cast, smkFetch, smkStore, simprocAttr, -Nat.reduceSubDiff]) <;> (repeat (refine (aw_draw (by kernel_rfl)).2 ?_; simp -dsimp (disch := first | omega | (simp only [smkFetch, smkStore, LR] <;> omega) | fail) only [push_cast, smkFetch, smkStore, simprocAttr, -Nat.reduceSubDiff]))
  refine callC (markMessageS l _ (by omega) (by omega)) ?_
  (simp -dsimp (disch := first | omega | (simp only [LR] <;> omega) | fail) only [push_cast, simprocAttr, -Nat.reduceSubDiff]) <;> (repeat (refine (aw_draw (by kernel_rfl)).2 ?_; simp -dsimp (disch := first | omega | (simp only [LR] <;> omega) | fail) only [push_cast, simprocAttr, -Nat.reduceSubDiff]))
  refine callC (heldFetch_run (smkFetch g 1) 1 (by omega) (by rw [scnmk_Fetch]; omega)) ?_
  rw [hsFetch_mk g 1 (by omega)]
  (simp -dsimp (disch := first | omega | (simp only [LR] <;> omega) | fail) only [push_cast, simprocAttr, -Nat.reduceSubDiff]) <;> (repeat (refine (aw_draw (by kernel_rfl)).2 ?_; simp -dsimp (disch := first | omega | (simp only [LR] <;> omega) | fail) only [push_cast, simprocAttr, -Nat.reduceSubDiff]))
  refine callC (heldMessageS (mkG mkMessage cnMessage l _) (1 + scnFetch g) (by omega) (by rw [cnG_mkG cnmk_Message]; omega)) ?_
  rw [hdG_mkG hdmk_Message cnmk_Message cnMessage_nn l _ (by omega)]
  (simp -dsimp (disch := first | omega | (simp only [LR] <;> omega) | fail) only [push_cast, simprocAttr, -Nat.reduceSubDiff]) <;> (repeat (refine (aw_draw (by kernel_rfl)).2 ?_; simp -dsimp (disch := first | omega | (simp only [LR] <;> omega) | fail) only [push_cast, simprocAttr, -Nat.reduceSubDiff]))
  refine callC (toFetch_run f hf) ?_
  (simp -dsimp (disch := first | omega | (simp only [LR] <;> omega) | fail) only [push_cast, simprocAttr, -Nat.reduceSubDiff]) <;> (repeat (refine (aw_draw (by kernel_rfl)).2 ?_; simp -dsimp (disch := first | omega | (simp only [LR] <;> omega) | fail) only [push_cast, simprocAttr, -Nat.reduceSubDiff]))
  refine callC him ?_
  (simp -dsimp (disch := first | omega | (simp only [LR] <;> omega) | fail) only [push_cast, simprocAttr, -Nat.reduceSubDiff]) <;> (repeat (refine (aw_draw (by kernel_rfl)).2 ?_; simp -dsimp (disch := first | omega | (simp only [LR] <;> omega) | fail) only [push_cast, simprocAttr, -Nat.reduceSubDiff]))
  refine callC (eqFetch g g k0) ?_
  (simp -dsimp (disch := first | omega | (simp only [LR] <;> omega) | fail) only [push_cast, simprocAttr, -Nat.reduceSubDiff]) <;> (repeat (refine (aw_draw (by kernel_rfl)).2 ?_; simp -dsimp (disch := first | omega | (simp only [LR] <;> omega) | fail) only [push_cast, simprocAttr, -Nat.reduceSubDiff]))
  refine callC (eqMessageS l l k1) ?_
  (simp -dsimp (disch := first | omega | (simp only [LR] <;> omega) | fail) only [push_cast, simprocAttr, -Nat.reduceSubDiff]) <;> (repeat (refine (aw_draw (by kernel_rfl)).2 ?_; simp -dsimp (disch := first | omega | (simp only [LR] <;> omega) | fail) only [push_cast, simprocAttr, -Nat.reduceSubDiff]))
  refine callC (heldFetch_run (smkFetch g 1) 1 (by omega) (by rw [scnmk_Fetch]; omega)) ?_
  rw [hsFetch_mk g 1 (by omega)]
  (simp -dsimp (disch := first | omega | (simp only [LR] <;> omega) | fail) only [push_cast, simprocAttr, -Nat.reduceSubDiff]) <;> (repeat (refine (aw_draw (by kernel_rfl)).2 ?_; simp -dsimp (disch := first | omega | (simp only [LR] <;> omega) | fail) only [push_cast, simprocAttr, -Nat.reduceSubDiff]))
  refine callC (heldMessageS (mkG mkMessage cnMessage l _) (1 + scnFetch g) (by omega) (by rw [cnG_mkG cnmk_Message]; omega)) ?_
  rw [hdG_mkG hdmk_Message cnmk_Message cnMessage_nn l _ (by omega)]
  (simp -dsimp (disch := first | omega | (simp only [LR] <;> omega) | fail) only [push_cast, simprocAttr, -Nat.reduceSubDiff]) <;> (repeat (refine (aw_draw (by kernel_rfl)).2 ?_; simp -dsimp (disch := first | omega | (simp only [LR] <;> omega) | fail) only [push_cast, simprocAttr, -Nat.reduceSubDiff]))
end Go.Proofs.YtkkmgjhfjhcdmaaGreatDoor.Mx
