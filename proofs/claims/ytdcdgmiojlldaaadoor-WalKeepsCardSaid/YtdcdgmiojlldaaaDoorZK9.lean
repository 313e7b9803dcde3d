/- packed by slim.py -/
import Derived.Test.YtdcdgmiojlldaaaDoorZK8
/- The functions that the statement reaches, by the big-step reading: printed by gen.py (own). -/
namespace Go.Proofs.YtdcdgmiojlldaaaDoor
open Go Big
set_option linter.unusedVariables false
set_option maxRecDepth 100000
noncomputable def butteryref1_rightOp.code : Code := (Tryd.f71.body).getD .skip
def butteryref1_rightOp.rs : List RV := [.tmp 2]
def butteryref1_rightOp.orc  : Orc := []
def butteryref1_rightOp.ann : Ann := .node .leaf (.node .leaf .leaf)
noncomputable def butteryref1_rightOp.v (n : Nat) : CallF := evF Tryd.prog tt (butteryref1_rightOp.orc) 71 n butteryref1_rightOp.rs 1 butteryref1_rightOp.code butteryref1_rightOp.ann
noncomputable def butteryref1_rightOp (n : Nat) : CallF := butteryref1_rightOp.v n
theorem butteryref1_rightOp_eq (n : Nat) (a0_0 : Int) (a0_1A : Option Addr) (a0_1l : Nat) (a0_1c : Nat) (a0_2A : Option Addr) (a0_2l : Nat) (a0_2c : Nat) (w : World) : butteryref1_rightOp n [(.agg #[(.int .i64 a0_0), (.slice a0_1A a0_1l a0_1c), (.slice a0_2A a0_2l a0_2c)])] w = fin (al w #[(.int .i64 a0_0), (.slice a0_1A a0_1l a0_1c), (.slice a0_2A a0_2l a0_2c)] 30 fun w1 => opt (w1.cell? ⟨w.heap.size, 0, none⟩) fun v2 => tI .i64 v2 fun n3 => cond (n3 == 0) (opt (w1.cell? (Addr.add ⟨w.heap.size, 0, none⟩ 2)) fun v4 => tL v4 fun A5 l6 c7 => cond ((l6 : Int) == 0) (opt (w1.cell? (Addr.add ⟨w.heap.size, 0, none⟩ 1)) fun v8 => tL v8 fun A9 l10 c11 => cond (decide ((l10 : Int) ≥ 1)) (opt (w1.cell? (Addr.add ⟨w.heap.size, 0, none⟩ 1)) fun v12 => tL v12 fun A13 l14 c15 => cond (decide ((l14 : Int) ≤ 256)) (opt (w1.cell? (Addr.add ⟨w.heap.size, 0, none⟩ 2)) fun v16 => tL v16 fun A17 l18 c19 => some ⟨.ret, [(.bool (decide ((l18 : Int) ≤ 4096)))], w1⟩) (some ⟨.ret, [(.bool false)], w1⟩)) (some ⟨.ret, [(.bool false)], w1⟩)) (opt (w1.cell? ⟨w.heap.size, 0, none⟩) fun v20 => tI .i64 v20 fun n21 => cond (n21 == 1) (opt (w1.cell? (Addr.add ⟨w.heap.size, 0, none⟩ 1)) fun v22 => tL v22 fun A23 l24 c25 => cond (decide ((l24 : Int) ≥ 1)) (opt (w1.cell? (Addr.add ⟨w.heap.size, 0, none⟩ 1)) fun v26 => tL v26 fun A27 l28 c29 => cond (decide ((l28 : Int) ≤ 256)) (opt (w1.cell? (Addr.add ⟨w.heap.size, 0, none⟩ 2)) fun v30 => tL v30 fun A31 l32 c33 => some ⟨.ret, [(.bool (decide ((l32 : Int) ≤ 4096)))], w1⟩) (some ⟨.ret, [(.bool false)], w1⟩)) (some ⟨.ret, [(.bool false)], w1⟩)) (some ⟨.ret, [(.bool false)], w1⟩))) (opt (w1.cell? ⟨w.heap.size, 0, none⟩) fun v34 => tI .i64 v34 fun n35 => cond (n35 == 1) (opt (w1.cell? (Addr.add ⟨w.heap.size, 0, none⟩ 1)) fun v36 => tL v36 fun A37 l38 c39 => cond (decide ((l38 : Int) ≥ 1)) (opt (w1.cell? (Addr.add ⟨w.heap.size, 0, none⟩ 1)) fun v40 => tL v40 fun A41 l42 c43 => cond (decide ((l42 : Int) ≤ 256)) (opt (w1.cell? (Addr.add ⟨w.heap.size, 0, none⟩ 2)) fun v44 => tL v44 fun A45 l46 c47 => some ⟨.ret, [(.bool (decide ((l46 : Int) ≤ 4096)))], w1⟩) (some ⟨.ret, [(.bool false)], w1⟩)) (some ⟨.ret, [(.bool false)], w1⟩)) (some ⟨.ret, [(.bool false)], w1⟩))) := by kernel_rfl
theorem butteryref1_rightOp.fn : FnOk Tryd.prog tt 71 Tryd.f71 butteryref1_rightOp.code butteryref1_rightOp.ann butteryref1_rightOp.rs 1 := ⟨by kernel_rfl, by kernel_rfl, by kernel_rfl, by kernel_rfl, by kernel_rfl, by kernel_rfl⟩
theorem butteryref1_rightOp.row (n : Nat) : Row Tryd.prog 71 (butteryref1_rightOp n) := evF_row (n := n) tt_ok OOk.nil mix butteryref1_rightOp.fn
noncomputable def butteryref1_CheckOps.code : Code := (Tryd.f47.body).getD .skip
def butteryref1_CheckOps.rs : List RV := [.tmp 2]
def butteryref1_CheckOps.orc (g71 : CallF) : Orc := [(71, g71)]
def butteryref1_CheckOps.ann : Ann := .node .leaf (.node (.node .leaf (.node (.node .leaf .leaf) .leaf)) (.node (.node .leaf (.jn [] (.lp [0, 3] (.node (.node .leaf (.node .leaf .leaf)) (.node (.nb (.node .leaf (.node (.node .leaf .leaf) .leaf))) .leaf))))) (.node .leaf .leaf)))
noncomputable def butteryref1_CheckOps.v (g71 : CallF) (n : Nat) : CallF := evF Tryd.prog tt (butteryref1_CheckOps.orc g71) 47 n butteryref1_CheckOps.rs 1 butteryref1_CheckOps.code butteryref1_CheckOps.ann
noncomputable def butteryref1_CheckOps (n : Nat) : CallF := butteryref1_CheckOps.v (butteryref1_rightOp n) n
noncomputable def butteryref1_CheckOps.l0.ann : Ann := .node (.node .leaf (.node .leaf .leaf)) (.node (.nb (.node .leaf (.node (.node .leaf .leaf) .leaf))) .leaf)
noncomputable def butteryref1_CheckOps.l0v (g71 : CallF) (n m : Nat) (x0A : Option Addr) (x0l : Nat) (x0c : Nat) (x3 : Int) (w : World) : Option Res := iter (fun e w k => ev2 Tryd.prog tt (butteryref1_CheckOps.orc g71) 47 n butteryref1_CheckOps.rs (dig [1, 1, 0, 1, 0, 0] butteryref1_CheckOps.code) butteryref1_CheckOps.l0.ann [(0, [])] (fun _ _ _ => none) e w k) [0, 3] m [(0, (.slice x0A x0l x0c)), (3, (.int .i64 x3))] w
noncomputable def butteryref1_CheckOps.l0 (n m : Nat) (x0A : Option Addr) (x0l : Nat) (x0c : Nat) (x3 : Int) (w : World) : Option Res := butteryref1_CheckOps.l0v (butteryref1_rightOp n) n m x0A x0l x0c x3 w
theorem butteryref1_CheckOps.l0v_succ (g71 : CallF) (n m : Nat) (x0A : Option Addr) (x0l : Nat) (x0c : Nat) (x3 : Int) (w : World) : butteryref1_CheckOps.l0v g71 n (m + 1) x0A x0l x0c x3 w = (cond (decide (x3 < (x0l : Int))) (ixA x0A x0l x3 3 fun ad1 => opt (w.cell? ad1) fun v2 => tI .i64 v2 fun n3 => opt (w.cell? (Addr.add ad1 1)) fun v4 => tL v4 fun A5 l6 c7 => opt (w.cell? (Addr.add ad1 2)) fun v8 => tL v8 fun A9 l10 c11 => cl (g71 [(.agg #[(.int .i64 n3), (.slice A5 l6 c7), (.slice A9 l10 c11)])] w) fun vs12 w13 => tC vs12 fun v14 cs15 => tB v14 fun b16 => tN cs15 (cond (!b16) (some ⟨.ret, [(.int .i64 1)], w13⟩) (butteryref1_CheckOps.l0v g71 n m x0A x0l x0c (IntKind.i64.wrap (x3 + 1)) w13))) (some ⟨.exit 0, [], w⟩)) := by kernel_rfl
theorem butteryref1_CheckOps.l0_succ (n m : Nat) (x0A : Option Addr) (x0l : Nat) (x0c : Nat) (x3 : Int) (w : World) : butteryref1_CheckOps.l0 n (m + 1) x0A x0l x0c x3 w = (cond (decide (x3 < (x0l : Int))) (ixA x0A x0l x3 3 fun ad1 => opt (w.cell? ad1) fun v2 => tI .i64 v2 fun n3 => opt (w.cell? (Addr.add ad1 1)) fun v4 => tL v4 fun A5 l6 c7 => opt (w.cell? (Addr.add ad1 2)) fun v8 => tL v8 fun A9 l10 c11 => cl (butteryref1_rightOp n [(.agg #[(.int .i64 n3), (.slice A5 l6 c7), (.slice A9 l10 c11)])] w) fun vs12 w13 => tC vs12 fun v14 cs15 => tB v14 fun b16 => tN cs15 (cond (!b16) (some ⟨.ret, [(.int .i64 1)], w13⟩) (butteryref1_CheckOps.l0 n m x0A x0l x0c (IntKind.i64.wrap (x3 + 1)) w13))) (some ⟨.exit 0, [], w⟩)) := butteryref1_CheckOps.l0v_succ (butteryref1_rightOp n) n m x0A x0l x0c x3 w
theorem butteryref1_CheckOps.v_eq (g71 : CallF) (n : Nat) (a0A : Option Addr) (a0l : Nat) (a0c : Nat) (w : World) : butteryref1_CheckOps.v g71 n [(.slice a0A a0l a0c)] w = fin (cond (decide ((a0l : Int) < 1)) (some ⟨.ret, [(.int .i64 3)], w⟩) (cond (decide ((a0l : Int) > 100)) (some ⟨.ret, [(.int .i64 3)], w⟩) (jb 0 (butteryref1_CheckOps.l0v g71 n n a0A a0l a0c 0 w) fun vs17 w18 => tN vs17 (some ⟨.ret, [(.int .i64 0)], w18⟩)))) := by kernel_rfl
theorem butteryref1_CheckOps_eq (n : Nat) (a0A : Option Addr) (a0l : Nat) (a0c : Nat) (w : World) : butteryref1_CheckOps n [(.slice a0A a0l a0c)] w = fin (cond (decide ((a0l : Int) < 1)) (some ⟨.ret, [(.int .i64 3)], w⟩) (cond (decide ((a0l : Int) > 100)) (some ⟨.ret, [(.int .i64 3)], w⟩) (jb 0 (butteryref1_CheckOps.l0 n n a0A a0l a0c 0 w) fun vs17 w18 => tN vs17 (some ⟨.ret, [(.int .i64 0)], w18⟩)))) := butteryref1_CheckOps.v_eq (butteryref1_rightOp n) n a0A a0l a0c w
theorem butteryref1_CheckOps.fn : FnOk Tryd.prog tt 47 Tryd.f47 butteryref1_CheckOps.code butteryref1_CheckOps.ann butteryref1_CheckOps.rs 1 := ⟨by kernel_rfl, by kernel_rfl, by kernel_rfl, by kernel_rfl, by kernel_rfl, by kernel_rfl⟩
theorem butteryref1_CheckOps.row (n : Nat) : Row Tryd.prog 47 (butteryref1_CheckOps n) := evF_row (n := n) tt_ok (.cons (butteryref1_rightOp.row n) OOk.nil) mix butteryref1_CheckOps.fn
noncomputable def butteryref1_numbered.code : Code := (Tryd.f48.body).getD .skip
def butteryref1_numbered.rs : List RV := [.tmp 4]
def butteryref1_numbered.orc  : Orc := []
def butteryref1_numbered.ann : Ann := .node .leaf (.node .leaf .leaf)
noncomputable def butteryref1_numbered.v (n : Nat) : CallF := evF Tryd.prog tt (butteryref1_numbered.orc) 48 n butteryref1_numbered.rs 2 butteryref1_numbered.code butteryref1_numbered.ann
noncomputable def butteryref1_numbered (n : Nat) : CallF := butteryref1_numbered.v n
theorem butteryref1_numbered_eq (n : Nat) (a0 : Int) (a1 : Int) (w : World) : butteryref1_numbered n [(.int .u64 a0), (.int .i64 a1)] w = fin (cond (decide (a0 ≥ 1)) (cond (decide (a0 ≤ 72057594037927935)) (some ⟨.ret, [(.bool (decide ((IntKind.u64.wrap (IntKind.i64.wrap (a1 - 1))) ≤ (IntKind.u64.wrap (72057594037927935 - a0)))))], w⟩) (some ⟨.ret, [(.bool false)], w⟩)) (some ⟨.ret, [(.bool false)], w⟩)) := by kernel_rfl
theorem butteryref1_numbered.fn : FnOk Tryd.prog tt 48 Tryd.f48 butteryref1_numbered.code butteryref1_numbered.ann butteryref1_numbered.rs 2 := ⟨by kernel_rfl, by kernel_rfl, by kernel_rfl, by kernel_rfl, by kernel_rfl, by kernel_rfl⟩
theorem butteryref1_numbered.row (n : Nat) : Row Tryd.prog 48 (butteryref1_numbered n) := evF_row (n := n) tt_ok OOk.nil mix butteryref1_numbered.fn
noncomputable def butteryref1_Low.code : Code := (Tryd.f49.body).getD .skip
def butteryref1_Low.rs : List RV := [.tmp 6]
def butteryref1_Low.orc  : Orc := []
def butteryref1_Low.ann : Ann := .node .leaf (.node .leaf (.node (.node .leaf (.jn [(7, (.lf .sl))] (.lp [1, 2, 7, 8] (.node (.node .leaf (.node .leaf .leaf)) (.node (.nb .leaf) .leaf))))) (.node .leaf .leaf)))
noncomputable def butteryref1_Low.v (n : Nat) : CallF := evF Tryd.prog tt (butteryref1_Low.orc) 49 n butteryref1_Low.rs 3 butteryref1_Low.code butteryref1_Low.ann
noncomputable def butteryref1_Low (n : Nat) : CallF := butteryref1_Low.v n
noncomputable def butteryref1_Low.l0.ann : Ann := .node (.node .leaf (.node .leaf .leaf)) (.node (.nb .leaf) .leaf)
noncomputable def butteryref1_Low.l0v (n m : Nat) (x1 : Int) (x2 : Int) (x7A : Option Addr) (x7l : Nat) (x7c : Nat) (x8 : Int) (w : World) : Option Res := iter (fun e w k => ev2 Tryd.prog tt (butteryref1_Low.orc) 49 n butteryref1_Low.rs (dig [1, 1, 0, 1, 0, 0] butteryref1_Low.code) butteryref1_Low.l0.ann [(0, [7])] (fun _ _ _ => none) e w k) [1, 2, 7, 8] m [(1, (.int .u64 x1)), (2, (.int .i64 x2)), (7, (.slice x7A x7l x7c)), (8, (.int .i64 x8))] w
noncomputable def butteryref1_Low.l0 (n m : Nat) (x1 : Int) (x2 : Int) (x7A : Option Addr) (x7l : Nat) (x7c : Nat) (x8 : Int) (w : World) : Option Res := butteryref1_Low.l0v n m x1 x2 x7A x7l x7c x8 w
theorem butteryref1_Low.l0_succ (n m : Nat) (x1 : Int) (x2 : Int) (x7A : Option Addr) (x7l : Nat) (x7c : Nat) (x8 : Int) (w : World) : butteryref1_Low.l0 n (m + 1) x1 x2 x7A x7l x7c x8 w = (cond (decide (x8 < x2)) (if (IntKind.u64.wrap (IntKind.i64.wrap (8 * x8))) < 0 then none else (al w #[(.int .u8 (IntKind.u8.wrap (bits .and .u64 (Int.fdiv x1 (2 ^ (min (Int.toNat (IntKind.u64.wrap (IntKind.i64.wrap (8 * x8)))) 64))) 255)))] 5 fun w6 => rn Tryd.prog (Builtin.append_ #[28, 28] 28 #[(.slice x7A x7l x7c), (.slice (some ⟨w.heap.size, 0, none⟩) 1 1)]) w6 fun v10 w11 => tL v10 fun A7 l8 c9 => butteryref1_Low.l0 n m x1 x2 A7 l8 c9 (IntKind.i64.wrap (x8 + 1)) w11)) (some ⟨.exit 0, [(.slice x7A x7l x7c)], w⟩)) := by kernel_rfl
theorem butteryref1_Low_eq (n : Nat) (a0A : Option Addr) (a0l : Nat) (a0c : Nat) (a1 : Int) (a2 : Int) (w : World) : butteryref1_Low n [(.slice a0A a0l a0c), (.int .u64 a1), (.int .i64 a2)] w = fin (rn Tryd.prog (Builtin.append_ #[28, 28] 28 #[(.slice none 0 0), (.slice a0A a0l a0c)]) w fun v4 w5 => tL v4 fun A1 l2 c3 => jb 0 (butteryref1_Low.l0 n n a1 a2 A1 l2 c3 0 w5) fun vs12 w13 => tC vs12 fun v14 cs15 => tL v14 fun A16 l17 c18 => tN cs15 (some ⟨.ret, [(.slice A16 l17 c18)], w13⟩)) := by kernel_rfl
theorem butteryref1_Low.fn : FnOk Tryd.prog tt 49 Tryd.f49 butteryref1_Low.code butteryref1_Low.ann butteryref1_Low.rs 3 := ⟨by kernel_rfl, by kernel_rfl, by kernel_rfl, by kernel_rfl, by kernel_rfl, by kernel_rfl⟩
theorem butteryref1_Low.row (n : Nat) : Row Tryd.prog 49 (butteryref1_Low n) := evF_row (n := n) tt_ok OOk.nil mix butteryref1_Low.fn
noncomputable def butteryref1_PutVar.code : Code := (Tryd.f50.body).getD .skip
def butteryref1_PutVar.rs : List RV := [.tmp 4]
def butteryref1_PutVar.orc  : Orc := []
def butteryref1_PutVar.ann : Ann := .node .leaf (.node .leaf (.node (.jn [(1, (.lf (.int .u64))), (5, (.lf .sl))] (.lp [1, 5] (.node (.node .leaf (.node .leaf .leaf)) (.nb (.node .leaf .leaf))))) (.node .leaf .leaf)))
noncomputable def butteryref1_PutVar.v (n : Nat) : CallF := evF Tryd.prog tt (butteryref1_PutVar.orc) 50 n butteryref1_PutVar.rs 2 butteryref1_PutVar.code butteryref1_PutVar.ann
noncomputable def butteryref1_PutVar (n : Nat) : CallF := butteryref1_PutVar.v n
noncomputable def butteryref1_PutVar.l0.ann : Ann := .node (.node .leaf (.node .leaf .leaf)) (.nb (.node .leaf .leaf))
noncomputable def butteryref1_PutVar.l0v (n m : Nat) (x1 : Int) (x5A : Option Addr) (x5l : Nat) (x5c : Nat) (w : World) : Option Res := iter (fun e w k => ev2 Tryd.prog tt (butteryref1_PutVar.orc) 50 n butteryref1_PutVar.rs (dig [1, 1, 0, 0, 0] butteryref1_PutVar.code) butteryref1_PutVar.l0.ann [(0, [1, 5])] (fun _ _ _ => none) e w k) [1, 5] m [(1, (.int .u64 x1)), (5, (.slice x5A x5l x5c))] w
noncomputable def butteryref1_PutVar.l0 (n m : Nat) (x1 : Int) (x5A : Option Addr) (x5l : Nat) (x5c : Nat) (w : World) : Option Res := butteryref1_PutVar.l0v n m x1 x5A x5l x5c w
theorem butteryref1_PutVar.l0_succ (n m : Nat) (x1 : Int) (x5A : Option Addr) (x5l : Nat) (x5c : Nat) (w : World) : butteryref1_PutVar.l0 n (m + 1) x1 x5A x5l x5c w = (cond (decide (x1 ≥ 128)) (al w #[(.int .u8 (IntKind.u8.wrap (bits .or .u64 (bits .and .u64 x1 127) 128)))] 5 fun w6 => rn Tryd.prog (Builtin.append_ #[28, 28] 28 #[(.slice x5A x5l x5c), (.slice (some ⟨w.heap.size, 0, none⟩) 1 1)]) w6 fun v10 w11 => tL v10 fun A7 l8 c9 => butteryref1_PutVar.l0 n m (Int.fdiv x1 (2 ^ 7)) A7 l8 c9 w11) (some ⟨.exit 0, [(.int .u64 x1), (.slice x5A x5l x5c)], w⟩)) := by kernel_rfl
theorem butteryref1_PutVar_eq (n : Nat) (a0A : Option Addr) (a0l : Nat) (a0c : Nat) (a1 : Int) (w : World) : butteryref1_PutVar n [(.slice a0A a0l a0c), (.int .u64 a1)] w = fin (rn Tryd.prog (Builtin.append_ #[28, 28] 28 #[(.slice none 0 0), (.slice a0A a0l a0c)]) w fun v4 w5 => tL v4 fun A1 l2 c3 => jb 0 (butteryref1_PutVar.l0 n n a1 A1 l2 c3 w5) fun vs12 w13 => tC vs12 fun v14 cs15 => tI .u64 v14 fun n16 => tC cs15 fun v17 cs18 => tL v17 fun A19 l20 c21 => tN cs18 (al w13 #[(.int .u8 (IntKind.u8.wrap n16))] 5 fun w22 => rn Tryd.prog (Builtin.append_ #[28, 28] 28 #[(.slice A19 l20 c21), (.slice (some ⟨w13.heap.size, 0, none⟩) 1 1)]) w22 fun v26 w27 => tL v26 fun A23 l24 c25 => some ⟨.ret, [(.slice A23 l24 c25)], w27⟩)) := by kernel_rfl
theorem butteryref1_PutVar.fn : FnOk Tryd.prog tt 50 Tryd.f50 butteryref1_PutVar.code butteryref1_PutVar.ann butteryref1_PutVar.rs 2 := ⟨by kernel_rfl, by kernel_rfl, by kernel_rfl, by kernel_rfl, by kernel_rfl, by kernel_rfl⟩
theorem butteryref1_PutVar.row (n : Nat) : Row Tryd.prog 50 (butteryref1_PutVar n) := evF_row (n := n) tt_ok OOk.nil mix butteryref1_PutVar.fn
noncomputable def butteryref1_BatchBytes.code : Code := (Tryd.f27.body).getD .skip
def butteryref1_BatchBytes.rs : List RV := [.tmp 2, .tmp 3]
def butteryref1_BatchBytes.orc (g47 : CallF) (g48 : CallF) (g49 : CallF) (g50 : CallF) : Orc := [(47, g47), (48, g48), (49, g49), (50, g50)]
def butteryref1_BatchBytes.ann : Ann := .node .leaf (.node .leaf (.node (.node .leaf (.node (.node .leaf .leaf) .leaf)) (.node (.node .leaf (.node (.node .leaf .leaf) .leaf)) (.node (.rg [0, 1, 3, 0, 8, 24, 56, 127, 255]) (.node (.node .leaf (.jn [(5, (.lf .sl))] (.lp [1, 5, 6] (.node (.node .leaf (.node .leaf .leaf)) (.node (.jn [(1, (.lf .adr)), (5, (.lf .sl)), (6, (.lf (.int .i64)))] (.node .leaf (.node .leaf (.node (.rg [0, 0, 2, 6, 14, 31, 0, 64, 255, 511]) (.node .leaf (.node (.rg [0, 0, 2, 6, 14, 31, 0, 64, 255, 511]) .leaf)))))) .leaf))))) (.node .leaf .leaf))))))
noncomputable def butteryref1_BatchBytes.v (g47 : CallF) (g48 : CallF) (g49 : CallF) (g50 : CallF) (n : Nat) : CallF := evF Tryd.prog tt (butteryref1_BatchBytes.orc g47 g48 g49 g50) 27 n butteryref1_BatchBytes.rs 1 butteryref1_BatchBytes.code butteryref1_BatchBytes.ann
noncomputable def butteryref1_BatchBytes (n : Nat) : CallF := butteryref1_BatchBytes.v (butteryref1_CheckOps n) (butteryref1_numbered n) (butteryref1_Low n) (butteryref1_PutVar n) n
noncomputable def butteryref1_BatchBytes.l0.ann : Ann := .node (.node .leaf (.node .leaf .leaf)) (.node (.jn [(1, (.lf .adr)), (5, (.lf .sl)), (6, (.lf (.int .i64)))] (.node .leaf (.node .leaf (.node (.rg [0, 0, 2, 6, 14, 31, 0, 64, 255, 511]) (.node .leaf (.node (.rg [0, 0, 2, 6, 14, 31, 0, 64, 255, 511]) .leaf)))))) .leaf)
noncomputable def butteryref1_BatchBytes.l0v (g47 : CallF) (g48 : CallF) (g49 : CallF) (g50 : CallF) (n m : Nat) (x1 : Addr) (x5A : Option Addr) (x5l : Nat) (x5c : Nat) (x6 : Int) (w : World) : Option Res := iter (fun e w k => ev2 Tryd.prog tt (butteryref1_BatchBytes.orc g47 g48 g49 g50) 27 n butteryref1_BatchBytes.rs (dig [1, 1, 1, 1, 1, 0, 1, 0, 0] butteryref1_BatchBytes.code) butteryref1_BatchBytes.l0.ann [(0, [5])] (fun _ _ _ => none) e w k) [1, 5, 6] m [(1, (.pointer (some x1))), (5, (.slice x5A x5l x5c)), (6, (.int .i64 x6))] w
noncomputable def butteryref1_BatchBytes.l0 (n m : Nat) (x1 : Addr) (x5A : Option Addr) (x5l : Nat) (x5c : Nat) (x6 : Int) (w : World) : Option Res := butteryref1_BatchBytes.l0v (butteryref1_CheckOps n) (butteryref1_numbered n) (butteryref1_Low n) (butteryref1_PutVar n) n m x1 x5A x5l x5c x6 w
theorem butteryref1_BatchBytes.l0v_succ (g47 : CallF) (g48 : CallF) (g49 : CallF) (g50 : CallF) (n m : Nat) (x1 : Addr) (x5A : Option Addr) (x5l : Nat) (x5c : Nat) (x6 : Int) (w : World) : butteryref1_BatchBytes.l0v g47 g48 g49 g50 n (m + 1) x1 x5A x5l x5c x6 w = (opt (w.cell? (Addr.add x1 1)) fun v42 => tL v42 fun A43 l44 c45 => cond (decide (x6 < (l44 : Int))) (jb 1 (opt (w.cell? (Addr.add x1 1)) fun v46 => tL v46 fun A47 l48 c49 => ixA A47 l48 x6 3 fun ad50 => opt (w.cell? ad50) fun v51 => tI .i64 v51 fun n52 => opt (w.cell? (Addr.add ad50 1)) fun v53 => tL v53 fun A54 l55 c56 => opt (w.cell? (Addr.add ad50 2)) fun v57 => tL v57 fun A58 l59 c60 => al w #[(.int .i64 0), (.slice none 0 0), (.slice none 0 0)] 30 fun w61 => stC w61 ⟨w.heap.size, 0, none⟩ (.int .i64 n52) fun w62 => stC w62 (Addr.add ⟨w.heap.size, 0, none⟩ 1) (.slice A54 l55 c56) fun w63 => stC w63 (Addr.add ⟨w.heap.size, 0, none⟩ 2) (.slice A58 l59 c60) fun w64 => opt (w64.cell? ⟨w.heap.size, 0, none⟩) fun v65 => tI .i64 v65 fun n66 => al w64 #[(.int .u8 (IntKind.u8.wrap n66))] 5 fun w67 => rn Tryd.prog (Builtin.append_ #[28, 28] 28 #[(.slice x5A x5l x5c), (.slice (some ⟨w64.heap.size, 0, none⟩) 1 1)]) w67 fun v71 w72 => tL v71 fun A68 l69 c70 => opt (w72.drew.cell? (Addr.add ⟨w.heap.size, 0, none⟩ 1)) fun v73 => tL v73 fun A74 l75 c76 => cl (g50 [(.slice A68 l69 c70), (.int .u64 (IntKind.u64.wrap (l75 : Int)))] w72.drew) fun vs77 w78 => tC vs77 fun v79 cs80 => tL v79 fun A81 l82 c83 => tN cs80 (opt (w78.cell? (Addr.add ⟨w.heap.size, 0, none⟩ 1)) fun v84 => tL v84 fun A85 l86 c87 => ck (opt (w72.drew.cell? (Addr.add ⟨w.heap.size, 0, none⟩ 1)) fun v119 => tL v119 fun A120 l121 c122 => some (.slice A120 l121 c122)) (.slice A85 l86 c87) (rn Tryd.prog (Builtin.append_ #[28, 28] 28 #[(.slice A81 l82 c83), (.slice A85 l86 c87)]) w78 fun v91 w92 => tL v91 fun A88 l89 c90 => opt (w92.cell? ⟨w.heap.size, 0, none⟩) fun v93 => tI .i64 v93 fun n94 => cond (n94 == 1) (opt (w92.drew.cell? (Addr.add ⟨w.heap.size, 0, none⟩ 2)) fun v95 => tL v95 fun A96 l97 c98 => cl (g50 [(.slice A88 l89 c90), (.int .u64 (IntKind.u64.wrap (l97 : Int)))] w92.drew) fun vs99 w100 => tC vs99 fun v101 cs102 => tL v101 fun A103 l104 c105 => tN cs102 (opt (w100.cell? (Addr.add ⟨w.heap.size, 0, none⟩ 2)) fun v106 => tL v106 fun A107 l108 c109 => ck (opt (w92.drew.cell? (Addr.add ⟨w.heap.size, 0, none⟩ 2)) fun v115 => tL v115 fun A116 l117 c118 => some (.slice A116 l117 c118)) (.slice A107 l108 c109) (rn Tryd.prog (Builtin.append_ #[28, 28] 28 #[(.slice A103 l104 c105), (.slice A107 l108 c109)]) w100 fun v113 w114 => tL v113 fun A110 l111 c112 => some ⟨.norm, [(.pointer (some x1)), (.slice A110 l111 c112), (.int .i64 x6)], w114⟩))) (some ⟨.norm, [(.pointer (some x1)), (.slice A88 l89 c90), (.int .i64 x6)], w92⟩)))) fun vs123 w124 => tC vs123 fun v125 cs126 => tD v125 fun ad127 => tC cs126 fun v128 cs129 => tL v128 fun A130 l131 c132 => tC cs129 fun v133 cs134 => tI .i64 v133 fun n135 => tN cs134 (butteryref1_BatchBytes.l0v g47 g48 g49 g50 n m ad127 A130 l131 c132 (IntKind.i64.wrap (n135 + 1)) w124)) (some ⟨.exit 0, [(.slice x5A x5l x5c)], w⟩)) := by kernel_rfl
theorem butteryref1_BatchBytes.l0_succ (n m : Nat) (x1 : Addr) (x5A : Option Addr) (x5l : Nat) (x5c : Nat) (x6 : Int) (w : World) : butteryref1_BatchBytes.l0 n (m + 1) x1 x5A x5l x5c x6 w = (opt (w.cell? (Addr.add x1 1)) fun v42 => tL v42 fun A43 l44 c45 => cond (decide (x6 < (l44 : Int))) (jb 1 (opt (w.cell? (Addr.add x1 1)) fun v46 => tL v46 fun A47 l48 c49 => ixA A47 l48 x6 3 fun ad50 => opt (w.cell? ad50) fun v51 => tI .i64 v51 fun n52 => opt (w.cell? (Addr.add ad50 1)) fun v53 => tL v53 fun A54 l55 c56 => opt (w.cell? (Addr.add ad50 2)) fun v57 => tL v57 fun A58 l59 c60 => al w #[(.int .i64 0), (.slice none 0 0), (.slice none 0 0)] 30 fun w61 => stC w61 ⟨w.heap.size, 0, none⟩ (.int .i64 n52) fun w62 => stC w62 (Addr.add ⟨w.heap.size, 0, none⟩ 1) (.slice A54 l55 c56) fun w63 => stC w63 (Addr.add ⟨w.heap.size, 0, none⟩ 2) (.slice A58 l59 c60) fun w64 => opt (w64.cell? ⟨w.heap.size, 0, none⟩) fun v65 => tI .i64 v65 fun n66 => al w64 #[(.int .u8 (IntKind.u8.wrap n66))] 5 fun w67 => rn Tryd.prog (Builtin.append_ #[28, 28] 28 #[(.slice x5A x5l x5c), (.slice (some ⟨w64.heap.size, 0, none⟩) 1 1)]) w67 fun v71 w72 => tL v71 fun A68 l69 c70 => opt (w72.drew.cell? (Addr.add ⟨w.heap.size, 0, none⟩ 1)) fun v73 => tL v73 fun A74 l75 c76 => cl (butteryref1_PutVar n [(.slice A68 l69 c70), (.int .u64 (IntKind.u64.wrap (l75 : Int)))] w72.drew) fun vs77 w78 => tC vs77 fun v79 cs80 => tL v79 fun A81 l82 c83 => tN cs80 (opt (w78.cell? (Addr.add ⟨w.heap.size, 0, none⟩ 1)) fun v84 => tL v84 fun A85 l86 c87 => ck (opt (w72.drew.cell? (Addr.add ⟨w.heap.size, 0, none⟩ 1)) fun v119 => tL v119 fun A120 l121 c122 => some (.slice A120 l121 c122)) (.slice A85 l86 c87) (rn Tryd.prog (Builtin.append_ #[28, 28] 28 #[(.slice A81 l82 c83), (.slice A85 l86 c87)]) w78 fun v91 w92 => tL v91 fun A88 l89 c90 => opt (w92.cell? ⟨w.heap.size, 0, none⟩) fun v93 => tI .i64 v93 fun n94 => cond (n94 == 1) (opt (w92.drew.cell? (Addr.add ⟨w.heap.size, 0, none⟩ 2)) fun v95 => tL v95 fun A96 l97 c98 => cl (butteryref1_PutVar n [(.slice A88 l89 c90), (.int .u64 (IntKind.u64.wrap (l97 : Int)))] w92.drew) fun vs99 w100 => tC vs99 fun v101 cs102 => tL v101 fun A103 l104 c105 => tN cs102 (opt (w100.cell? (Addr.add ⟨w.heap.size, 0, none⟩ 2)) fun v106 => tL v106 fun A107 l108 c109 => ck (opt (w92.drew.cell? (Addr.add ⟨w.heap.size, 0, none⟩ 2)) fun v115 => tL v115 fun A116 l117 c118 => some (.slice A116 l117 c118)) (.slice A107 l108 c109) (rn Tryd.prog (Builtin.append_ #[28, 28] 28 #[(.slice A103 l104 c105), (.slice A107 l108 c109)]) w100 fun v113 w114 => tL v113 fun A110 l111 c112 => some ⟨.norm, [(.pointer (some x1)), (.slice A110 l111 c112), (.int .i64 x6)], w114⟩))) (some ⟨.norm, [(.pointer (some x1)), (.slice A88 l89 c90), (.int .i64 x6)], w92⟩)))) fun vs123 w124 => tC vs123 fun v125 cs126 => tD v125 fun ad127 => tC cs126 fun v128 cs129 => tL v128 fun A130 l131 c132 => tC cs129 fun v133 cs134 => tI .i64 v133 fun n135 => tN cs134 (butteryref1_BatchBytes.l0 n m ad127 A130 l131 c132 (IntKind.i64.wrap (n135 + 1)) w124)) (some ⟨.exit 0, [(.slice x5A x5l x5c)], w⟩)) := butteryref1_BatchBytes.l0v_succ (butteryref1_CheckOps n) (butteryref1_numbered n) (butteryref1_Low n) (butteryref1_PutVar n) n m x1 x5A x5l x5c x6 w
theorem butteryref1_BatchBytes.v_eq (g47 : CallF) (g48 : CallF) (g49 : CallF) (g50 : CallF) (n : Nat) (a0_0 : Int) (a0_1A : Option Addr) (a0_1l : Nat) (a0_1c : Nat) (w : World) : butteryref1_BatchBytes.v g47 g48 g49 g50 n [(.agg #[(.int .u64 a0_0), (.slice a0_1A a0_1l a0_1c)])] w = fin (al w #[(.int .u64 a0_0), (.slice a0_1A a0_1l a0_1c)] 33 fun w1 => opt (w1.cell? (Addr.add ⟨w.heap.size, 0, none⟩ 1)) fun v2 => tL v2 fun A3 l4 c5 => cl (g47 [(.slice A3 l4 c5)] w1) fun vs6 w7 => tC vs6 fun v8 cs9 => tI .i64 v8 fun n10 => tN cs9 (cond (n10 != 0) (some ⟨.ret, [(.slice none 0 0), (.int .i64 n10)], w7⟩) (opt (w7.cell? ⟨w.heap.size, 0, none⟩) fun v11 => tI .u64 v11 fun n12 => opt (w7.cell? (Addr.add ⟨w.heap.size, 0, none⟩ 1)) fun v13 => tL v13 fun A14 l15 c16 => cl (g48 [(.int .u64 n12), (.int .i64 (l15 : Int))] w7) fun vs17 w18 => tC vs17 fun v19 cs20 => tB v19 fun b21 => tN cs20 (cond (!b21) (some ⟨.ret, [(.slice none 0 0), (.int .i64 1)], w18⟩) (opt (w18.drew.cell? ⟨w.heap.size, 0, none⟩) fun v22 => tI .u64 v22 fun n23 => cl (g49 [(.slice none 0 0), (.int .u64 n23), (.int .i64 8)] w18.drew) fun vs24 w25 => tC vs24 fun v26 cs27 => tL v26 fun A28 l29 c30 => tN cs27 (opt (w25.cell? (Addr.add ⟨w.heap.size, 0, none⟩ 1)) fun v31 => tL v31 fun A32 l33 c34 => ck (opt (w18.drew.cell? (Addr.add ⟨w.heap.size, 0, none⟩ 1)) fun v143 => tL v143 fun A144 l145 c146 => some (.slice A144 l145 c146)) (.slice A32 l33 c34) (ck (some (.int .u64 (IntKind.u64.wrap (l33 : Int)))) (.int .u64 (IntKind.u64.wrap (l33 : Int))) (cl (g49 [(.slice A28 l29 c30), (.int .u64 (IntKind.u64.wrap (l33 : Int))), (.int .i64 4)] w25) fun vs35 w36 => tC vs35 fun v37 cs38 => tL v37 fun A39 l40 c41 => tN cs38 (jb 0 (butteryref1_BatchBytes.l0v g47 g48 g49 g50 n n ⟨w.heap.size, 0, none⟩ A39 l40 c41 0 w36) fun vs136 w137 => tC vs136 fun v138 cs139 => tL v138 fun A140 l141 c142 => tN cs139 (some ⟨.ret, [(.slice A140 l141 c142), (.int .i64 0)], w137⟩)))))))))) := by kernel_rfl
theorem butteryref1_BatchBytes_eq (n : Nat) (a0_0 : Int) (a0_1A : Option Addr) (a0_1l : Nat) (a0_1c : Nat) (w : World) : butteryref1_BatchBytes n [(.agg #[(.int .u64 a0_0), (.slice a0_1A a0_1l a0_1c)])] w = fin (al w #[(.int .u64 a0_0), (.slice a0_1A a0_1l a0_1c)] 33 fun w1 => opt (w1.cell? (Addr.add ⟨w.heap.size, 0, none⟩ 1)) fun v2 => tL v2 fun A3 l4 c5 => cl (butteryref1_CheckOps n [(.slice A3 l4 c5)] w1) fun vs6 w7 => tC vs6 fun v8 cs9 => tI .i64 v8 fun n10 => tN cs9 (cond (n10 != 0) (some ⟨.ret, [(.slice none 0 0), (.int .i64 n10)], w7⟩) (opt (w7.cell? ⟨w.heap.size, 0, none⟩) fun v11 => tI .u64 v11 fun n12 => opt (w7.cell? (Addr.add ⟨w.heap.size, 0, none⟩ 1)) fun v13 => tL v13 fun A14 l15 c16 => cl (butteryref1_numbered n [(.int .u64 n12), (.int .i64 (l15 : Int))] w7) fun vs17 w18 => tC vs17 fun v19 cs20 => tB v19 fun b21 => tN cs20 (cond (!b21) (some ⟨.ret, [(.slice none 0 0), (.int .i64 1)], w18⟩) (opt (w18.drew.cell? ⟨w.heap.size, 0, none⟩) fun v22 => tI .u64 v22 fun n23 => cl (butteryref1_Low n [(.slice none 0 0), (.int .u64 n23), (.int .i64 8)] w18.drew) fun vs24 w25 => tC vs24 fun v26 cs27 => tL v26 fun A28 l29 c30 => tN cs27 (opt (w25.cell? (Addr.add ⟨w.heap.size, 0, none⟩ 1)) fun v31 => tL v31 fun A32 l33 c34 => ck (opt (w18.drew.cell? (Addr.add ⟨w.heap.size, 0, none⟩ 1)) fun v143 => tL v143 fun A144 l145 c146 => some (.slice A144 l145 c146)) (.slice A32 l33 c34) (ck (some (.int .u64 (IntKind.u64.wrap (l33 : Int)))) (.int .u64 (IntKind.u64.wrap (l33 : Int))) (cl (butteryref1_Low n [(.slice A28 l29 c30), (.int .u64 (IntKind.u64.wrap (l33 : Int))), (.int .i64 4)] w25) fun vs35 w36 => tC vs35 fun v37 cs38 => tL v37 fun A39 l40 c41 => tN cs38 (jb 0 (butteryref1_BatchBytes.l0 n n ⟨w.heap.size, 0, none⟩ A39 l40 c41 0 w36) fun vs136 w137 => tC vs136 fun v138 cs139 => tL v138 fun A140 l141 c142 => tN cs139 (some ⟨.ret, [(.slice A140 l141 c142), (.int .i64 0)], w137⟩)))))))))) := butteryref1_BatchBytes.v_eq (butteryref1_CheckOps n) (butteryref1_numbered n) (butteryref1_Low n) (butteryref1_PutVar n) n a0_0 a0_1A a0_1l a0_1c w
theorem butteryref1_BatchBytes.fn : FnOk Tryd.prog tt 27 Tryd.f27 butteryref1_BatchBytes.code butteryref1_BatchBytes.ann butteryref1_BatchBytes.rs 1 := ⟨by kernel_rfl, by kernel_rfl, by kernel_rfl, by kernel_rfl, by kernel_rfl, by kernel_rfl⟩
theorem butteryref1_BatchBytes.row (n : Nat) : Row Tryd.prog 27 (butteryref1_BatchBytes n) := evF_row (n := n) tt_ok (.cons (butteryref1_CheckOps.row n) (.cons (butteryref1_numbered.row n) (.cons (butteryref1_Low.row n) (.cons (butteryref1_PutVar.row n) OOk.nil)))) mix butteryref1_BatchBytes.fn
noncomputable def butteryref1_Mask.code : Code := (Tryd.f80.body).getD .skip
def butteryref1_Mask.rs : List RV := [.tmp 2]
def butteryref1_Mask.orc  : Orc := []
def butteryref1_Mask.ann : Ann := .node .leaf (.node .leaf .leaf)
noncomputable def butteryref1_Mask.v (n : Nat) : CallF := evF Tryd.prog tt (butteryref1_Mask.orc) 80 n butteryref1_Mask.rs 1 butteryref1_Mask.code butteryref1_Mask.ann
noncomputable def butteryref1_Mask (n : Nat) : CallF := butteryref1_Mask.v n
theorem butteryref1_Mask_eq (n : Nat) (a0 : Int) (w : World) : butteryref1_Mask n [(.int .u32 a0)] w = fin (some ⟨.ret, [(.int .u32 (IntKind.u32.wrap ((bits .or .u32 (Int.fdiv a0 (2 ^ 15)) (IntKind.u32.wrap (a0 * 2 ^ 17))) + 2726488792)))], w⟩) := by kernel_rfl
noncomputable def butteryref1_step.code : Code := (Tryd.f93.body).getD .skip
def butteryref1_step.rs : List RV := [.tmp 2]
def butteryref1_step.orc  : Orc := []
def butteryref1_step.ann : Ann := .node .leaf (.node (.node .leaf (.jn [(0, (.lf (.int .u32)))] (.lp [0, 3] (.node (.node .leaf (.node .leaf .leaf)) (.node (.jn [(0, (.lf (.int .u32))), (3, (.lf (.int .i64)))] (.node .leaf (.node .leaf .leaf))) .leaf))))) (.node .leaf .leaf))
noncomputable def butteryref1_step.v (n : Nat) : CallF := evF Tryd.prog tt (butteryref1_step.orc) 93 n butteryref1_step.rs 1 butteryref1_step.code butteryref1_step.ann
noncomputable def butteryref1_step (n : Nat) : CallF := butteryref1_step.v n
noncomputable def butteryref1_step.l0.ann : Ann := .node (.node .leaf (.node .leaf .leaf)) (.node (.jn [(0, (.lf (.int .u32))), (3, (.lf (.int .i64)))] (.node .leaf (.node .leaf .leaf))) .leaf)
noncomputable def butteryref1_step.l0v (n m : Nat) (x0 : Int) (x3 : Int) (w : World) : Option Res := iter (fun e w k => ev2 Tryd.prog tt (butteryref1_step.orc) 93 n butteryref1_step.rs (dig [1, 0, 1, 0, 0] butteryref1_step.code) butteryref1_step.l0.ann [(0, [0])] (fun _ _ _ => none) e w k) [0, 3] m [(0, (.int .u32 x0)), (3, (.int .i64 x3))] w
noncomputable def butteryref1_step.l0 (n m : Nat) (x0 : Int) (x3 : Int) (w : World) : Option Res := butteryref1_step.l0v n m x0 x3 w
theorem butteryref1_step.l0_succ (n m : Nat) (x0 : Int) (x3 : Int) (w : World) : butteryref1_step.l0 n (m + 1) x0 x3 w = (cond (decide (x3 < 8)) (jb 1 (cond ((bits .and .u32 x0 1) == 1) (some ⟨.norm, [(.int .u32 (bits .xor .u32 (Int.fdiv x0 (2 ^ 1)) 2197175160)), (.int .i64 x3)], w⟩) (some ⟨.norm, [(.int .u32 (Int.fdiv x0 (2 ^ 1))), (.int .i64 x3)], w⟩)) fun vs1 w2 => tC vs1 fun v3 cs4 => tI .u32 v3 fun n5 => tC cs4 fun v6 cs7 => tI .i64 v6 fun n8 => tN cs7 (butteryref1_step.l0 n m n5 (IntKind.i64.wrap (n8 + 1)) w2)) (some ⟨.exit 0, [(.int .u32 x0)], w⟩)) := by kernel_rfl
theorem butteryref1_step_eq (n : Nat) (a0 : Int) (w : World) : butteryref1_step n [(.int .u32 a0)] w = fin (jb 0 (butteryref1_step.l0 n n a0 0 w) fun vs9 w10 => tC vs9 fun v11 cs12 => tI .u32 v11 fun n13 => tN cs12 (some ⟨.ret, [(.int .u32 n13)], w10⟩)) := by kernel_rfl
noncomputable def butteryref1_Crc.code : Code := (Tryd.f81.body).getD .skip
def butteryref1_Crc.rs : List RV := [.tmp 2]
def butteryref1_Crc.orc (g93 : CallF) : Orc := [(93, g93)]
def butteryref1_Crc.ann : Ann := .node .leaf (.node .leaf (.node (.node .leaf (.jn [(3, (.lf (.int .u32)))] (.lp [0, 3, 4] (.node (.node .leaf (.node .leaf .leaf)) (.node (.nb .leaf) .leaf))))) (.node .leaf .leaf)))
noncomputable def butteryref1_Crc.v (g93 : CallF) (n : Nat) : CallF := evF Tryd.prog tt (butteryref1_Crc.orc g93) 81 n butteryref1_Crc.rs 1 butteryref1_Crc.code butteryref1_Crc.ann
noncomputable def butteryref1_Crc (n : Nat) : CallF := butteryref1_Crc.v (butteryref1_step n) n
noncomputable def butteryref1_Crc.l0.ann : Ann := .node (.node .leaf (.node .leaf .leaf)) (.node (.nb .leaf) .leaf)
noncomputable def butteryref1_Crc.l0v (g93 : CallF) (n m : Nat) (x0A : Option Addr) (x0l : Nat) (x0c : Nat) (x3 : Int) (x4 : Int) (w : World) : Option Res := iter (fun e w k => ev2 Tryd.prog tt (butteryref1_Crc.orc g93) 81 n butteryref1_Crc.rs (dig [1, 1, 0, 1, 0, 0] butteryref1_Crc.code) butteryref1_Crc.l0.ann [(0, [3])] (fun _ _ _ => none) e w k) [0, 3, 4] m [(0, (.slice x0A x0l x0c)), (3, (.int .u32 x3)), (4, (.int .i64 x4))] w
noncomputable def butteryref1_Crc.l0 (n m : Nat) (x0A : Option Addr) (x0l : Nat) (x0c : Nat) (x3 : Int) (x4 : Int) (w : World) : Option Res := butteryref1_Crc.l0v (butteryref1_step n) n m x0A x0l x0c x3 x4 w
theorem butteryref1_Crc.l0v_succ (g93 : CallF) (n m : Nat) (x0A : Option Addr) (x0l : Nat) (x0c : Nat) (x3 : Int) (x4 : Int) (w : World) : butteryref1_Crc.l0v g93 n (m + 1) x0A x0l x0c x3 x4 w = (cond (decide (x4 < (x0l : Int))) (ixA x0A x0l x4 1 fun ad1 => opt (w.cell? ad1) fun v2 => tI .u8 v2 fun n3 => cl (g93 [(.int .u32 (bits .and .u32 (bits .xor .u32 x3 (IntKind.u32.wrap n3)) 255))] w) fun vs4 w5 => tC vs4 fun v6 cs7 => tI .u32 v6 fun n8 => tN cs7 (butteryref1_Crc.l0v g93 n m x0A x0l x0c (bits .xor .u32 (Int.fdiv x3 (2 ^ 8)) n8) (IntKind.i64.wrap (x4 + 1)) w5)) (some ⟨.exit 0, [(.int .u32 x3)], w⟩)) := by kernel_rfl
theorem butteryref1_Crc.l0_succ (n m : Nat) (x0A : Option Addr) (x0l : Nat) (x0c : Nat) (x3 : Int) (x4 : Int) (w : World) : butteryref1_Crc.l0 n (m + 1) x0A x0l x0c x3 x4 w = (cond (decide (x4 < (x0l : Int))) (ixA x0A x0l x4 1 fun ad1 => opt (w.cell? ad1) fun v2 => tI .u8 v2 fun n3 => cl (butteryref1_step n [(.int .u32 (bits .and .u32 (bits .xor .u32 x3 (IntKind.u32.wrap n3)) 255))] w) fun vs4 w5 => tC vs4 fun v6 cs7 => tI .u32 v6 fun n8 => tN cs7 (butteryref1_Crc.l0 n m x0A x0l x0c (bits .xor .u32 (Int.fdiv x3 (2 ^ 8)) n8) (IntKind.i64.wrap (x4 + 1)) w5)) (some ⟨.exit 0, [(.int .u32 x3)], w⟩)) := butteryref1_Crc.l0v_succ (butteryref1_step n) n m x0A x0l x0c x3 x4 w
theorem butteryref1_Crc.v_eq (g93 : CallF) (n : Nat) (a0A : Option Addr) (a0l : Nat) (a0c : Nat) (w : World) : butteryref1_Crc.v g93 n [(.slice a0A a0l a0c)] w = fin (jb 0 (butteryref1_Crc.l0v g93 n n a0A a0l a0c 4294967295 0 w) fun vs9 w10 => tC vs9 fun v11 cs12 => tI .u32 v11 fun n13 => tN cs12 (some ⟨.ret, [(.int .u32 (bits .xor .u32 4294967295 n13))], w10⟩)) := by kernel_rfl
theorem butteryref1_Crc_eq (n : Nat) (a0A : Option Addr) (a0l : Nat) (a0c : Nat) (w : World) : butteryref1_Crc n [(.slice a0A a0l a0c)] w = fin (jb 0 (butteryref1_Crc.l0 n n a0A a0l a0c 4294967295 0 w) fun vs9 w10 => tC vs9 fun v11 cs12 => tI .u32 v11 fun n13 => tN cs12 (some ⟨.ret, [(.int .u32 (bits .xor .u32 4294967295 n13))], w10⟩)) := butteryref1_Crc.v_eq (butteryref1_step n) n a0A a0l a0c w
noncomputable def butteryref1_Masked.code : Code := (Tryd.f72.body).getD .skip
def butteryref1_Masked.rs : List RV := [.tmp 2]
def butteryref1_Masked.orc (g49 : CallF) (g80 : CallF) (g81 : CallF) : Orc := [(49, g49), (80, g80), (81, g81)]
def butteryref1_Masked.ann : Ann := .node .leaf (.node .leaf .leaf)
noncomputable def butteryref1_Masked.v (g49 : CallF) (g80 : CallF) (g81 : CallF) (n : Nat) : CallF := evF Tryd.prog tt (butteryref1_Masked.orc g49 g80 g81) 72 n butteryref1_Masked.rs 1 butteryref1_Masked.code butteryref1_Masked.ann
noncomputable def butteryref1_Masked (n : Nat) : CallF := butteryref1_Masked.v (butteryref1_Low n) (butteryref1_Mask n) (butteryref1_Crc n) n
theorem butteryref1_Masked.v_eq (g49 : CallF) (g80 : CallF) (g81 : CallF) (n : Nat) (a0A : Option Addr) (a0l : Nat) (a0c : Nat) (w : World) : butteryref1_Masked.v g49 g80 g81 n [(.slice a0A a0l a0c)] w = fin (cl (g81 [(.slice a0A a0l a0c)] w) fun vs1 w2 => tC vs1 fun v3 cs4 => tI .u32 v3 fun n5 => tN cs4 (cl (g80 [(.int .u32 n5)] w2) fun vs6 w7 => tC vs6 fun v8 cs9 => tI .u32 v8 fun n10 => tN cs9 (cl (g49 [(.slice none 0 0), (.int .u64 (IntKind.u64.wrap n10)), (.int .i64 4)] w7) fun vs11 w12 => tC vs11 fun v13 cs14 => tL v13 fun A15 l16 c17 => tN cs14 (some ⟨.ret, [(.slice A15 l16 c17)], w12⟩)))) := by kernel_rfl
theorem butteryref1_Masked_eq (n : Nat) (a0A : Option Addr) (a0l : Nat) (a0c : Nat) (w : World) : butteryref1_Masked n [(.slice a0A a0l a0c)] w = fin (cl (butteryref1_Crc n [(.slice a0A a0l a0c)] w) fun vs1 w2 => tC vs1 fun v3 cs4 => tI .u32 v3 fun n5 => tN cs4 (cl (butteryref1_Mask n [(.int .u32 n5)] w2) fun vs6 w7 => tC vs6 fun v8 cs9 => tI .u32 v8 fun n10 => tN cs9 (cl (butteryref1_Low n [(.slice none 0 0), (.int .u64 (IntKind.u64.wrap n10)), (.int .i64 4)] w7) fun vs11 w12 => tC vs11 fun v13 cs14 => tL v13 fun A15 l16 c17 => tN cs14 (some ⟨.ret, [(.slice A15 l16 c17)], w12⟩)))) := butteryref1_Masked.v_eq (butteryref1_Low n) (butteryref1_Mask n) (butteryref1_Crc n) n a0A a0l a0c w
noncomputable def butteryref6_piece.code : Code := (Tryd.f51.body).getD .skip
def butteryref6_piece.rs : List RV := [.tmp 4]
def butteryref6_piece.orc (g49 : CallF) (g72 : CallF) : Orc := [(49, g49), (72, g72)]
def butteryref6_piece.ann : Ann := .node .leaf (.node .leaf (.node .leaf .leaf))
noncomputable def butteryref6_piece.v (g49 : CallF) (g72 : CallF) (n : Nat) : CallF := evF Tryd.prog tt (butteryref6_piece.orc g49 g72) 51 n butteryref6_piece.rs 2 butteryref6_piece.code butteryref6_piece.ann
noncomputable def butteryref6_piece (n : Nat) : CallF := butteryref6_piece.v (butteryref1_Low n) (butteryref1_Masked n) n
theorem butteryref6_piece.v_eq (g49 : CallF) (g72 : CallF) (n : Nat) (a0 : Int) (a1A : Option Addr) (a1l : Nat) (a1c : Nat) (w : World) : butteryref6_piece.v g49 g72 n [(.int .u8 a0), (.slice a1A a1l a1c)] w = fin (al w #[(.int .u8 a0)] 5 fun w1 => rn Tryd.prog (Builtin.append_ #[28, 28] 28 #[(.slice (some ⟨w.heap.size, 0, none⟩) 1 1), (.slice a1A a1l a1c)]) w1 fun v5 w6 => tL v5 fun A2 l3 c4 => cl (g72 [(.slice A2 l3 c4)] w6) fun vs7 w8 => tC vs7 fun v9 cs10 => tL v9 fun A11 l12 c13 => tN cs10 (cl (g49 [(.slice A11 l12 c13), (.int .u64 (IntKind.u64.wrap (a1l : Int))), (.int .i64 2)] w8) fun vs14 w15 => tC vs14 fun v16 cs17 => tL v16 fun A18 l19 c20 => tN cs17 (al w15 #[(.int .u8 a0)] 5 fun w21 => rn Tryd.prog (Builtin.append_ #[28, 28] 28 #[(.slice A18 l19 c20), (.slice (some ⟨w15.heap.size, 0, none⟩) 1 1)]) w21 fun v25 w26 => tL v25 fun A22 l23 c24 => rn Tryd.prog (Builtin.append_ #[28, 28] 28 #[(.slice A22 l23 c24), (.slice a1A a1l a1c)]) w26 fun v30 w31 => tL v30 fun A27 l28 c29 => some ⟨.ret, [(.slice A27 l28 c29)], w31⟩))) := by kernel_rfl
theorem butteryref6_piece_eq (n : Nat) (a0 : Int) (a1A : Option Addr) (a1l : Nat) (a1c : Nat) (w : World) : butteryref6_piece n [(.int .u8 a0), (.slice a1A a1l a1c)] w = fin (al w #[(.int .u8 a0)] 5 fun w1 => rn Tryd.prog (Builtin.append_ #[28, 28] 28 #[(.slice (some ⟨w.heap.size, 0, none⟩) 1 1), (.slice a1A a1l a1c)]) w1 fun v5 w6 => tL v5 fun A2 l3 c4 => cl (butteryref1_Masked n [(.slice A2 l3 c4)] w6) fun vs7 w8 => tC vs7 fun v9 cs10 => tL v9 fun A11 l12 c13 => tN cs10 (cl (butteryref1_Low n [(.slice A11 l12 c13), (.int .u64 (IntKind.u64.wrap (a1l : Int))), (.int .i64 2)] w8) fun vs14 w15 => tC vs14 fun v16 cs17 => tL v16 fun A18 l19 c20 => tN cs17 (al w15 #[(.int .u8 a0)] 5 fun w21 => rn Tryd.prog (Builtin.append_ #[28, 28] 28 #[(.slice A18 l19 c20), (.slice (some ⟨w15.heap.size, 0, none⟩) 1 1)]) w21 fun v25 w26 => tL v25 fun A22 l23 c24 => rn Tryd.prog (Builtin.append_ #[28, 28] 28 #[(.slice A22 l23 c24), (.slice a1A a1l a1c)]) w26 fun v30 w31 => tL v30 fun A27 l28 c29 => some ⟨.ret, [(.slice A27 l28 c29)], w31⟩))) := butteryref6_piece.v_eq (butteryref1_Low n) (butteryref1_Masked n) n a0 a1A a1l a1c w
noncomputable def butteryref6_Put.code : Code := (Tryd.f28.body).getD .skip
def butteryref6_Put.rs : List RV := [.tmp 4]
def butteryref6_Put.orc (g51 : CallF) : Orc := [(51, g51)]
def butteryref6_Put.ann : Ann := .node .leaf (.node (.jn [(0, (.lf (.int .i64))), (1, (.lf .sl))] (.node .leaf (.node .leaf .leaf))) (.node .leaf (.node .leaf (.node (.jn [(1, (.lf .sl)), (5, (.lf (.int .i64))), (6, (.lf .sl))] (.node .leaf (.node (.node .leaf .leaf) .leaf))) (.node .leaf (.nb (.lp [1, 5, 6, 7] (.nb (.node .leaf (.node .leaf (.node (.jn [(1, (.lf .sl)), (5, (.lf (.int .i64))), (6, (.lf .sl)), (7, (.lf .bool)), (8, (.lf (.int .i64))), (9, (.lf .bool))] (.node .leaf (.node .leaf .leaf))) (.node .leaf (.node (.jn [(1, (.lf .sl)), (5, (.lf (.int .i64))), (6, (.lf .sl)), (8, (.lf (.int .i64))), (9, (.lf .bool)), (10, (.lf (.int .u8)))] (.node .leaf (.node .leaf (.node .leaf (.node .leaf (.node .leaf (.node .leaf .leaf))))))) (.node .leaf (.node (.node .leaf (.node (.node .leaf .leaf) .leaf)) (.node .leaf (.node .leaf (.node .leaf (.node .leaf (.node (.node .leaf .leaf) .leaf))))))))))))))))))))
noncomputable def butteryref6_Put.v (g51 : CallF) (n : Nat) : CallF := evF Tryd.prog tt (butteryref6_Put.orc g51) 28 n butteryref6_Put.rs 2 butteryref6_Put.code butteryref6_Put.ann
noncomputable def butteryref6_Put (n : Nat) : CallF := butteryref6_Put.v (butteryref6_piece n) n
noncomputable def butteryref6_Put.l0.ann : Ann := .nb (.node .leaf (.node .leaf (.node (.jn [(1, (.lf .sl)), (5, (.lf (.int .i64))), (6, (.lf .sl)), (7, (.lf .bool)), (8, (.lf (.int .i64))), (9, (.lf .bool))] (.node .leaf (.node .leaf .leaf))) (.node .leaf (.node (.jn [(1, (.lf .sl)), (5, (.lf (.int .i64))), (6, (.lf .sl)), (8, (.lf (.int .i64))), (9, (.lf .bool)), (10, (.lf (.int .u8)))] (.node .leaf (.node .leaf (.node .leaf (.node .leaf (.node .leaf (.node .leaf .leaf))))))) (.node .leaf (.node (.node .leaf (.node (.node .leaf .leaf) .leaf)) (.node .leaf (.node .leaf (.node .leaf (.node .leaf (.node (.node .leaf .leaf) .leaf))))))))))))
noncomputable def butteryref6_Put.l0v (g51 : CallF) (n m : Nat) (x1A : Option Addr) (x1l : Nat) (x1c : Nat) (x5 : Int) (x6A : Option Addr) (x6l : Nat) (x6c : Nat) (x7 : Bool) (w : World) : Option Res := iter (fun e w k => ev2 Tryd.prog tt (butteryref6_Put.orc g51) 28 n butteryref6_Put.rs (dig [1, 1, 1, 1, 1, 1, 0, 0] butteryref6_Put.code) butteryref6_Put.l0.ann [] (fun _ _ _ => none) e w k) [1, 5, 6, 7] m [(1, (.slice x1A x1l x1c)), (5, (.int .i64 x5)), (6, (.slice x6A x6l x6c)), (7, (.bool x7))] w
noncomputable def butteryref6_Put.l0 (n m : Nat) (x1A : Option Addr) (x1l : Nat) (x1c : Nat) (x5 : Int) (x6A : Option Addr) (x6l : Nat) (x6c : Nat) (x7 : Bool) (w : World) : Option Res := butteryref6_Put.l0v (butteryref6_piece n) n m x1A x1l x1c x5 x6A x6l x6c x7 w
theorem butteryref6_Put.l0v_succ (g51 : CallF) (n m : Nat) (x1A : Option Addr) (x1l : Nat) (x1c : Nat) (x5 : Int) (x6A : Option Addr) (x6l : Nat) (x6c : Nat) (x7 : Bool) (w : World) : butteryref6_Put.l0v g51 n (m + 1) x1A x1l x1c x5 x6A x6l x6c x7 w = (jm (cond (decide ((IntKind.i64.wrap ((IntKind.i64.wrap (128 - x5)) - 7)) ≥ (x1l : Int))) (some ⟨.norm, [(.slice x1A x1l x1c), (.int .i64 x5), (.slice x6A x6l x6c), (.bool x7), (.int .i64 (x1l : Int)), (.bool (decide ((IntKind.i64.wrap ((IntKind.i64.wrap (128 - x5)) - 7)) ≥ (x1l : Int))))], w⟩) (some ⟨.norm, [(.slice x1A x1l x1c), (.int .i64 x5), (.slice x6A x6l x6c), (.bool x7), (.int .i64 (IntKind.i64.wrap ((IntKind.i64.wrap (128 - x5)) - 7))), (.bool (decide ((IntKind.i64.wrap ((IntKind.i64.wrap (128 - x5)) - 7)) ≥ (x1l : Int))))], w⟩)) fun vs31 w32 => tC vs31 fun v33 cs34 => tL v33 fun A35 l36 c37 => tC cs34 fun v38 cs39 => tI .i64 v38 fun n40 => tC cs39 fun v41 cs42 => tL v41 fun A43 l44 c45 => tC cs42 fun v46 cs47 => tB v46 fun b48 => tC cs47 fun v49 cs50 => tI .i64 v49 fun n51 => tC cs50 fun v52 cs53 => tB v52 fun b54 => tN cs53 (jb 2 (cond b48 (cond b54 (some ⟨.norm, [(.slice A35 l36 c37), (.int .i64 n40), (.slice A43 l44 c45), (.int .i64 n51), (.bool b54), (.int .u8 1)], w32⟩) (cond b48 (some ⟨.norm, [(.slice A35 l36 c37), (.int .i64 n40), (.slice A43 l44 c45), (.int .i64 n51), (.bool b54), (.int .u8 2)], w32⟩) (cond b54 (some ⟨.norm, [(.slice A35 l36 c37), (.int .i64 n40), (.slice A43 l44 c45), (.int .i64 n51), (.bool b54), (.int .u8 4)], w32⟩) (some ⟨.norm, [(.slice A35 l36 c37), (.int .i64 n40), (.slice A43 l44 c45), (.int .i64 n51), (.bool b54), (.int .u8 3)], w32⟩)))) (cond b48 (some ⟨.norm, [(.slice A35 l36 c37), (.int .i64 n40), (.slice A43 l44 c45), (.int .i64 n51), (.bool b54), (.int .u8 2)], w32⟩) (cond b54 (some ⟨.norm, [(.slice A35 l36 c37), (.int .i64 n40), (.slice A43 l44 c45), (.int .i64 n51), (.bool b54), (.int .u8 4)], w32⟩) (some ⟨.norm, [(.slice A35 l36 c37), (.int .i64 n40), (.slice A43 l44 c45), (.int .i64 n51), (.bool b54), (.int .u8 3)], w32⟩)))) fun vs55 w56 => tC vs55 fun v57 cs58 => tL v57 fun A59 l60 c61 => tC cs58 fun v62 cs63 => tI .i64 v62 fun n64 => tC cs63 fun v65 cs66 => tL v65 fun A67 l68 c69 => tC cs66 fun v70 cs71 => tI .i64 v70 fun n72 => tC cs71 fun v73 cs74 => tB v73 fun b75 => tC cs74 fun v76 cs77 => tI .u8 v76 fun n78 => tN cs77 (cutS A59 c61 0 n72 1 fun A79 l80 c81 => cl (g51 [(.int .u8 n78), (.slice A79 l80 c81)] w56) fun vs82 w83 => tC vs82 fun v84 cs85 => tL v84 fun A86 l87 c88 => tN cs85 (rn Tryd.prog (Builtin.append_ #[28, 28] 28 #[(.slice A67 l68 c69), (.slice A86 l87 c88)]) w83 fun v92 w93 => tL v92 fun A89 l90 c91 => cond b75 (some ⟨.ret, [(.slice A89 l90 c91)], w93⟩) (cutS A59 c61 n72 (l60 : Int) 1 fun A94 l95 c96 => cond (decide ((IntKind.i64.wrap (128 - (Int.tmod (IntKind.i64.wrap ((IntKind.i64.wrap (n64 + 7)) + n72)) 128))) < 7)) (rn Tryd.prog (Builtin.append_ #[28, 3] 28 #[(.slice A89 l90 c91), (.int .i64 (IntKind.i64.wrap (128 - (Int.tmod (IntKind.i64.wrap ((IntKind.i64.wrap (n64 + 7)) + n72)) 128))))]) w93 fun v100 w101 => tL v100 fun A97 l98 c99 => butteryref6_Put.l0v g51 n m A94 l95 c96 0 A97 l98 c99 false w101) (butteryref6_Put.l0v g51 n m A94 l95 c96 (Int.tmod (IntKind.i64.wrap ((IntKind.i64.wrap (n64 + 7)) + n72)) 128) A89 l90 c91 false w93)))))) := by kernel_rfl
theorem butteryref6_Put.l0_succ (n m : Nat) (x1A : Option Addr) (x1l : Nat) (x1c : Nat) (x5 : Int) (x6A : Option Addr) (x6l : Nat) (x6c : Nat) (x7 : Bool) (w : World) : butteryref6_Put.l0 n (m + 1) x1A x1l x1c x5 x6A x6l x6c x7 w = (jm (cond (decide ((IntKind.i64.wrap ((IntKind.i64.wrap (128 - x5)) - 7)) ≥ (x1l : Int))) (some ⟨.norm, [(.slice x1A x1l x1c), (.int .i64 x5), (.slice x6A x6l x6c), (.bool x7), (.int .i64 (x1l : Int)), (.bool (decide ((IntKind.i64.wrap ((IntKind.i64.wrap (128 - x5)) - 7)) ≥ (x1l : Int))))], w⟩) (some ⟨.norm, [(.slice x1A x1l x1c), (.int .i64 x5), (.slice x6A x6l x6c), (.bool x7), (.int .i64 (IntKind.i64.wrap ((IntKind.i64.wrap (128 - x5)) - 7))), (.bool (decide ((IntKind.i64.wrap ((IntKind.i64.wrap (128 - x5)) - 7)) ≥ (x1l : Int))))], w⟩)) fun vs31 w32 => tC vs31 fun v33 cs34 => tL v33 fun A35 l36 c37 => tC cs34 fun v38 cs39 => tI .i64 v38 fun n40 => tC cs39 fun v41 cs42 => tL v41 fun A43 l44 c45 => tC cs42 fun v46 cs47 => tB v46 fun b48 => tC cs47 fun v49 cs50 => tI .i64 v49 fun n51 => tC cs50 fun v52 cs53 => tB v52 fun b54 => tN cs53 (jb 2 (cond b48 (cond b54 (some ⟨.norm, [(.slice A35 l36 c37), (.int .i64 n40), (.slice A43 l44 c45), (.int .i64 n51), (.bool b54), (.int .u8 1)], w32⟩) (cond b48 (some ⟨.norm, [(.slice A35 l36 c37), (.int .i64 n40), (.slice A43 l44 c45), (.int .i64 n51), (.bool b54), (.int .u8 2)], w32⟩) (cond b54 (some ⟨.norm, [(.slice A35 l36 c37), (.int .i64 n40), (.slice A43 l44 c45), (.int .i64 n51), (.bool b54), (.int .u8 4)], w32⟩) (some ⟨.norm, [(.slice A35 l36 c37), (.int .i64 n40), (.slice A43 l44 c45), (.int .i64 n51), (.bool b54), (.int .u8 3)], w32⟩)))) (cond b48 (some ⟨.norm, [(.slice A35 l36 c37), (.int .i64 n40), (.slice A43 l44 c45), (.int .i64 n51), (.bool b54), (.int .u8 2)], w32⟩) (cond b54 (some ⟨.norm, [(.slice A35 l36 c37), (.int .i64 n40), (.slice A43 l44 c45), (.int .i64 n51), (.bool b54), (.int .u8 4)], w32⟩) (some ⟨.norm, [(.slice A35 l36 c37), (.int .i64 n40), (.slice A43 l44 c45), (.int .i64 n51), (.bool b54), (.int .u8 3)], w32⟩)))) fun vs55 w56 => tC vs55 fun v57 cs58 => tL v57 fun A59 l60 c61 => tC cs58 fun v62 cs63 => tI .i64 v62 fun n64 => tC cs63 fun v65 cs66 => tL v65 fun A67 l68 c69 => tC cs66 fun v70 cs71 => tI .i64 v70 fun n72 => tC cs71 fun v73 cs74 => tB v73 fun b75 => tC cs74 fun v76 cs77 => tI .u8 v76 fun n78 => tN cs77 (cutS A59 c61 0 n72 1 fun A79 l80 c81 => cl (butteryref6_piece n [(.int .u8 n78), (.slice A79 l80 c81)] w56) fun vs82 w83 => tC vs82 fun v84 cs85 => tL v84 fun A86 l87 c88 => tN cs85 (rn Tryd.prog (Builtin.append_ #[28, 28] 28 #[(.slice A67 l68 c69), (.slice A86 l87 c88)]) w83 fun v92 w93 => tL v92 fun A89 l90 c91 => cond b75 (some ⟨.ret, [(.slice A89 l90 c91)], w93⟩) (cutS A59 c61 n72 (l60 : Int) 1 fun A94 l95 c96 => cond (decide ((IntKind.i64.wrap (128 - (Int.tmod (IntKind.i64.wrap ((IntKind.i64.wrap (n64 + 7)) + n72)) 128))) < 7)) (rn Tryd.prog (Builtin.append_ #[28, 3] 28 #[(.slice A89 l90 c91), (.int .i64 (IntKind.i64.wrap (128 - (Int.tmod (IntKind.i64.wrap ((IntKind.i64.wrap (n64 + 7)) + n72)) 128))))]) w93 fun v100 w101 => tL v100 fun A97 l98 c99 => butteryref6_Put.l0 n m A94 l95 c96 0 A97 l98 c99 false w101) (butteryref6_Put.l0 n m A94 l95 c96 (Int.tmod (IntKind.i64.wrap ((IntKind.i64.wrap (n64 + 7)) + n72)) 128) A89 l90 c91 false w93)))))) := butteryref6_Put.l0v_succ (butteryref6_piece n) n m x1A x1l x1c x5 x6A x6l x6c x7 w
theorem butteryref6_Put.v_eq (g51 : CallF) (n : Nat) (a0 : Int) (a1A : Option Addr) (a1l : Nat) (a1c : Nat) (w : World) : butteryref6_Put.v g51 n [(.int .i64 a0), (.slice a1A a1l a1c)] w = fin (jm (cond (decide (a0 < 0)) (some ⟨.norm, [(.int .i64 0), (.slice a1A a1l a1c)], w⟩) (some ⟨.norm, [(.int .i64 a0), (.slice a1A a1l a1c)], w⟩)) fun vs1 w2 => tC vs1 fun v3 cs4 => tI .i64 v3 fun n5 => tC cs4 fun v6 cs7 => tL v6 fun A8 l9 c10 => tN cs7 (jm (cond (decide ((IntKind.i64.wrap (128 - (Int.tmod n5 128))) < 7)) (rn Tryd.prog (Instr.makeSlice 28 (.int .i64 (IntKind.i64.wrap (128 - (Int.tmod n5 128)))) (.int .i64 (IntKind.i64.wrap (128 - (Int.tmod n5 128))))) w2 fun v14 w15 => tL v14 fun A11 l12 c13 => some ⟨.norm, [(.slice A8 l9 c10), (.int .i64 0), (.slice A11 l12 c13)], w15⟩) (some ⟨.norm, [(.slice A8 l9 c10), (.int .i64 (Int.tmod n5 128)), (.slice none 0 0)], w2⟩)) fun vs16 w17 => tC vs16 fun v18 cs19 => tL v18 fun A20 l21 c22 => tC cs19 fun v23 cs24 => tI .i64 v23 fun n25 => tC cs24 fun v26 cs27 => tL v26 fun A28 l29 c30 => tN cs27 (butteryref6_Put.l0v g51 n n A20 l21 c22 n25 A28 l29 c30 true w17))) := by kernel_rfl
theorem butteryref6_Put_eq (n : Nat) (a0 : Int) (a1A : Option Addr) (a1l : Nat) (a1c : Nat) (w : World) : butteryref6_Put n [(.int .i64 a0), (.slice a1A a1l a1c)] w = fin (jm (cond (decide (a0 < 0)) (some ⟨.norm, [(.int .i64 0), (.slice a1A a1l a1c)], w⟩) (some ⟨.norm, [(.int .i64 a0), (.slice a1A a1l a1c)], w⟩)) fun vs1 w2 => tC vs1 fun v3 cs4 => tI .i64 v3 fun n5 => tC cs4 fun v6 cs7 => tL v6 fun A8 l9 c10 => tN cs7 (jm (cond (decide ((IntKind.i64.wrap (128 - (Int.tmod n5 128))) < 7)) (rn Tryd.prog (Instr.makeSlice 28 (.int .i64 (IntKind.i64.wrap (128 - (Int.tmod n5 128)))) (.int .i64 (IntKind.i64.wrap (128 - (Int.tmod n5 128))))) w2 fun v14 w15 => tL v14 fun A11 l12 c13 => some ⟨.norm, [(.slice A8 l9 c10), (.int .i64 0), (.slice A11 l12 c13)], w15⟩) (some ⟨.norm, [(.slice A8 l9 c10), (.int .i64 (Int.tmod n5 128)), (.slice none 0 0)], w2⟩)) fun vs16 w17 => tC vs16 fun v18 cs19 => tL v18 fun A20 l21 c22 => tC cs19 fun v23 cs24 => tI .i64 v23 fun n25 => tC cs24 fun v26 cs27 => tL v26 fun A28 l29 c30 => tN cs27 (butteryref6_Put.l0 n n A20 l21 c22 n25 A28 l29 c30 true w17))) := butteryref6_Put.v_eq (butteryref6_piece n) n a0 a1A a1l a1c w
noncomputable def butteryref1_Get.code : Code := (Tryd.f68.body).getD .skip
def butteryref1_Get.rs : List RV := [.tmp 6]
def butteryref1_Get.orc  : Orc := []
def butteryref1_Get.ann : Ann := .node .leaf (.node .leaf (.node (.node .leaf (.jn [(7, (.lf (.int .u64)))] (.lp [0, 1, 7, 8] (.node (.node .leaf (.node .leaf .leaf)) (.node (.nb .leaf) .leaf))))) (.node .leaf .leaf)))
noncomputable def butteryref1_Get.v (n : Nat) : CallF := evF Tryd.prog tt (butteryref1_Get.orc) 68 n butteryref1_Get.rs 3 butteryref1_Get.code butteryref1_Get.ann
noncomputable def butteryref1_Get (n : Nat) : CallF := butteryref1_Get.v n
noncomputable def butteryref1_Get.l0.ann : Ann := .node (.node .leaf (.node .leaf .leaf)) (.node (.nb .leaf) .leaf)
noncomputable def butteryref1_Get.l0v (n m : Nat) (x0A : Option Addr) (x0l : Nat) (x0c : Nat) (x1 : Int) (x7 : Int) (x8 : Int) (w : World) : Option Res := iter (fun e w k => ev2 Tryd.prog tt (butteryref1_Get.orc) 68 n butteryref1_Get.rs (dig [1, 1, 0, 1, 0, 0] butteryref1_Get.code) butteryref1_Get.l0.ann [(0, [7])] (fun _ _ _ => none) e w k) [0, 1, 7, 8] m [(0, (.slice x0A x0l x0c)), (1, (.int .i64 x1)), (7, (.int .u64 x7)), (8, (.int .i64 x8))] w
noncomputable def butteryref1_Get.l0 (n m : Nat) (x0A : Option Addr) (x0l : Nat) (x0c : Nat) (x1 : Int) (x7 : Int) (x8 : Int) (w : World) : Option Res := butteryref1_Get.l0v n m x0A x0l x0c x1 x7 x8 w
theorem butteryref1_Get.l0_succ (n m : Nat) (x0A : Option Addr) (x0l : Nat) (x0c : Nat) (x1 : Int) (x7 : Int) (x8 : Int) (w : World) : butteryref1_Get.l0 n (m + 1) x0A x0l x0c x1 x7 x8 w = (cond (decide (x8 ≥ 0)) (ixA x0A x0l (IntKind.i64.wrap (x1 + x8)) 1 fun ad1 => opt (w.cell? ad1) fun v2 => tI .u8 v2 fun n3 => butteryref1_Get.l0 n m x0A x0l x0c x1 (bits .or .u64 (IntKind.u64.wrap (x7 * 2 ^ 8)) (IntKind.u64.wrap n3)) (IntKind.i64.wrap (x8 - 1)) w) (some ⟨.exit 0, [(.int .u64 x7)], w⟩)) := by kernel_rfl
theorem butteryref1_Get_eq (n : Nat) (a0A : Option Addr) (a0l : Nat) (a0c : Nat) (a1 : Int) (a2 : Int) (w : World) : butteryref1_Get n [(.slice a0A a0l a0c), (.int .i64 a1), (.int .i64 a2)] w = fin (jb 0 (butteryref1_Get.l0 n n a0A a0l a0c a1 0 (IntKind.i64.wrap (a2 - 1)) w) fun vs4 w5 => tC vs4 fun v6 cs7 => tI .u64 v6 fun n8 => tN cs7 (some ⟨.ret, [(.int .u64 n8)], w5⟩)) := by kernel_rfl
noncomputable def butteryref1_SameOps.code : Code := (Tryd.f70.body).getD .skip
def butteryref1_SameOps.rs : List RV := [.tmp 4]
def butteryref1_SameOps.orc  : Orc := []
def butteryref1_SameOps.ann : Ann := .node .leaf (.node (.node .leaf (.node (.node .leaf .leaf) .leaf)) (.node (.node .leaf (.jn [] (.lp [0, 1, 5] (.node (.node .leaf (.node .leaf .leaf)) (.node (.nb (.node (.rg [0, 0, 3, 7, 15, 0, 0, 96, 224, 480, 1023, 2047, 4095, 4095, 16383, 32767, 65535, 131071, 4095, 4095, 790527, 1839103, 3936255, 8130559, 16777215, 33554431, 67108863, 134217727, 134217727, 536870911, 1073741823, 2147483647, 4294967295, 134217727, 134217727, 25904021503, 60263759871, 128983236607, 266422190079, 549755813887, 1099511627775]) (.node (.node .leaf .leaf) .leaf))) .leaf))))) (.node .leaf .leaf)))
noncomputable def butteryref1_SameOps.v (n : Nat) : CallF := evF Tryd.prog tt (butteryref1_SameOps.orc) 70 n butteryref1_SameOps.rs 2 butteryref1_SameOps.code butteryref1_SameOps.ann
noncomputable def butteryref1_SameOps (n : Nat) : CallF := butteryref1_SameOps.v n
noncomputable def butteryref1_SameOps.l0.ann : Ann := .node (.node .leaf (.node .leaf .leaf)) (.node (.nb (.node (.rg [0, 0, 3, 7, 15, 0, 0, 96, 224, 480, 1023, 2047, 4095, 4095, 16383, 32767, 65535, 131071, 4095, 4095, 790527, 1839103, 3936255, 8130559, 16777215, 33554431, 67108863, 134217727, 134217727, 536870911, 1073741823, 2147483647, 4294967295, 134217727, 134217727, 25904021503, 60263759871, 128983236607, 266422190079, 549755813887, 1099511627775]) (.node (.node .leaf .leaf) .leaf))) .leaf)
noncomputable def butteryref1_SameOps.l0v (n m : Nat) (x0A : Option Addr) (x0l : Nat) (x0c : Nat) (x1A : Option Addr) (x1l : Nat) (x1c : Nat) (x5 : Int) (w : World) : Option Res := iter (fun e w k => ev2 Tryd.prog tt (butteryref1_SameOps.orc) 70 n butteryref1_SameOps.rs (dig [1, 1, 0, 1, 0, 0] butteryref1_SameOps.code) butteryref1_SameOps.l0.ann [(0, [])] (fun _ _ _ => none) e w k) [0, 1, 5] m [(0, (.slice x0A x0l x0c)), (1, (.slice x1A x1l x1c)), (5, (.int .i64 x5))] w
noncomputable def butteryref1_SameOps.l0 (n m : Nat) (x0A : Option Addr) (x0l : Nat) (x0c : Nat) (x1A : Option Addr) (x1l : Nat) (x1c : Nat) (x5 : Int) (w : World) : Option Res := butteryref1_SameOps.l0v n m x0A x0l x0c x1A x1l x1c x5 w
theorem butteryref1_SameOps.l0_succ (n m : Nat) (x0A : Option Addr) (x0l : Nat) (x0c : Nat) (x1A : Option Addr) (x1l : Nat) (x1c : Nat) (x5 : Int) (w : World) : butteryref1_SameOps.l0 n (m + 1) x0A x0l x0c x1A x1l x1c x5 w = (cond (decide (x5 < (x0l : Int))) (ixA x0A x0l x5 3 fun ad1 => opt (w.drew.cell? ad1) fun v2 => tI .i64 v2 fun n3 => ixA x1A x1l x5 3 fun ad4 => opt (w.drew.cell? ad4) fun v5 => tI .i64 v5 fun n6 => cond (n3 != n6) (some ⟨.ret, [(.bool false)], w.drew⟩) (ixA x0A x0l x5 3 fun ad7 => opt (w.drew.cell? (Addr.add ad7 1)) fun v8 => tL v8 fun A9 l10 c11 => opt (strOf w.drew A9 l10) fun s12 => ixA x1A x1l x5 3 fun ad13 => opt (w.drew.cell? (Addr.add ad13 1)) fun v14 => tL v14 fun A15 l16 c17 => opt (strOf w.drew A15 l16) fun s18 => cond (!(s12.toList == s18.toList)) (some ⟨.ret, [(.bool false)], w.drew⟩) (ixA x0A x0l x5 3 fun ad19 => opt (w.drew.cell? (Addr.add ad19 2)) fun v20 => tL v20 fun A21 l22 c23 => opt (strOf w.drew A21 l22) fun s24 => ixA x1A x1l x5 3 fun ad25 => opt (w.drew.cell? (Addr.add ad25 2)) fun v26 => tL v26 fun A27 l28 c29 => opt (strOf w.drew A27 l28) fun s30 => cond (!(s24.toList == s30.toList)) (some ⟨.ret, [(.bool false)], w.drew⟩) (butteryref1_SameOps.l0 n m x0A x0l x0c x1A x1l x1c (IntKind.i64.wrap (x5 + 1)) w.drew)))) (some ⟨.exit 0, [], w⟩)) := by kernel_rfl
theorem butteryref1_SameOps_eq (n : Nat) (a0A : Option Addr) (a0l : Nat) (a0c : Nat) (a1A : Option Addr) (a1l : Nat) (a1c : Nat) (w : World) : butteryref1_SameOps n [(.slice a0A a0l a0c), (.slice a1A a1l a1c)] w = fin (cond ((a0l : Int) != (a1l : Int)) (some ⟨.ret, [(.bool false)], w⟩) (jb 0 (butteryref1_SameOps.l0 n n a0A a0l a0c a1A a1l a1c 0 w) fun vs31 w32 => tN vs31 (some ⟨.ret, [(.bool true)], w32⟩))) := by kernel_rfl
theorem butteryref1_SameOps.fn : FnOk Tryd.prog tt 70 Tryd.f70 butteryref1_SameOps.code butteryref1_SameOps.ann butteryref1_SameOps.rs 2 := ⟨by kernel_rfl, by kernel_rfl, by kernel_rfl, by kernel_rfl, by kernel_rfl, by kernel_rfl⟩
theorem butteryref1_SameOps.row (n : Nat) : Row Tryd.prog 70 (butteryref1_SameOps n) := evF_row (n := n) tt_ok OOk.nil mix butteryref1_SameOps.fn
noncomputable def butteryref1_SameBatch.code : Code := (Tryd.f46.body).getD .skip
def butteryref1_SameBatch.rs : List RV := [.tmp 4]
def butteryref1_SameBatch.orc (g70 : CallF) : Orc := [(70, g70)]
def butteryref1_SameBatch.ann : Ann := .node .leaf (.node .leaf .leaf)
noncomputable def butteryref1_SameBatch.v (g70 : CallF) (n : Nat) : CallF := evF Tryd.prog tt (butteryref1_SameBatch.orc g70) 46 n butteryref1_SameBatch.rs 2 butteryref1_SameBatch.code butteryref1_SameBatch.ann
noncomputable def butteryref1_SameBatch (n : Nat) : CallF := butteryref1_SameBatch.v (butteryref1_SameOps n) n
theorem butteryref1_SameBatch.v_eq (g70 : CallF) (n : Nat) (a0_0 : Int) (a0_1A : Option Addr) (a0_1l : Nat) (a0_1c : Nat) (a1_0 : Int) (a1_1A : Option Addr) (a1_1l : Nat) (a1_1c : Nat) (w : World) : butteryref1_SameBatch.v g70 n [(.agg #[(.int .u64 a0_0), (.slice a0_1A a0_1l a0_1c)]), (.agg #[(.int .u64 a1_0), (.slice a1_1A a1_1l a1_1c)])] w = fin (al w #[(.int .u64 a0_0), (.slice a0_1A a0_1l a0_1c)] 33 fun w1 => al w1 #[(.int .u64 a1_0), (.slice a1_1A a1_1l a1_1c)] 33 fun w2 => opt (w2.cell? ⟨w.heap.size, 0, none⟩) fun v3 => tI .u64 v3 fun n4 => opt (w2.cell? ⟨w1.heap.size, 0, none⟩) fun v5 => tI .u64 v5 fun n6 => cond (n4 == n6) (opt (w2.cell? (Addr.add ⟨w.heap.size, 0, none⟩ 1)) fun v7 => tL v7 fun A8 l9 c10 => opt (w2.cell? (Addr.add ⟨w1.heap.size, 0, none⟩ 1)) fun v11 => tL v11 fun A12 l13 c14 => cl (g70 [(.slice A8 l9 c10), (.slice A12 l13 c14)] w2) fun vs15 w16 => tC vs15 fun v17 cs18 => tB v17 fun b19 => tN cs18 (some ⟨.ret, [(.bool b19)], w16⟩)) (some ⟨.ret, [(.bool false)], w2⟩)) := by kernel_rfl
theorem butteryref1_SameBatch_eq (n : Nat) (a0_0 : Int) (a0_1A : Option Addr) (a0_1l : Nat) (a0_1c : Nat) (a1_0 : Int) (a1_1A : Option Addr) (a1_1l : Nat) (a1_1c : Nat) (w : World) : butteryref1_SameBatch n [(.agg #[(.int .u64 a0_0), (.slice a0_1A a0_1l a0_1c)]), (.agg #[(.int .u64 a1_0), (.slice a1_1A a1_1l a1_1c)])] w = fin (al w #[(.int .u64 a0_0), (.slice a0_1A a0_1l a0_1c)] 33 fun w1 => al w1 #[(.int .u64 a1_0), (.slice a1_1A a1_1l a1_1c)] 33 fun w2 => opt (w2.cell? ⟨w.heap.size, 0, none⟩) fun v3 => tI .u64 v3 fun n4 => opt (w2.cell? ⟨w1.heap.size, 0, none⟩) fun v5 => tI .u64 v5 fun n6 => cond (n4 == n6) (opt (w2.cell? (Addr.add ⟨w.heap.size, 0, none⟩ 1)) fun v7 => tL v7 fun A8 l9 c10 => opt (w2.cell? (Addr.add ⟨w1.heap.size, 0, none⟩ 1)) fun v11 => tL v11 fun A12 l13 c14 => cl (butteryref1_SameOps n [(.slice A8 l9 c10), (.slice A12 l13 c14)] w2) fun vs15 w16 => tC vs15 fun v17 cs18 => tB v17 fun b19 => tN cs18 (some ⟨.ret, [(.bool b19)], w16⟩)) (some ⟨.ret, [(.bool false)], w2⟩)) := butteryref1_SameBatch.v_eq (butteryref1_SameOps n) n a0_0 a0_1A a0_1l a0_1c a1_0 a1_1A a1_1l a1_1c w
theorem butteryref1_SameBatch.fn : FnOk Tryd.prog tt 46 Tryd.f46 butteryref1_SameBatch.code butteryref1_SameBatch.ann butteryref1_SameBatch.rs 2 := ⟨by kernel_rfl, by kernel_rfl, by kernel_rfl, by kernel_rfl, by kernel_rfl, by kernel_rfl⟩
theorem butteryref1_SameBatch.row (n : Nat) : Row Tryd.prog 46 (butteryref1_SameBatch n) := evF_row (n := n) tt_ok (.cons (butteryref1_SameOps.row n) OOk.nil) mix butteryref1_SameBatch.fn
noncomputable def butteryref1_SameBatches.code : Code := (Tryd.f26.body).getD .skip
def butteryref1_SameBatches.rs : List RV := [.tmp 4]
def butteryref1_SameBatches.orc (g46 : CallF) : Orc := [(46, g46)]
def butteryref1_SameBatches.ann : Ann := .node .leaf (.node (.node .leaf (.node (.node .leaf .leaf) .leaf)) (.node (.node .leaf (.jn [] (.lp [0, 1, 5] (.node (.node .leaf (.node .leaf .leaf)) (.node (.nb (.node (.rg [0, 0, 3, 7, 0, 0, 48, 112, 255, 511]) (.node (.node .leaf .leaf) .leaf))) .leaf))))) (.node .leaf .leaf)))
noncomputable def butteryref1_SameBatches.v (g46 : CallF) (n : Nat) : CallF := evF Tryd.prog tt (butteryref1_SameBatches.orc g46) 26 n butteryref1_SameBatches.rs 2 butteryref1_SameBatches.code butteryref1_SameBatches.ann
noncomputable def butteryref1_SameBatches (n : Nat) : CallF := butteryref1_SameBatches.v (butteryref1_SameBatch n) n
noncomputable def butteryref1_SameBatches.l0.ann : Ann := .node (.node .leaf (.node .leaf .leaf)) (.node (.nb (.node (.rg [0, 0, 3, 7, 0, 0, 48, 112, 255, 511]) (.node (.node .leaf .leaf) .leaf))) .leaf)
noncomputable def butteryref1_SameBatches.l0v (g46 : CallF) (n m : Nat) (x0A : Option Addr) (x0l : Nat) (x0c : Nat) (x1A : Option Addr) (x1l : Nat) (x1c : Nat) (x5 : Int) (w : World) : Option Res := iter (fun e w k => ev2 Tryd.prog tt (butteryref1_SameBatches.orc g46) 26 n butteryref1_SameBatches.rs (dig [1, 1, 0, 1, 0, 0] butteryref1_SameBatches.code) butteryref1_SameBatches.l0.ann [(0, [])] (fun _ _ _ => none) e w k) [0, 1, 5] m [(0, (.slice x0A x0l x0c)), (1, (.slice x1A x1l x1c)), (5, (.int .i64 x5))] w
noncomputable def butteryref1_SameBatches.l0 (n m : Nat) (x0A : Option Addr) (x0l : Nat) (x0c : Nat) (x1A : Option Addr) (x1l : Nat) (x1c : Nat) (x5 : Int) (w : World) : Option Res := butteryref1_SameBatches.l0v (butteryref1_SameBatch n) n m x0A x0l x0c x1A x1l x1c x5 w
theorem butteryref1_SameBatches.l0v_succ (g46 : CallF) (n m : Nat) (x0A : Option Addr) (x0l : Nat) (x0c : Nat) (x1A : Option Addr) (x1l : Nat) (x1c : Nat) (x5 : Int) (w : World) : butteryref1_SameBatches.l0v g46 n (m + 1) x0A x0l x0c x1A x1l x1c x5 w = (cond (decide (x5 < (x0l : Int))) (ixA x0A x0l x5 2 fun ad1 => opt (w.drew.cell? ad1) fun v2 => tI .u64 v2 fun n3 => opt (w.drew.cell? (Addr.add ad1 1)) fun v4 => tL v4 fun A5 l6 c7 => ixA x1A x1l x5 2 fun ad8 => opt (w.drew.cell? ad8) fun v9 => tI .u64 v9 fun n10 => opt (w.drew.cell? (Addr.add ad8 1)) fun v11 => tL v11 fun A12 l13 c14 => cl (g46 [(.agg #[(.int .u64 n3), (.slice A5 l6 c7)]), (.agg #[(.int .u64 n10), (.slice A12 l13 c14)])] w.drew) fun vs15 w16 => tC vs15 fun v17 cs18 => tB v17 fun b19 => tN cs18 (cond (!b19) (some ⟨.ret, [(.bool false)], w16⟩) (butteryref1_SameBatches.l0v g46 n m x0A x0l x0c x1A x1l x1c (IntKind.i64.wrap (x5 + 1)) w16))) (some ⟨.exit 0, [], w⟩)) := by kernel_rfl
theorem butteryref1_SameBatches.l0_succ (n m : Nat) (x0A : Option Addr) (x0l : Nat) (x0c : Nat) (x1A : Option Addr) (x1l : Nat) (x1c : Nat) (x5 : Int) (w : World) : butteryref1_SameBatches.l0 n (m + 1) x0A x0l x0c x1A x1l x1c x5 w = (cond (decide (x5 < (x0l : Int))) (ixA x0A x0l x5 2 fun ad1 => opt (w.drew.cell? ad1) fun v2 => tI .u64 v2 fun n3 => opt (w.drew.cell? (Addr.add ad1 1)) fun v4 => tL v4 fun A5 l6 c7 => ixA x1A x1l x5 2 fun ad8 => opt (w.drew.cell? ad8) fun v9 => tI .u64 v9 fun n10 => opt (w.drew.cell? (Addr.add ad8 1)) fun v11 => tL v11 fun A12 l13 c14 => cl (butteryref1_SameBatch n [(.agg #[(.int .u64 n3), (.slice A5 l6 c7)]), (.agg #[(.int .u64 n10), (.slice A12 l13 c14)])] w.drew) fun vs15 w16 => tC vs15 fun v17 cs18 => tB v17 fun b19 => tN cs18 (cond (!b19) (some ⟨.ret, [(.bool false)], w16⟩) (butteryref1_SameBatches.l0 n m x0A x0l x0c x1A x1l x1c (IntKind.i64.wrap (x5 + 1)) w16))) (some ⟨.exit 0, [], w⟩)) := butteryref1_SameBatches.l0v_succ (butteryref1_SameBatch n) n m x0A x0l x0c x1A x1l x1c x5 w
theorem butteryref1_SameBatches.v_eq (g46 : CallF) (n : Nat) (a0A : Option Addr) (a0l : Nat) (a0c : Nat) (a1A : Option Addr) (a1l : Nat) (a1c : Nat) (w : World) : butteryref1_SameBatches.v g46 n [(.slice a0A a0l a0c), (.slice a1A a1l a1c)] w = fin (cond ((a0l : Int) != (a1l : Int)) (some ⟨.ret, [(.bool false)], w⟩) (jb 0 (butteryref1_SameBatches.l0v g46 n n a0A a0l a0c a1A a1l a1c 0 w) fun vs20 w21 => tN vs20 (some ⟨.ret, [(.bool true)], w21⟩))) := by kernel_rfl
theorem butteryref1_SameBatches_eq (n : Nat) (a0A : Option Addr) (a0l : Nat) (a0c : Nat) (a1A : Option Addr) (a1l : Nat) (a1c : Nat) (w : World) : butteryref1_SameBatches n [(.slice a0A a0l a0c), (.slice a1A a1l a1c)] w = fin (cond ((a0l : Int) != (a1l : Int)) (some ⟨.ret, [(.bool false)], w⟩) (jb 0 (butteryref1_SameBatches.l0 n n a0A a0l a0c a1A a1l a1c 0 w) fun vs20 w21 => tN vs20 (some ⟨.ret, [(.bool true)], w21⟩))) := butteryref1_SameBatches.v_eq (butteryref1_SameBatch n) n a0A a0l a0c a1A a1l a1c w
theorem butteryref1_SameBatches.fn : FnOk Tryd.prog tt 26 Tryd.f26 butteryref1_SameBatches.code butteryref1_SameBatches.ann butteryref1_SameBatches.rs 2 := ⟨by kernel_rfl, by kernel_rfl, by kernel_rfl, by kernel_rfl, by kernel_rfl, by kernel_rfl⟩
theorem butteryref1_SameBatches.row (n : Nat) : Row Tryd.prog 26 (butteryref1_SameBatches n) := evF_row (n := n) tt_ok (.cons (butteryref1_SameBatch.row n) OOk.nil) mix butteryref1_SameBatches.fn
noncomputable def butterylaw8_WalKeeps.code : Code := (Tryd.f6.body).getD .skip
def butterylaw8_WalKeeps.rs : List RV := [.tmp 6]
def butterylaw8_WalKeeps.orc (g7 : CallF) (g8 : CallF) (g9 : CallF) (g10 : CallF) (g11 : CallF) (g12 : CallF) (g26 : CallF) (g27 : CallF) : Orc := [(7, g7), (8, g8), (9, g9), (10, g10), (11, g11), (12, g12), (26, g26), (27, g27)]
def butterylaw8_WalKeeps.ann : Ann := .node .leaf (.node .leaf (.node (.node .leaf (.node (.node .leaf .leaf) .leaf)) (.node .leaf (.node .leaf (.node (.node .leaf (.jn [(0, (.lf .sl)), (1, (.lf (.int .i64))), (2, (.lf (.int .i64))), (8, (.lf .ptr))] (.lp [0, 1, 2, 8, 9, 10] (.node (.node .leaf (.node .leaf .leaf)) (.node (.nb (.node .leaf (.node (.node .leaf (.node (.node .leaf .leaf) .leaf)) (.node (.rg [0, 0, 3, 7, 15, 0, 0, 96, 224, 480, 992, 2016, 4095, 8191, 16383]) (.node .leaf (.node .leaf (.node (.node .leaf .leaf) .leaf))))))) .leaf))))) (.node .leaf (.node .leaf (.node (.node .leaf (.node (.node .leaf .leaf) .leaf)) (.node .leaf .leaf)))))))))
noncomputable def butterylaw8_WalKeeps.v (g7 : CallF) (g8 : CallF) (g9 : CallF) (g10 : CallF) (g11 : CallF) (g12 : CallF) (g26 : CallF) (g27 : CallF) (n : Nat) : CallF := evF Tryd.prog tt (butterylaw8_WalKeeps.orc g7 g8 g9 g10 g11 g12 g26 g27) 6 n butterylaw8_WalKeeps.rs 3 butterylaw8_WalKeeps.code butterylaw8_WalKeeps.ann
noncomputable def butterylaw8_WalKeeps (n : Nat) : CallF := butterylaw8_WalKeeps.v (butterylaw8_alive n) (disk_New n) (wal_Append n) (disk_Disk_Crash n) (butterylaw8_num n) (wal_Recover n) (butteryref1_SameBatches n) (butteryref1_BatchBytes n) n
noncomputable def butterylaw8_WalKeeps.l0.ann : Ann := .node (.node .leaf (.node .leaf .leaf)) (.node (.nb (.node .leaf (.node (.node .leaf (.node (.node .leaf .leaf) .leaf)) (.node (.rg [0, 0, 3, 7, 15, 0, 0, 96, 224, 480, 992, 2016, 4095, 8191, 16383]) (.node .leaf (.node .leaf (.node (.node .leaf .leaf) .leaf))))))) .leaf)
noncomputable def butterylaw8_WalKeeps.l0v (g7 : CallF) (g8 : CallF) (g9 : CallF) (g10 : CallF) (g11 : CallF) (g12 : CallF) (g26 : CallF) (g27 : CallF) (n m : Nat) (x0A : Option Addr) (x0l : Nat) (x0c : Nat) (x1 : Int) (x2 : Int) (x8 : Option Addr) (x9 : Int) (x10 : Int) (w : World) : Option Res := iter (fun e w k => ev2 Tryd.prog tt (butterylaw8_WalKeeps.orc g7 g8 g9 g10 g11 g12 g26 g27) 6 n butterylaw8_WalKeeps.rs (dig [1, 1, 1, 1, 1, 0, 1, 0, 0] butterylaw8_WalKeeps.code) butterylaw8_WalKeeps.l0.ann [(0, [0, 1, 2, 8])] (fun _ _ _ => none) e w k) [0, 1, 2, 8, 9, 10] m [(0, (.slice x0A x0l x0c)), (1, (.int .i64 x1)), (2, (.int .i64 x2)), (8, (.pointer x8)), (9, (.int .u64 x9)), (10, (.int .i64 x10))] w
noncomputable def butterylaw8_WalKeeps.l0 (n m : Nat) (x0A : Option Addr) (x0l : Nat) (x0c : Nat) (x1 : Int) (x2 : Int) (x8 : Option Addr) (x9 : Int) (x10 : Int) (w : World) : Option Res := butterylaw8_WalKeeps.l0v (butterylaw8_alive n) (disk_New n) (wal_Append n) (disk_Disk_Crash n) (butterylaw8_num n) (wal_Recover n) (butteryref1_SameBatches n) (butteryref1_BatchBytes n) n m x0A x0l x0c x1 x2 x8 x9 x10 w
theorem butterylaw8_WalKeeps.l0v_succ (g7 : CallF) (g8 : CallF) (g9 : CallF) (g10 : CallF) (g11 : CallF) (g12 : CallF) (g26 : CallF) (g27 : CallF) (n m : Nat) (x0A : Option Addr) (x0l : Nat) (x0c : Nat) (x1 : Int) (x2 : Int) (x8 : Option Addr) (x9 : Int) (x10 : Int) (w : World) : butterylaw8_WalKeeps.l0v g7 g8 g9 g10 g11 g12 g26 g27 n (m + 1) x0A x0l x0c x1 x2 x8 x9 x10 w = (cond (decide (x10 < (x0l : Int))) (ixA x0A x0l x10 2 fun ad11 => opt (w.cell? ad11) fun v12 => tI .u64 v12 fun n13 => opt (w.cell? (Addr.add ad11 1)) fun v14 => tL v14 fun A15 l16 c17 => cl (g27 [(.agg #[(.int .u64 n13), (.slice A15 l16 c17)])] w) fun vs18 w19 => tC vs18 fun v20 cs21 => tL v20 fun A22 l23 c24 => tC cs21 fun v25 cs26 => tI .i64 v25 fun n27 => tN cs26 (cond (n27 != 0) (some ⟨.ret, [(.bool true)], w19⟩) (ixA x0A x0l x10 2 fun ad28 => opt (w19.cell? ad28) fun v29 => tI .u64 v29 fun n30 => cond (decide (n30 ≤ x9)) (some ⟨.ret, [(.bool true)], w19⟩) (ixA x0A x0l x10 2 fun ad31 => opt (w19.drew.cell? ad31) fun v32 => tI .u64 v32 fun n33 => ixA x0A x0l x10 2 fun ad34 => opt (w19.drew.cell? (Addr.add ad34 1)) fun v35 => tL v35 fun A36 l37 c38 => ixA x0A x0l x10 2 fun ad39 => opt (w19.drew.cell? ad39) fun v40 => tI .u64 v40 fun n41 => opt (w19.drew.cell? (Addr.add ad39 1)) fun v42 => tL v42 fun A43 l44 c45 => cl (g9 [(.pointer x8), (.string ⟨#[108]⟩), (.agg #[(.int .u64 n41), (.slice A43 l44 c45)]), (.bool ((IntKind.i64.wrap (x10 + 1)) == x1))] w19.drew) fun vs46 w47 => tC vs46 fun v48 cs49 => tI .i64 v48 fun n50 => tN cs49 (cl (g11 [(.int .i64 n50)] w47) fun vs51 w52 => tC vs51 fun v53 cs54 => tI .i64 v53 fun n55 => tN cs54 (cond (n55 != 0) (some ⟨.ret, [(.bool false)], w52⟩) (butterylaw8_WalKeeps.l0v g7 g8 g9 g10 g11 g12 g26 g27 n m x0A x0l x0c x1 x2 x8 (IntKind.u64.wrap ((IntKind.u64.wrap (n33 + (IntKind.u64.wrap (l37 : Int)))) - 1)) (IntKind.i64.wrap (x10 + 1)) w52))))))) (some ⟨.exit 0, [(.slice x0A x0l x0c), (.int .i64 x1), (.int .i64 x2), (.pointer x8)], w⟩)) := by kernel_rfl
theorem butterylaw8_WalKeeps.l0_succ (n m : Nat) (x0A : Option Addr) (x0l : Nat) (x0c : Nat) (x1 : Int) (x2 : Int) (x8 : Option Addr) (x9 : Int) (x10 : Int) (w : World) : butterylaw8_WalKeeps.l0 n (m + 1) x0A x0l x0c x1 x2 x8 x9 x10 w = (cond (decide (x10 < (x0l : Int))) (ixA x0A x0l x10 2 fun ad11 => opt (w.cell? ad11) fun v12 => tI .u64 v12 fun n13 => opt (w.cell? (Addr.add ad11 1)) fun v14 => tL v14 fun A15 l16 c17 => cl (butteryref1_BatchBytes n [(.agg #[(.int .u64 n13), (.slice A15 l16 c17)])] w) fun vs18 w19 => tC vs18 fun v20 cs21 => tL v20 fun A22 l23 c24 => tC cs21 fun v25 cs26 => tI .i64 v25 fun n27 => tN cs26 (cond (n27 != 0) (some ⟨.ret, [(.bool true)], w19⟩) (ixA x0A x0l x10 2 fun ad28 => opt (w19.cell? ad28) fun v29 => tI .u64 v29 fun n30 => cond (decide (n30 ≤ x9)) (some ⟨.ret, [(.bool true)], w19⟩) (ixA x0A x0l x10 2 fun ad31 => opt (w19.drew.cell? ad31) fun v32 => tI .u64 v32 fun n33 => ixA x0A x0l x10 2 fun ad34 => opt (w19.drew.cell? (Addr.add ad34 1)) fun v35 => tL v35 fun A36 l37 c38 => ixA x0A x0l x10 2 fun ad39 => opt (w19.drew.cell? ad39) fun v40 => tI .u64 v40 fun n41 => opt (w19.drew.cell? (Addr.add ad39 1)) fun v42 => tL v42 fun A43 l44 c45 => cl (wal_Append n [(.pointer x8), (.string ⟨#[108]⟩), (.agg #[(.int .u64 n41), (.slice A43 l44 c45)]), (.bool ((IntKind.i64.wrap (x10 + 1)) == x1))] w19.drew) fun vs46 w47 => tC vs46 fun v48 cs49 => tI .i64 v48 fun n50 => tN cs49 (cl (butterylaw8_num n [(.int .i64 n50)] w47) fun vs51 w52 => tC vs51 fun v53 cs54 => tI .i64 v53 fun n55 => tN cs54 (cond (n55 != 0) (some ⟨.ret, [(.bool false)], w52⟩) (butterylaw8_WalKeeps.l0 n m x0A x0l x0c x1 x2 x8 (IntKind.u64.wrap ((IntKind.u64.wrap (n33 + (IntKind.u64.wrap (l37 : Int)))) - 1)) (IntKind.i64.wrap (x10 + 1)) w52))))))) (some ⟨.exit 0, [(.slice x0A x0l x0c), (.int .i64 x1), (.int .i64 x2), (.pointer x8)], w⟩)) := butterylaw8_WalKeeps.l0v_succ (butterylaw8_alive n) (disk_New n) (wal_Append n) (disk_Disk_Crash n) (butterylaw8_num n) (wal_Recover n) (butteryref1_SameBatches n) (butteryref1_BatchBytes n) n m x0A x0l x0c x1 x2 x8 x9 x10 w
theorem butterylaw8_WalKeeps.v_eq (g7 : CallF) (g8 : CallF) (g9 : CallF) (g10 : CallF) (g11 : CallF) (g12 : CallF) (g26 : CallF) (g27 : CallF) (n : Nat) (a0A : Option Addr) (a0l : Nat) (a0c : Nat) (a1 : Int) (a2 : Int) (w : World) : butterylaw8_WalKeeps.v g7 g8 g9 g10 g11 g12 g26 g27 n [(.slice a0A a0l a0c), (.int .i64 a1), (.int .i64 a2)] w = fin (cl (g7 [] w) fun vs1 w2 => tC vs1 fun v3 cs4 => tB v3 fun b5 => tN cs4 (cond (!b5) (some ⟨.ret, [(.bool b5)], w2⟩) (cond (decide ((a0l : Int) > 10)) (some ⟨.ret, [(.bool b5)], w2⟩) (cond (decide (a1 < 0)) (some ⟨.ret, [(.bool b5)], w2⟩) (cond (decide (a1 > (a0l : Int))) (some ⟨.ret, [(.bool b5)], w2⟩) (cl (g8 [(.int .i64 16777216)] w2) fun vs6 w7 => tC vs6 fun v8 cs9 => tP v8 fun p10 => tN cs9 (jb 0 (butterylaw8_WalKeeps.l0v g7 g8 g9 g10 g11 g12 g26 g27 n n a0A a0l a0c a1 a2 p10 0 0 w7) fun vs56 w57 => tC vs56 fun v58 cs59 => tL v58 fun A60 l61 c62 => tC cs59 fun v63 cs64 => tI .i64 v63 fun n65 => tC cs64 fun v66 cs67 => tI .i64 v66 fun n68 => tC cs67 fun v69 cs70 => tP v69 fun p71 => tN cs70 (cl (g10 [(.pointer p71), (.int .i64 n68)] w57) fun vs72 w73 => tN vs72 (cl (g12 [(.pointer p71), (.string ⟨#[108]⟩)] w73) fun vs74 w75 => tC vs74 fun v76 cs77 => tL v76 fun A78 l79 c80 => tC cs77 fun v81 cs82 => tI .i64 v81 fun n83 => tC cs82 fun v84 cs85 => tI .i64 v84 fun n86 => tN cs85 (cond ((l61 : Int) == 0) (cl (g11 [(.int .i64 n86)] w75) fun vs87 w88 => tC vs87 fun v89 cs90 => tI .i64 v89 fun n91 => tN cs90 (some ⟨.ret, [(.bool (n91 == 8))], w88⟩)) (cl (g11 [(.int .i64 n86)] w75) fun vs92 w93 => tC vs92 fun v94 cs95 => tI .i64 v94 fun n96 => tN cs95 (cond (n96 == 0) (cond (n83 != 2) (cond (decide ((l79 : Int) ≥ n65)) (cond (decide ((l79 : Int) ≤ (l61 : Int))) (cutS A60 c62 0 (l79 : Int) 2 fun A97 l98 c99 => cl (g26 [(.slice A78 l79 c80), (.slice A97 l98 c99)] w93) fun vs100 w101 => tC vs100 fun v102 cs103 => tB v102 fun b104 => tN cs103 (some ⟨.ret, [(.bool b104)], w101⟩)) (some ⟨.ret, [(.bool false)], w93⟩)) (some ⟨.ret, [(.bool false)], w93⟩)) (some ⟨.ret, [(.bool false)], w93⟩)) (some ⟨.ret, [(.bool false)], w93⟩))))))))))))) := by kernel_rfl
theorem butterylaw8_WalKeeps_eq (n : Nat) (a0A : Option Addr) (a0l : Nat) (a0c : Nat) (a1 : Int) (a2 : Int) (w : World) : butterylaw8_WalKeeps n [(.slice a0A a0l a0c), (.int .i64 a1), (.int .i64 a2)] w = fin (cl (butterylaw8_alive n [] w) fun vs1 w2 => tC vs1 fun v3 cs4 => tB v3 fun b5 => tN cs4 (cond (!b5) (some ⟨.ret, [(.bool b5)], w2⟩) (cond (decide ((a0l : Int) > 10)) (some ⟨.ret, [(.bool b5)], w2⟩) (cond (decide (a1 < 0)) (some ⟨.ret, [(.bool b5)], w2⟩) (cond (decide (a1 > (a0l : Int))) (some ⟨.ret, [(.bool b5)], w2⟩) (cl (disk_New n [(.int .i64 16777216)] w2) fun vs6 w7 => tC vs6 fun v8 cs9 => tP v8 fun p10 => tN cs9 (jb 0 (butterylaw8_WalKeeps.l0 n n a0A a0l a0c a1 a2 p10 0 0 w7) fun vs56 w57 => tC vs56 fun v58 cs59 => tL v58 fun A60 l61 c62 => tC cs59 fun v63 cs64 => tI .i64 v63 fun n65 => tC cs64 fun v66 cs67 => tI .i64 v66 fun n68 => tC cs67 fun v69 cs70 => tP v69 fun p71 => tN cs70 (cl (disk_Disk_Crash n [(.pointer p71), (.int .i64 n68)] w57) fun vs72 w73 => tN vs72 (cl (wal_Recover n [(.pointer p71), (.string ⟨#[108]⟩)] w73) fun vs74 w75 => tC vs74 fun v76 cs77 => tL v76 fun A78 l79 c80 => tC cs77 fun v81 cs82 => tI .i64 v81 fun n83 => tC cs82 fun v84 cs85 => tI .i64 v84 fun n86 => tN cs85 (cond ((l61 : Int) == 0) (cl (butterylaw8_num n [(.int .i64 n86)] w75) fun vs87 w88 => tC vs87 fun v89 cs90 => tI .i64 v89 fun n91 => tN cs90 (some ⟨.ret, [(.bool (n91 == 8))], w88⟩)) (cl (butterylaw8_num n [(.int .i64 n86)] w75) fun vs92 w93 => tC vs92 fun v94 cs95 => tI .i64 v94 fun n96 => tN cs95 (cond (n96 == 0) (cond (n83 != 2) (cond (decide ((l79 : Int) ≥ n65)) (cond (decide ((l79 : Int) ≤ (l61 : Int))) (cutS A60 c62 0 (l79 : Int) 2 fun A97 l98 c99 => cl (butteryref1_SameBatches n [(.slice A78 l79 c80), (.slice A97 l98 c99)] w93) fun vs100 w101 => tC vs100 fun v102 cs103 => tB v102 fun b104 => tN cs103 (some ⟨.ret, [(.bool b104)], w101⟩)) (some ⟨.ret, [(.bool false)], w93⟩)) (some ⟨.ret, [(.bool false)], w93⟩)) (some ⟨.ret, [(.bool false)], w93⟩)) (some ⟨.ret, [(.bool false)], w93⟩))))))))))))) := butterylaw8_WalKeeps.v_eq (butterylaw8_alive n) (disk_New n) (wal_Append n) (disk_Disk_Crash n) (butterylaw8_num n) (wal_Recover n) (butteryref1_SameBatches n) (butteryref1_BatchBytes n) n a0A a0l a0c a1 a2 w
theorem butterylaw8_WalKeeps.fn : FnOk Tryd.prog tt 6 Tryd.f6 butterylaw8_WalKeeps.code butterylaw8_WalKeeps.ann butterylaw8_WalKeeps.rs 3 := ⟨by kernel_rfl, by kernel_rfl, by kernel_rfl, by kernel_rfl, by kernel_rfl, by kernel_rfl⟩
theorem butterylaw8_WalKeeps.calls {n : Nat} {vs us : List Value} {w w' : World} (h : butterylaw8_WalKeeps n vs w = some (us, w')) : Calls Tryd.prog 6 vs.toArray w fun e w'' => e = .returned (unL us) ∧ w'' = w' := evF_calls (n := n) tt_ok (.cons (butterylaw8_alive.row n) (.cons (disk_New.row n) (.cons (wal_Append.row n) (.cons (disk_Disk_Crash.row n) (.cons (butterylaw8_num.row n) (.cons (wal_Recover.row n) (.cons (butteryref1_SameBatches.row n) (.cons (butteryref1_BatchBytes.row n) OOk.nil)))))))) mix butterylaw8_WalKeeps.fn h
end Go.Proofs.YtdcdgmiojlldaaaDoor
/- VA VL VP PP -/
/- What the functions of package varint compute, and the document's own. -/
namespace Go.Proofs.YtdcdgmiojlldaaaDoor.Var
open Go Big Go.RowKit Go.IntWalk
set_option linter.unusedVariables false
set_option linter.unusedSimpArgs false
theorem slV : ∃ i, SlT Tryd.prog 28 5 .u8 i := slT (by kernel_rfl)
def enc (x : Nat) : List Int := if h : x < 128 then [(x : Int)] else ((x % 128 + 128 : Nat) : Int) :: enc (x / 128)
theorem enc_small {x : Nat} (h : x < 128) : enc x = [(x : Int)] := by rw [enc, dif_pos h]
theorem enc_big {x : Nat} (h : ¬ x < 128) : enc x = ((x % 128 + 128 : Nat) : Int) :: enc (x / 128) := by rw [enc, dif_neg h]
theorem or128 : ∀ y : Fin 256, bits .or .u8 ((y.val : Nat) : Int) 128 = ((y.val % 128 + 128 : Nat) : Int) := by decide +kernel
theorem byte_more (x : Nat) : bits .or .u8 (IntKind.u8.wrap (x : Int)) 128 = ((x % 128 + 128 : Nat) : Int) := by
  have e : IntKind.u8.wrap (x : Int) = ((x % 256 : Nat) : Int) := by rw [IntKind.wrap_u8]; omega
  have h := or128 ⟨x % 256, Nat.mod_lt _ (by decide)⟩
  simp only at h
  rw [e, h]
  congr 2; omega
theorem enc_len : ∀ (k x : Nat), x < 2 ^ (7 * k + 7) → (enc x).length ≤ k + 1
  | 0, x, h => by rw [enc_small (by simpa using h)]; simp
  | k + 1, x, h => by
    by_cases hx : x < 128
    · rw [enc_small hx]; simp
    · rw [enc_big hx, List.length_cons]
      have : x / 128 < 2 ^ (7 * k + 7) := by
        have e : 2 ^ (7 * (k + 1) + 7) = 2 ^ (7 * k + 7) * 128 := by rw [show 7 * (k + 1) + 7 = 7 * k + 7 + 7 by omega, Nat.pow_add]
        rw [e] at h
        omega
      have := enc_len k _ this
      omega
theorem Put_l0 {n : Nat} {w0 : World} : ∀ (k m x : Nat) (A : Option Addr) (c : Nat) (xs : List Int) (w : World), x < 2 ^ (7 * k + 7) → k < m → xs.length + k ≤ 2 ^ 39 →
    Own .u8 5 w w0.heap.size (.slice A xs.length c) xs → Kp w0 w →
    ∃ A' c' ys w' y, varint_Put.l0 n m (x : Int) A xs.length c w = some ⟨.exit 0, [.int .u64 ((y : Nat) : Int), .slice A' ys.length c'], w'⟩ ∧ Own .u8 5 w' w0.heap.size (.slice A' ys.length c') ys ∧ Kp w0 w' ∧ y < 128 ∧ xs ++ enc x = ys ++ [(y : Int)] ∧ ys.length ≤ xs.length + k := by
  intro k
  induction k with
  | zero =>
    intro m x A c xs w hx hm hl ho hk
    obtain ⟨m, rfl⟩ : ∃ m', m = m' + 1 := ⟨m - 1, by omega⟩
    have hx : x < 128 := by simpa using hx
    exact ⟨A, c, xs, w, x, by rw [varint_Put.l0_succ, cF (by simp; omega)], ho, hk, hx, by rw [enc_small hx], by omega⟩
  | succ k ih =>
    intro m x A c xs w hx hm hl ho hk
    obtain ⟨m, rfl⟩ : ∃ m', m = m' + 1 := ⟨m - 1, by omega⟩
    by_cases h128 : x < 128
    · exact ⟨A, c, xs, w, x, by rw [varint_Put.l0_succ, cF (by simp; omega)], ho, hk, h128, by rw [enc_small h128], by omega⟩
    · obtain ⟨i8, hT⟩ := slV
      have hlit : Own .u8 5 (w.alloc (.cells ([((x % 128 + 128 : Nat) : Int)].map (Value.int .u8)).toArray 5)) w.heap.size (.slice (some ⟨w.heap.size, 0, none⟩) 1 1) [((x % 128 + 128 : Nat) : Int)] := Own.lit w [((x % 128 + 128 : Nat) : Int)] (by simp [maxLen])
      have k1 : Kp w (w.alloc (.cells ([((x % 128 + 128 : Nat) : Int)].map (Value.int .u8)).toArray 5)) := (Kp.rfl' w).al _
      obtain ⟨v, w2, e2, o2, g2, b2⟩ := append_run (P := Tryd.prog) hT _ w0.heap.size 28 (ho.kp k1) hlit.sl.2 (fun h => by cases h) (by omega) (Nat.le_trans hk.size k1.size)
      obtain ⟨A', c', rfl⟩ := o2.slice
      have hx' : x / 128 < 2 ^ (7 * k + 7) := by
        have e : 2 ^ (7 * (k + 1) + 7) = 2 ^ (7 * k + 7) * 128 := by rw [show 7 * (k + 1) + 7 = 7 * k + 7 + 7 by omega, Nat.pow_add]
        rw [e] at hx
        omega
      obtain ⟨A2, c2, ys, w3, y, e3, o3, k3, hy, happ, hlen⟩ := ih m (x / 128) A' c' (xs ++ [((x % 128 + 128 : Nat) : Int)]) w2 hx' (by omega) (by simp; omega) o2 ((hk.tr k1).gr g2 (fun b hb => (ho.lt b hb).1))
      refine ⟨A2, c2, ys, w3, y, ?_, o3, k3, hy, ?_, by simp at hlen; omega⟩
      · have ef : Int.fdiv (x : Int) (2 ^ 7) = ((x / 128 : Nat) : Int) := by rw [Int.fdiv_eq_ediv_of_nonneg _ (by decide)]; rfl
        have e2' := fun (f : Value → World → Option Res) => e2 f
        have ee : ∀ z : Int, (w.alloc (.cells #[(.int .u8 z)] 5)) = w.alloc (.cells ([z].map (Value.int .u8)).toArray 5) := fun z => rfl
        rw [varint_Put.l0_succ, cT (by simp; omega), byte_more, al_eq, ee, e2', tL_mk, ef, e3]
      · rw [enc_big h128, ← happ]; simp
theorem Put_spec {n : Nat} (hn : 100 < n) {w : World} {B : Option Addr} {l d : Nat} {bs : List Int} (hb : Sl .u8 w B l bs) (hB : B = none → l = 0 ∧ d = 0) (hl : l ≤ 2 ^ 38) (x : Nat) (hx : x < 2 ^ 64) :
    ∃ A c w', varint_Put n [.slice B l d, .int .u64 (x : Int)] w = some ([.slice A (bs ++ enc x).length c], w') ∧ Own .u8 5 w' w.heap.size (.slice A (bs ++ enc x).length c) (bs ++ enc x) ∧ Kp w w' := by
  obtain ⟨i8, hT⟩ := slV
  have hbl := hb.1
  obtain ⟨v, w2, e2, o2, g2, b2⟩ := append_run (P := Tryd.prog) hT w w.heap.size 28 (Own.nil w _) hb hB (by simp; omega) (Nat.le_refl _)
  rw [List.nil_append] at o2
  obtain ⟨A', c', rfl⟩ := o2.slice
  obtain ⟨A2, c2, ys, w3, y, e3, o3, k3, hy, happ, hlen⟩ := Put_l0 (n := n) (w0 := w) 9 n x A' c' bs w2 (by omega) (by omega) (by omega) o2 ((Kp.rfl' w).gr g2 (by simp [Value.ownBlock]))
  have hlit : Own .u8 5 (w3.alloc (.cells ([(y : Int)].map (Value.int .u8)).toArray 5)) w3.heap.size (.slice (some ⟨w3.heap.size, 0, none⟩) 1 1) [(y : Int)] := Own.lit w3 [(y : Int)] (by simp [maxLen])
  have k4 : Kp w3 (w3.alloc (.cells ([(y : Int)].map (Value.int .u8)).toArray 5)) := (Kp.rfl' w3).al _
  obtain ⟨v, w5, e5, o5, g5, b5⟩ := append_run (P := Tryd.prog) hT _ w.heap.size 28 (o3.kp k4) hlit.sl.2 (fun h => by cases h) (by omega) (Nat.le_trans k3.size k4.size)
  rw [← happ] at o5
  obtain ⟨A3, c3, rfl⟩ := o5.slice
  refine ⟨A3, c3, w5, ?_, o5, (k3.tr k4).gr g5 (fun b hb => (o3.lt b hb).1)⟩
  have e2' := fun (f : Value → World → Option Res) => e2 f
  have e5' := fun (f : Value → World → Option Res) => e5 f
  have ee : ∀ z : Int, (w3.alloc (.cells #[(.int .u8 z)] 5)) = w3.alloc (.cells ([z].map (Value.int .u8)).toArray 5) := fun z => rfl
  have hu : IntKind.u8.wrap (y : Int) = y := u8_in _ (by omega)
  rw [varint_Put_eq, e2', tL_mk, e3, jb_exit, tC_mk, tI_mk, tC_mk, tL_mk, tN_mk, hu, al_eq, ee, e5', tL_mk, fin_ret]
def gv (at' : Int) : Nat → Int → List Int → Int × Int × Int
  | _, _, [] => (0, 0, 4)
  | i, acc, c :: cs =>
    if ((i : Int) = 9 ∧ c > 1) ∨ (0 < (i : Int) ∧ c = 0) then (0, 0, 2)
    else if c < 128 then (bits .or .u64 acc (IntKind.u64.wrap ((IntKind.u64.wrap (bits .and .u8 c 127)) * 2 ^ (7 * i))), at' + i + 1, 0)
    else gv at' (i + 1) (bits .or .u64 acc (IntKind.u64.wrap ((IntKind.u64.wrap (bits .and .u8 c 127)) * 2 ^ (7 * i)))) cs
def gr (r : Int × Int × Int) : List Value := [.int .u64 r.1, .int .i64 r.2.1, .int .i64 r.2.2]
theorem tree {α : Type} (i c : Int) (R N : α) : cond (i == 9) (cond (decide (c > 1)) R (cond (decide (i > 0)) (cond (c == 0) R N) N)) (cond (decide (i > 0)) (cond (c == 0) R N) N) = if (i = 9 ∧ c > 1) ∨ (0 < i ∧ c = 0) then R else N := by
  have b0 : ∀ x : Int, (x == 0) = decide (x = 0) := fun x => by by_cases h : x = 0 <;> simp [h]
  have b9 : ∀ x : Int, (x == 9) = decide (x = 9) := fun x => by by_cases h : x = 9 <;> simp [h]
  rw [b0, b9]
  by_cases h1 : i = 9 <;> by_cases h2 : c > 1 <;> by_cases h3 : i > 0 <;> by_cases h4 : c = 0 <;> simp [h1, h2, h3, h4] <;> omega
theorem Get_l0 {n : Nat} {w : World} {A : Option Addr} {l c : Nat} {xs : List Int} (hs : Sl .u8 w A l xs) (hb : ∀ x ∈ xs, 0 ≤ x ∧ x ≤ 255) (hl : l < 2 ^ 60) (at' : Int) (h0 : 0 ≤ at') (h1 : at' < 2 ^ 60) :
    ∀ (k i m : Nat) (acc : Int), i + k = l → k < m → i ≤ 9 →
    (jb 0 (varint_Get.l0 n m at' acc A l c (l : Int) (i : Int) w) fun vs w => tN vs (some ⟨.ret, [.int .u64 0, .int .i64 0, .int .i64 4], w⟩)) = some ⟨.ret, gr (gv at' i acc (xs.drop i)), w⟩ := by
  intro k
  induction k with
  | zero =>
    intro i m acc hi hm h9
    obtain ⟨m, rfl⟩ : ∃ m', m = m' + 1 := ⟨m - 1, by omega⟩
    rw [varint_Get.l0_succ, cF (by simp; omega), jb_exit, tN_mk, List.drop_of_length_le (by rw [hs.1]; omega)]
    rfl
  | succ k ih =>
    intro i m acc hi hm h9
    obtain ⟨m, rfl⟩ : ∃ m', m = m' + 1 := ⟨m - 1, by omega⟩
    have hlen : i < xs.length := by rw [hs.1]; omega
    have e1 : xs.getD (i : Int).toNat 0 = xs[i] := by simp [List.getD_eq_getElem?_getD, hlen]
    have hc := hb xs[i] (List.getElem_mem _)
    rw [varint_Get.l0_succ, cT (by simp; omega), hs.ix (by omega) (by omega), e1, tree, List.drop_eq_getElem_cons hlen, gv]
    generalize hz : xs[i] = z at hc ⊢
    by_cases hbad : ((i : Int) = 9 ∧ z > 1) ∨ (0 < (i : Int) ∧ z = 0)
    · rw [if_pos hbad, if_pos hbad, jm_ret, jb_ret]; rfl
    · rw [if_neg hbad, if_neg hbad, jm_norm, tC_mk, tI_mk, tC_mk, tI_mk, tC_mk, tI_mk, tC_mk, tI_mk, tC_mk, tL_mk, tC_mk, tI_mk, tC_mk, tI_mk, tN_mk]
      have e7 : IntKind.i64.wrap (7 * (i : Int)) = ((7 * i : Nat) : Int) := by rw [i64_in _ (by omega)]; omega
      have em : min ((7 * i : Nat) : Int).toNat 64 = 7 * i := by omega
      rw [e7, if_neg (by omega), em]
      by_cases h128 : z < 128
      · have e8 : IntKind.i64.wrap (IntKind.i64.wrap (at' + (i : Int)) + 1) = at' + i + 1 := by rw [i64_in (at' + i) (by omega), i64_in _ (by omega)]
        rw [cT (by simpa using h128), if_pos h128, jb_ret, e8]; rfl
      · have e9 : IntKind.i64.wrap ((i : Int) + 1) = ((i + 1 : Nat) : Int) := by rw [i64_in _ (by omega)]; omega
        rw [cF (by simpa using h128), if_neg h128, e9]
        exact ih (i + 1) m _ (by omega) (by omega) (by omega)
def getR (bs : List Int) (at' : Int) : Int × Int × Int := if at' < 0 then (0, 0, 1) else if at' > bs.length then (0, 0, 1) else gv at' 0 0 (bs.drop at'.toNat)
theorem Get_spec {n : Nat} (hn : 2 ^ 59 < n) {w : World} {A : Option Addr} {l c : Nat} {bs : List Int} (hs : Sl .u8 w A l bs) (hb : ∀ x ∈ bs, 0 ≤ x ∧ x ≤ 255) (hl : l < 2 ^ 58) (hc : l ≤ c) (at' : Int) :
    varint_Get n [.slice A l c, .int .i64 at'] w = some (gr (getR bs at'), w) := by
  have hlen := hs.1
  rw [varint_Get_eq]
  unfold getR
  by_cases g1 : at' < 0
  · rw [cT (by simpa using g1), if_pos g1, fin_ret]; rfl
  rw [cF (by simpa using g1), if_neg g1]
  by_cases g2 : at' > (l : Int)
  · rw [cT (by simpa using g2), if_pos (by omega), fin_ret]; rfl
  rw [cF (by simpa using g2), if_neg (by omega)]
  obtain ⟨A', e, hs', _, hc'⟩ := hs.cut (lo := at') (hi := l) (c := c) (by omega) (by omega) (by omega) hc
  rw [e]
  have e2 : (bs.take (l : Int).toNat).drop at'.toNat = bs.drop at'.toNat := by rw [Int.toNat_natCast, List.take_of_length_le (by omega)]
  rw [e2] at hs'
  have h := Get_l0 (n := n) (c := c - at'.toNat) hs' (fun x hx => hb x (List.mem_of_mem_drop hx)) (by omega) at' (by omega) (by omega) ((l : Int).toNat - at'.toNat) 0 n 0 (by omega) (by omega) (by omega)
  have h : (jb 0 (varint_Get.l0 n n at' 0 A' ((l : Int).toNat - at'.toNat) (c - at'.toNat) (((l : Int).toNat - at'.toNat : Nat) : Int) 0 w) _) = _ := h
  rw [h, fin_ret]; rfl
theorem fdiv7 (y : Nat) : Int.fdiv (y : Int) (2 ^ 7) = ((y / 128 : Nat) : Int) := by rw [Int.fdiv_eq_ediv_of_nonneg _ (by decide)]; rfl
theorem clG {α : Type} {r : Int × Int × Int} {w : World} {f : Int → Int → Int → World → Option α} :
    (cl (some (gr r, w)) fun vs w => tC vs fun v cs => tI .u64 v fun a => tC cs fun v cs => tI .i64 v fun b => tC cs fun v cs => tI .i64 v fun c => tN cs (f a b c w)) = f r.1 r.2.1 r.2.2 w := by
  rw [cl_some, gr, tC_mk, tI_mk, tC_mk, tI_mk, tC_mk, tI_mk, tN_mk]
theorem or64 {x y k : Nat} (hx : x < 2 ^ k) (h : x + y * 2 ^ k < 2 ^ 64) : bits .or .u64 (x : Int) ((y * 2 ^ k : Nat) : Int) = ((x + y * 2 ^ k : Nat) : Int) := by
  have e : x ||| y * 2 ^ k = x + y * 2 ^ k := by
    rw [Nat.or_comm, Nat.mul_comm, ← Nat.two_pow_add_eq_or_of_lt hx, Nat.add_comm]
  have hx64 : x < 2 ^ 64 := by omega
  have hy64 : y * 2 ^ k < 2 ^ 64 := by omega
  have hb : (BitVec.ofNat 64 x ||| BitVec.ofNat 64 (y * 2 ^ k)).toNat = x + y * 2 ^ k := by
    rw [BitVec.toNat_or, BitVec.toNat_ofNat, BitVec.toNat_ofNat, Nat.mod_eq_of_lt hx64, Nat.mod_eq_of_lt hy64, e]
  unfold bits
  simp only [IntKind.bits, BitVec.ofInt_natCast]
  show IntKind.u64.wrap (((BitVec.ofNat 64 x ||| BitVec.ofNat 64 (y * 2 ^ k)).toNat : Nat) : Int) = _
  rw [hb]
  generalize x + y * 2 ^ k = z at h ⊢
  exact u64_in (z : Int) (by omega)
theorem and127f : ∀ y : Fin 256, bits .and .u8 ((y.val : Nat) : Int) 127 = ((y.val % 128 : Nat) : Int) := by decide +kernel
theorem and127 {y : Nat} (h : y < 256) : bits .and .u8 (y : Int) 127 = ((y % 128 : Nat) : Int) := and127f ⟨y, h⟩
theorem join {acc c i : Nat} (ha : acc < 2 ^ (7 * i)) (hc : c < 256) (h : acc + (c % 128) * 2 ^ (7 * i) < 2 ^ 64) :
    bits .or .u64 (acc : Int) (IntKind.u64.wrap ((IntKind.u64.wrap (bits .and .u8 (c : Int) 127)) * 2 ^ (7 * i))) = ((acc + (c % 128) * 2 ^ (7 * i) : Nat) : Int) := by
  have e1 : IntKind.u64.wrap ((c % 128 : Nat) : Int) = ((c % 128 : Nat) : Int) := u64_in _ (by omega)
  have e2 : ((c % 128 : Nat) : Int) * 2 ^ (7 * i) = (((c % 128) * 2 ^ (7 * i) : Nat) : Int) := by rw [Int.natCast_mul, Int.natCast_pow]; rfl
  have e3 : IntKind.u64.wrap (((c % 128) * 2 ^ (7 * i) : Nat) : Int) = (((c % 128) * 2 ^ (7 * i) : Nat) : Int) := by
    generalize (c % 128) * 2 ^ (7 * i) = z at h ⊢
    exact u64_in _ (by omega)
  rw [and127 hc, e1, e2, e3, or64 ha h]
theorem pow_split (i : Nat) (h : 7 * i + 7 ≤ 64) : 2 ^ (64 - 7 * i) = 2 ^ (64 - 7 * (i + 1)) * 128 := by
  rw [show (128 : Nat) = 2 ^ 7 from rfl, ← Nat.pow_add]; congr 1; omega
theorem fit {acc x i : Nat} (hi : 7 * i ≤ 64) (ha : acc < 2 ^ (7 * i)) (hx : x < 2 ^ (64 - 7 * i)) : acc + x * 2 ^ (7 * i) < 2 ^ 64 := by
  have h1 : (x + 1) * 2 ^ (7 * i) ≤ 2 ^ (64 - 7 * i) * 2 ^ (7 * i) := Nat.mul_le_mul_right _ hx
  rw [← Nat.pow_add, show 64 - 7 * i + 7 * i = 64 by omega, Nat.add_mul, Nat.one_mul] at h1
  omega
theorem gv_enc (at' : Int) (rest : List Int) : ∀ (k x i acc : Nat), x < 2 ^ (7 * k + 7) → i ≤ 9 → acc < 2 ^ (7 * i) → x < 2 ^ (64 - 7 * i) → (0 < i → 0 < x) →
    gv at' i (acc : Int) (enc x ++ rest) = (((acc + x * 2 ^ (7 * i) : Nat) : Int), at' + i + (enc x).length, 0) := by
  intro k
  induction k with
  | zero =>
    intro x i acc hk hi ha hx h0
    have h128 : x < 128 := by simpa using hk
    have h9 : ¬ (((i : Int) = 9 ∧ (x : Int) > 1) ∨ (0 < (i : Int) ∧ (x : Int) = 0)) := by
      rintro (⟨h, h'⟩ | ⟨h, h'⟩)
      · have : i = 9 := by omega
        subst this
        have : x < 2 := by simpa using hx
        omega
      · have := h0 (by omega); omega
    have hm : x % 128 = x := Nat.mod_eq_of_lt h128
    have hj := join (acc := acc) (c := x) (i := i) ha (by omega) (by rw [hm]; exact fit (by omega) ha hx)
    rw [enc_small h128, List.cons_append, gv, if_neg h9, if_pos (by omega), hj, hm]
    rfl
  | succ k ih =>
    intro x i acc hk hi ha hx h0
    by_cases h128 : x < 128
    · have h9 : ¬ (((i : Int) = 9 ∧ (x : Int) > 1) ∨ (0 < (i : Int) ∧ (x : Int) = 0)) := by
        rintro (⟨h, h'⟩ | ⟨h, h'⟩)
        · have : i = 9 := by omega
          subst this
          have : x < 2 := by simpa using hx
          omega
        · have := h0 (by omega); omega
      have hm : x % 128 = x := Nat.mod_eq_of_lt h128
      have hj := join (acc := acc) (c := x) (i := i) ha (by omega) (by rw [hm]; exact fit (by omega) ha hx)
      rw [enc_small h128, List.cons_append, gv, if_neg h9, if_pos (by omega), hj, hm]
      rfl
    · have hi8 : i ≤ 8 := by
        rcases Nat.lt_or_ge 8 i with h | h
        · have : i = 9 := by omega
          subst this
          have : x < 2 := by simpa using hx
          omega
        · exact h
      have h9 : ¬ (((i : Int) = 9 ∧ ((x % 128 + 128 : Nat) : Int) > 1) ∨ (0 < (i : Int) ∧ ((x % 128 + 128 : Nat) : Int) = 0)) := by omega
      have hm : (x % 128 + 128) % 128 = x % 128 := by omega
      have hf := fit (by omega) ha hx
      have hle : x % 128 * 2 ^ (7 * i) ≤ x * 2 ^ (7 * i) := Nat.mul_le_mul_right _ (Nat.mod_le _ _)
      have hj := join (acc := acc) (c := x % 128 + 128) (i := i) ha (by omega) (by rw [hm]; omega)
      have hp : 2 ^ (7 * (i + 1)) = 128 * 2 ^ (7 * i) := by rw [show 7 * (i + 1) = 7 + 7 * i by omega, Nat.pow_add]
      have hacc : acc + x % 128 * 2 ^ (7 * i) < 2 ^ (7 * (i + 1)) := by
        rw [hp]
        have h1 : (x % 128 + 1) * 2 ^ (7 * i) ≤ 128 * 2 ^ (7 * i) := Nat.mul_le_mul_right _ (Nat.mod_lt _ (by decide))
        rw [Nat.add_mul, Nat.one_mul] at h1
        omega
      have hx' : x / 128 < 2 ^ (64 - 7 * (i + 1)) := by
        rw [pow_split i (by omega)] at hx; omega
      have hk' : x / 128 < 2 ^ (7 * k + 7) := by
        have e : 2 ^ (7 * (k + 1) + 7) = 2 ^ (7 * k + 7) * 128 := by rw [show 7 * (k + 1) + 7 = 7 * k + 7 + 7 by omega, Nat.pow_add]
        rw [e] at hk; omega
      have hr := ih (x / 128) (i + 1) (acc + x % 128 * 2 ^ (7 * i)) hk' (by omega) hacc hx' (fun _ => by omega)
      rw [enc_big h128, List.cons_append, gv, if_neg h9, if_neg (by omega), hj, hm, hr]
      have e1 : acc + x % 128 * 2 ^ (7 * i) + x / 128 * 2 ^ (7 * (i + 1)) = acc + x * 2 ^ (7 * i) := by
        rw [hp, ← Nat.mul_assoc, Nat.add_assoc, ← Nat.add_mul]
        congr 2; omega
      rw [e1, List.length_cons]
      congr 2; omega
theorem enc_bytes : ∀ (k x : Nat), x < 2 ^ (7 * k + 7) → ∀ y ∈ enc x, 0 ≤ y ∧ y ≤ 255
  | 0, x, h => by rw [enc_small (by simpa using h)]; have : x < 128 := by simpa using h
                  intro y hy; rw [List.mem_singleton] at hy; omega
  | k + 1, x, h => by
    by_cases h128 : x < 128
    · rw [enc_small h128]; intro y hy; rw [List.mem_singleton] at hy; omega
    · rw [enc_big h128]
      have hk' : x / 128 < 2 ^ (7 * k + 7) := by
        have e : 2 ^ (7 * (k + 1) + 7) = 2 ^ (7 * k + 7) * 128 := by rw [show 7 * (k + 1) + 7 = 7 * k + 7 + 7 by omega, Nat.pow_add]
        rw [e] at h; omega
      intro y hy
      rcases List.mem_cons.1 hy with rfl | hy
      · omega
      · exact enc_bytes k _ hk' y hy
theorem getR_enc (bs rest : List Int) (x : Nat) (hx : x < 2 ^ 64) : getR (bs ++ enc x ++ rest) (bs.length : Int) = ((x : Int), ((bs.length + (enc x).length : Nat) : Int), 0) := by
  have h := gv_enc (bs.length : Int) rest 9 x 0 0 (by omega) (by omega) (by decide) (by simpa using hx) (fun h => absurd h (by omega))
  unfold getR
  rw [if_neg (by omega), if_neg (by simp; omega), List.append_assoc, Int.toNat_natCast, List.drop_left]
  have h : gv (bs.length : Int) 0 0 (enc x ++ rest) = _ := h
  rw [h]; simp
theorem and_127 (z : Nat) (h : z < 2 ^ 64) : bits .and .u64 (z : Int) 127 = ((z % 128 : Nat) : Int) := by
  have hb : (BitVec.ofNat 64 z &&& BitVec.ofNat 64 127).toNat = z % 128 := by
    rw [BitVec.toNat_and, BitVec.toNat_ofNat, BitVec.toNat_ofNat, Nat.mod_eq_of_lt h]
    exact Nat.and_two_pow_sub_one_eq_mod z 7
  unfold bits
  simp only [IntKind.bits]
  show IntKind.u64.wrap (((BitVec.ofInt 64 (z : Int) &&& BitVec.ofInt 64 ((127 : Nat) : Int)).toNat : Nat) : Int) = _
  rw [BitVec.ofInt_natCast, BitVec.ofInt_natCast, hb]
  exact u64_in _ (by omega)
theorem byte_more' (x : Nat) (h : x < 2 ^ 64) : IntKind.u8.wrap (bits .or .u64 (bits .and .u64 (x : Int) 127) 128) = ((x % 128 + 128 : Nat) : Int) := by
  have := or64 (x := x % 128) (y := 1) (k := 7) (by omega) (by omega)
  rw [and_127 x h]
  have e : bits .or .u64 ((x % 128 : Nat) : Int) 128 = ((x % 128 + 128 : Nat) : Int) := this
  rw [e]
  exact u8_in _ (by omega)
theorem RPut_l0 {n : Nat} {w0 : World} : ∀ (k m x : Nat) (A : Option Addr) (c : Nat) (xs : List Int) (w : World), x < 2 ^ (7 * k + 7) → x < 2 ^ 64 → k < m → xs.length + k ≤ 2 ^ 39 →
    Own .u8 5 w w0.heap.size (.slice A xs.length c) xs → Kp w0 w →
    ∃ A' c' ys w' y, butteryref1_PutVar.l0 n m (x : Int) A xs.length c w = some ⟨.exit 0, [.int .u64 ((y : Nat) : Int), .slice A' ys.length c'], w'⟩ ∧ Own .u8 5 w' w0.heap.size (.slice A' ys.length c') ys ∧ Kp w0 w' ∧ y < 128 ∧ xs ++ enc x = ys ++ [(y : Int)] ∧ ys.length ≤ xs.length + k := by
  intro k
  induction k with
  | zero =>
    intro m x A c xs w hx h64 hm hl ho hk
    obtain ⟨m, rfl⟩ : ∃ m', m = m' + 1 := ⟨m - 1, by omega⟩
    have hx : x < 128 := by simpa using hx
    exact ⟨A, c, xs, w, x, by rw [butteryref1_PutVar.l0_succ, cF (by simp; omega)], ho, hk, hx, by rw [enc_small hx], by omega⟩
  | succ k ih =>
    intro m x A c xs w hx h64 hm hl ho hk
    obtain ⟨m, rfl⟩ : ∃ m', m = m' + 1 := ⟨m - 1, by omega⟩
    by_cases h128 : x < 128
    · exact ⟨A, c, xs, w, x, by rw [butteryref1_PutVar.l0_succ, cF (by simp; omega)], ho, hk, h128, by rw [enc_small h128], by omega⟩
    · obtain ⟨i8, hT⟩ := slV
      have hlit : Own .u8 5 (w.alloc (.cells ([((x % 128 + 128 : Nat) : Int)].map (Value.int .u8)).toArray 5)) w.heap.size (.slice (some ⟨w.heap.size, 0, none⟩) 1 1) [((x % 128 + 128 : Nat) : Int)] := Own.lit w [((x % 128 + 128 : Nat) : Int)] (by simp [maxLen])
      have k1 : Kp w (w.alloc (.cells ([((x % 128 + 128 : Nat) : Int)].map (Value.int .u8)).toArray 5)) := (Kp.rfl' w).al _
      obtain ⟨v, w2, e2, o2, g2, b2⟩ := append_run (P := Tryd.prog) hT _ w0.heap.size 28 (ho.kp k1) hlit.sl.2 (fun h => by cases h) (by omega) (Nat.le_trans hk.size k1.size)
      obtain ⟨A', c', rfl⟩ := o2.slice
      have hx' : x / 128 < 2 ^ (7 * k + 7) := by
        have e : 2 ^ (7 * (k + 1) + 7) = 2 ^ (7 * k + 7) * 128 := by rw [show 7 * (k + 1) + 7 = 7 * k + 7 + 7 by omega, Nat.pow_add]
        rw [e] at hx
        omega
      obtain ⟨A2, c2, ys, w3, y, e3, o3, k3, hy, happ, hlen⟩ := ih m (x / 128) A' c' (xs ++ [((x % 128 + 128 : Nat) : Int)]) w2 hx' (by omega) (by omega) (by simp; omega) o2 ((hk.tr k1).gr g2 (fun b hb => (ho.lt b hb).1))
      refine ⟨A2, c2, ys, w3, y, ?_, o3, k3, hy, ?_, by simp at hlen; omega⟩
      · have e2' := fun (f : Value → World → Option Res) => e2 f
        have ee : ∀ z : Int, (w.alloc (.cells #[(.int .u8 z)] 5)) = w.alloc (.cells ([z].map (Value.int .u8)).toArray 5) := fun z => rfl
        rw [butteryref1_PutVar.l0_succ, cT (by simp; omega), byte_more' x h64, al_eq, ee, e2', tL_mk, fdiv7, e3]
      · rw [enc_big h128, ← happ]; simp
theorem RPut_spec {n : Nat} (hn : 100 < n) {w : World} {B : Option Addr} {l d : Nat} {bs : List Int} (hb : Sl .u8 w B l bs) (hB : B = none → l = 0 ∧ d = 0) (hl : l ≤ 2 ^ 38) (x : Nat) (hx : x < 2 ^ 64) :
    ∃ A c w', butteryref1_PutVar n [.slice B l d, .int .u64 (x : Int)] w = some ([.slice A (bs ++ enc x).length c], w') ∧ Own .u8 5 w' w.heap.size (.slice A (bs ++ enc x).length c) (bs ++ enc x) ∧ Kp w w' := by
  obtain ⟨i8, hT⟩ := slV
  have hbl := hb.1
  obtain ⟨v, w2, e2, o2, g2, b2⟩ := append_run (P := Tryd.prog) hT w w.heap.size 28 (Own.nil w _) hb hB (by simp; omega) (Nat.le_refl _)
  rw [List.nil_append] at o2
  obtain ⟨A', c', rfl⟩ := o2.slice
  obtain ⟨A2, c2, ys, w3, y, e3, o3, k3, hy, happ, hlen⟩ := RPut_l0 (n := n) (w0 := w) 9 n x A' c' bs w2 (by omega) hx (by omega) (by omega) o2 ((Kp.rfl' w).gr g2 (by simp [Value.ownBlock]))
  have hlit : Own .u8 5 (w3.alloc (.cells ([(y : Int)].map (Value.int .u8)).toArray 5)) w3.heap.size (.slice (some ⟨w3.heap.size, 0, none⟩) 1 1) [(y : Int)] := Own.lit w3 [(y : Int)] (by simp [maxLen])
  have k4 : Kp w3 (w3.alloc (.cells ([(y : Int)].map (Value.int .u8)).toArray 5)) := (Kp.rfl' w3).al _
  obtain ⟨v, w5, e5, o5, g5, b5⟩ := append_run (P := Tryd.prog) hT _ w.heap.size 28 (o3.kp k4) hlit.sl.2 (fun h => by cases h) (by omega) (Nat.le_trans k3.size k4.size)
  rw [← happ] at o5
  obtain ⟨A3, c3, rfl⟩ := o5.slice
  refine ⟨A3, c3, w5, ?_, o5, (k3.tr k4).gr g5 (fun b hb => (o3.lt b hb).1)⟩
  have e2' := fun (f : Value → World → Option Res) => e2 f
  have e5' := fun (f : Value → World → Option Res) => e5 f
  have ee : ∀ z : Int, (w3.alloc (.cells #[(.int .u8 z)] 5)) = w3.alloc (.cells ([z].map (Value.int .u8)).toArray 5) := fun z => rfl
  have hu : IntKind.u8.wrap (y : Int) = y := u8_in _ (by omega)
  rw [butteryref1_PutVar_eq, e2', tL_mk, e3, jb_exit, tC_mk, tI_mk, tC_mk, tL_mk, tN_mk, hu, al_eq, ee, e5', tL_mk, fin_ret]
theorem enc_wf {x : Nat} (hx : x < 2 ^ 64) : ∀ z ∈ enc x, (Lit.int .u8 z).wf = true := fun z hz => by
  have := enc_bytes 9 x (by omega) z hz
  have h0 : IntKind.u8.min = 0 := rfl
  have h1 : IntKind.u8.max = 255 := rfl
  simp only [Lit.wf, h0, h1, Bool.and_eq_true, decide_eq_true_eq]; omega
section
variable {n : Nat} {w : World} {A : Option Addr} {l c : Nat} {xs : List Int}
theorem PutS (hx : Bv .u8 w A l c xs) (hl : l ≤ 2 ^ 38) {x : Int} (h : 0 ≤ x ∧ x < 2 ^ 64) (hn : 100 < n) : Rt (varint_Put n [.slice A l c, .int .u64 x] w) (RO .u8 5 w (xs ++ enc x.toNat)) := by
  obtain ⟨B, d, w', h1, h2, h3⟩ := Put_spec (n := n) hn hx.sl hx.nil hl x.toNat (by omega)
  rw [show ((x.toNat : Nat) : Int) = x by omega] at h1
  exact ⟨_, h1, B, d, w', rfl, h2, h3⟩
theorem u8b {xs : List Int} (h : ∀ x ∈ xs, (Lit.int .u8 x).wf = true) : ∀ x ∈ xs, 0 ≤ x ∧ x ≤ 255 := fun x hx => by have := u8wf (h x hx); omega
theorem GetS (hx : Bv .u8 w A l c xs) (hl : l < 2 ^ 58) (hn : 2 ^ 59 < n) (i : Int) : varint_Get n [.slice A l c, .int .i64 i] w = some (gr (getR xs i), w) := Get_spec hn hx.sl (u8b hx.rng) hl hx.cap i
theorem own_nil {e : TypeId} {k : IntKind} {base : Nat} {A : Option Addr} {l c : Nat} {xs : List Int} (h : Own k e w base (.slice A l c) xs) : A = none → l = 0 ∧ c = 0 := by
  intro hA; subst hA
  rcases h.2 with ⟨h', hn'⟩ | ⟨g, cap, cur, h', _⟩
  · injection h' with _ h1 h2; exact ⟨h1, h2⟩
  · injection h' with h1 _ _; cases h1
theorem PutO {base : Nat} (ho : Own .u8 5 w base (.slice A l c) xs) (hl : l ≤ 2 ^ 38) {x : Int} (h : 0 ≤ x ∧ x < 2 ^ 64) (hn : 100 < n) : Rt (varint_Put n [.slice A l c, .int .u64 x] w) (RO .u8 5 w (xs ++ enc x.toNat)) := by
  obtain ⟨B, d, w', h1, h2, h3⟩ := Put_spec (n := n) hn ho.sl.2 (own_nil ho) hl x.toNat (by omega)
  rw [show ((x.toNat : Nat) : Int) = x by omega] at h1
  exact ⟨_, h1, B, d, w', rfl, h2, h3⟩
theorem RPutO {base : Nat} (ho : Own .u8 5 w base (.slice A l c) xs) (hl : l ≤ 2 ^ 38) {x : Int} (h : 0 ≤ x ∧ x < 2 ^ 64) (hn : 100 < n) : Rt (butteryref1_PutVar n [.slice A l c, .int .u64 x] w) (RO .u8 5 w (xs ++ enc x.toNat)) := by
  obtain ⟨B, d, w', h1, h2, h3⟩ := RPut_spec (n := n) hn ho.sl.2 (own_nil ho) hl x.toNat (by omega)
  rw [show ((x.toNat : Nat) : Int) = x by omega] at h1
  exact ⟨_, h1, B, d, w', rfl, h2, h3⟩
end
end Go.Proofs.YtdcdgmiojlldaaaDoor.Var
/- Numbers in so many bytes, as the document's own text writes and reads them. -/
namespace Go.Proofs.YtdcdgmiojlldaaaDoor.Low
open Go Big Go.RowKit Go.IntWalk
set_option linter.unusedVariables false
set_option linter.unusedSimpArgs false
theorem slV : ∃ i, SlT Tryd.prog 28 5 .u8 i := slT (by kernel_rfl)
abbrev Bytes (xs : List Int) : Prop := ∀ x ∈ xs, (Lit.int .u8 x).wf = true
section
variable {n : Nat} {w w0 : World} {A B : Option Addr} {l c m d : Nat} {xs ys : List Int}
theorem Low_l0 {base : Nat} {v : Int} {mm : Nat} (hv : 0 ≤ v ∧ v < 2 ^ 64) (hm : mm ≤ 8) {w0 : World} (hb0 : w0.heap.size ≤ base) : ∀ (q i j : Nat) (A : Option Addr) (c : Nat) (w : World), i + q = mm → q < j → xs.length ≤ 2 ^ 38 → Own .u8 5 w base (.slice A (xs.length + i) c) (xs ++ lowB i v) → Kp w0 w → base ≤ w.heap.size →
    Rt (butteryref1_Low.l0 n j v (mm : Int) A (xs.length + i) c (i : Int) w) fun r => r.ex = .exit 0 ∧ ∃ B d, r.vals = [.slice B (xs.length + mm) d] ∧ Own .u8 5 r.w base (.slice B (xs.length + mm) d) (xs ++ lowB mm v) ∧ Kp w0 r.w := by
  obtain ⟨t, hT⟩ := slV
  intro q
  induction q with
  | zero =>
    intro i j A c w hi hj hl ho hk hbs
    obtain ⟨j, rfl⟩ : ∃ j', j = j' + 1 := ⟨j - 1, by omega⟩
    obtain rfl : i = mm := by omega
    rw [butteryref1_Low.l0_succ]
    exact Rt.cDF (by omega) (Rt.some' ⟨rfl, A, c, rfl, ho, hk⟩)
  | succ q ih =>
    intro i j A c w hi hj hl ho hk hbs
    obtain ⟨j, rfl⟩ : ∃ j', j = j' + 1 := ⟨j - 1, by omega⟩
    rw [butteryref1_Low.l0_succ]
    have e1 : IntKind.u64.wrap (IntKind.i64.wrap (8 * (i : Int))) = ((8 * i : Nat) : Int) := by rw [i64_in _ (by omega), u64_in _ (by omega)]; omega
    have e2 : min (Int.toNat ((8 * i : Nat) : Int)) 64 = 8 * i := by omega
    have e3 : IntKind.u8.wrap (bits .and .u64 (Int.fdiv v (2 ^ (8 * i))) 255) = v / 256 ^ i % 256 := by
      have e4 : (2 : Int) ^ (8 * i) = 256 ^ i := by rw [Int.pow_mul]; rfl
      have hp : (0 : Int) < 256 ^ i := Int.pow_pos (by decide)
      have h0 : 0 ≤ v / 256 ^ i := Int.ediv_nonneg hv.1 (by omega)
      have h1 : v / 256 ^ i ≤ v := Int.ediv_le_self _ hv.1
      rw [fdivI, e4, and255 h0 (by omega), u8w]; omega
    refine Rt.cDT (by omega) (Rt.iF (by rw [e1]; omega) ?_)
    rw [e1, e2, e3]
    refine Rt.alo [_] 1 rfl rfl (by decide) fun w1 o1 k1 => ?_
    refine Rt.app hT (ho.kp k1) o1.sl.2 (fun h => by cases h) (by rw [List.length_append, lowB_len]; omega) (Nat.le_trans hbs k1.size) fun B d w2 o2 hk2 _ hsz => ?_
    (repeat (first | (with_reducible (first | refine Rt.fin ?_ | refine Rt.tL ?_ | refine Rt.tI ?_ | refine Rt.tB ?_ | refine Rt.tS ?_ | refine Rt.tP ?_ | refine Rt.tD ?_ | refine Rt.tM ?_ | refine Rt.tC ?_ | refine Rt.tN ?_ | refine Rt.tA ?_ | refine Rt.tG ?_ | refine Rt.tF ?_ | refine Rt.os ?_ | refine Rt.clS ?_ | refine Rt.jmN ?_ | refine Rt.jbN ?_ | refine Rt.jbE ?_)) | ((with_reducible (first | apply Rt.ld0 | apply Rt.ld1 | apply Rt.ld2 | apply Rt.ld3 | apply Rt.ld4 | apply Rt.ld5)); first | assumption | exact Lc.kp (by assumption) (by assumption)) | ((with_reducible apply Rt.ol); first | assumption | exact cell_kp (by assumption) (by assumption)) | ((with_reducible apply Rt.ckR); focus ((repeat (first | (with_reducible (first | refine Rt.fin ?_ | refine Rt.tL ?_ | refine Rt.tI ?_ | refine Rt.tB ?_ | refine Rt.tS ?_ | refine Rt.tP ?_ | refine Rt.tD ?_ | refine Rt.tM ?_ | refine Rt.tC ?_ | refine Rt.tN ?_ | refine Rt.tA ?_ | refine Rt.tG ?_ | refine Rt.tF ?_ | refine Rt.os ?_ | refine Rt.clS ?_ | refine Rt.jmN ?_ | refine Rt.jbN ?_ | refine Rt.jbE ?_)) | ((with_reducible (first | apply Rt.ld0 | apply Rt.ld1 | apply Rt.ld2 | apply Rt.ld3 | apply Rt.ld4 | apply Rt.ld5)); first | assumption | exact Lc.kp (by assumption) (by assumption)) | ((with_reducible apply Rt.ol); first | assumption | exact cell_kp (by assumption) (by assumption)))); exact Rt.some' rfl))))
    have hkk := hk2 w0 (hk.tr k1) hb0
    rw [List.length_append, lowB_len, List.append_assoc, ← lowB_snoc] at o2
    rw [List.length_append, lowB_len, i64_in _ (by omega), show ((i : Int) + 1) = ((i + 1 : Nat) : Int) by omega]
    exact ih (i + 1) j B d w2 (by omega) (by omega) hl o2 hkk (by have := k1.size; omega)
theorem Low_spec {v : Int} {mm : Nat} (hx : Bv .u8 w A l c xs) (hv : 0 ≤ v ∧ v < 2 ^ 64) (hm : mm ≤ 8) (hl : l ≤ 2 ^ 38) (hn : 10 < n) : Rt (butteryref1_Low n [.slice A l c, .int .u64 v, .int .i64 (mm : Int)] w) (RO .u8 5 w (xs ++ lowB mm v)) := by
  obtain ⟨t, hT⟩ := slV
  have hxl := hx.len
  rw [butteryref1_Low_eq]
  refine Rt.fin (Rt.app0 hT hx.sl hx.nil (by omega) fun B d w1 o1 k1 => ?_)
  (repeat (first | (with_reducible (first | refine Rt.fin ?_ | refine Rt.tL ?_ | refine Rt.tI ?_ | refine Rt.tB ?_ | refine Rt.tS ?_ | refine Rt.tP ?_ | refine Rt.tD ?_ | refine Rt.tM ?_ | refine Rt.tC ?_ | refine Rt.tN ?_ | refine Rt.tA ?_ | refine Rt.tG ?_ | refine Rt.tF ?_ | refine Rt.os ?_ | refine Rt.clS ?_ | refine Rt.jmN ?_ | refine Rt.jbN ?_ | refine Rt.jbE ?_)) | ((with_reducible (first | apply Rt.ld0 | apply Rt.ld1 | apply Rt.ld2 | apply Rt.ld3 | apply Rt.ld4 | apply Rt.ld5)); first | assumption | exact Lc.kp (by assumption) (by assumption)) | ((with_reducible apply Rt.ol); first | assumption | exact cell_kp (by assumption) (by assumption)) | ((with_reducible apply Rt.ckR); focus ((repeat (first | (with_reducible (first | refine Rt.fin ?_ | refine Rt.tL ?_ | refine Rt.tI ?_ | refine Rt.tB ?_ | refine Rt.tS ?_ | refine Rt.tP ?_ | refine Rt.tD ?_ | refine Rt.tM ?_ | refine Rt.tC ?_ | refine Rt.tN ?_ | refine Rt.tA ?_ | refine Rt.tG ?_ | refine Rt.tF ?_ | refine Rt.os ?_ | refine Rt.clS ?_ | refine Rt.jmN ?_ | refine Rt.jbN ?_ | refine Rt.jbE ?_)) | ((with_reducible (first | apply Rt.ld0 | apply Rt.ld1 | apply Rt.ld2 | apply Rt.ld3 | apply Rt.ld4 | apply Rt.ld5)); first | assumption | exact Lc.kp (by assumption) (by assumption)) | ((with_reducible apply Rt.ol); first | assumption | exact cell_kp (by assumption) (by assumption)))); exact Rt.some' rfl))))
  subst hxl
  refine Rt.jb (Rt.mono (Low_l0 (xs := xs) (base := w.heap.size) (w0 := w) hv hm (Nat.le_refl _) mm 0 n B d w1 (by omega) (by omega) hl (by simpa [lowB] using o1) k1 k1.size) ?_)
  rintro ⟨ex, vs, w2⟩ ⟨h1, C, e, h2, h3, h4⟩
  dsimp only at h1 h2 h3 h4
  subst h1 h2
  refine .inl ⟨.inr rfl, ?_⟩
  (repeat (first | (with_reducible (first | refine Rt.fin ?_ | refine Rt.tL ?_ | refine Rt.tI ?_ | refine Rt.tB ?_ | refine Rt.tS ?_ | refine Rt.tP ?_ | refine Rt.tD ?_ | refine Rt.tM ?_ | refine Rt.tC ?_ | refine Rt.tN ?_ | refine Rt.tA ?_ | refine Rt.tG ?_ | refine Rt.tF ?_ | refine Rt.os ?_ | refine Rt.clS ?_ | refine Rt.jmN ?_ | refine Rt.jbN ?_ | refine Rt.jbE ?_)) | ((with_reducible (first | apply Rt.ld0 | apply Rt.ld1 | apply Rt.ld2 | apply Rt.ld3 | apply Rt.ld4 | apply Rt.ld5)); first | assumption | exact Lc.kp (by assumption) (by assumption)) | ((with_reducible apply Rt.ol); first | assumption | exact cell_kp (by assumption) (by assumption)) | ((with_reducible apply Rt.ckR); focus ((repeat (first | (with_reducible (first | refine Rt.fin ?_ | refine Rt.tL ?_ | refine Rt.tI ?_ | refine Rt.tB ?_ | refine Rt.tS ?_ | refine Rt.tP ?_ | refine Rt.tD ?_ | refine Rt.tM ?_ | refine Rt.tC ?_ | refine Rt.tN ?_ | refine Rt.tA ?_ | refine Rt.tG ?_ | refine Rt.tF ?_ | refine Rt.os ?_ | refine Rt.clS ?_ | refine Rt.jmN ?_ | refine Rt.jbN ?_ | refine Rt.jbE ?_)) | ((with_reducible (first | apply Rt.ld0 | apply Rt.ld1 | apply Rt.ld2 | apply Rt.ld3 | apply Rt.ld4 | apply Rt.ld5)); first | assumption | exact Lc.kp (by assumption) (by assumption)) | ((with_reducible apply Rt.ol); first | assumption | exact cell_kp (by assumption) (by assumption)))); exact Rt.some' rfl))))
  exact Rt.endO h3 (Nat.le_refl _) h4
theorem shl_or {x y : Int} (h : 0 ≤ x ∧ x < 256) (hy : 0 ≤ y ∧ y < 2 ^ 56) : bits .or .u64 (IntKind.u64.wrap (y * 2 ^ 8)) (IntKind.u64.wrap x) = x + 256 * y := by
  have e : y * 2 ^ 8 = y * 256 := by rw [show (2 : Int) ^ 8 = 256 from rfl]
  rw [u64_in _ (by omega), u64_in x (by omega), (orI 8 (by omega) (by omega) (by omega) (by omega)).2]
  omega
theorem byte_at (hb : Bytes xs) {i : Nat} (hi : i < xs.length) : 0 ≤ xs.getD i 0 ∧ xs.getD i 0 < 256 := by
  have : xs.getD i 0 ∈ xs := by simp [List.getD_eq_getElem?_getD, hi]
  exact u8wf (hb _ this)
def slc (xs : List Int) (at_ m : Nat) : List Int := (xs.drop at_).take m
theorem slc_wf (hb : Bytes xs) (a m : Nat) : Bytes (slc xs a m) := fun z hz => hb z (List.mem_of_mem_drop (List.mem_of_mem_take hz))
theorem le_slc (hb : Bytes xs) {a m q : Nat} (h : a + m ≤ xs.length) (hq : q < m) : le ((slc xs a m).drop q) = xs.getD (a + q) 0 + 256 * le ((slc xs a m).drop (q + 1)) := by
  have hl : (slc xs a m).length = m := by simp [slc]; omega
  rw [List.drop_eq_getElem_cons (by omega), le]
  congr 1
  simp [slc, List.getD_eq_getElem?_getD, show a + q < xs.length by omega]
theorem le_small (hb : Bytes xs) (h : xs.length ≤ 7) : 0 ≤ le xs ∧ le xs < 2 ^ 56 := by
  have := le_nonneg hb
  have key : ∀ a : Nat, a < 8 → (256 : Int) ^ a ≤ 2 ^ 56 := by decide
  have h2 := key xs.length (by omega)
  omega
theorem Get_l0 (hx : Bv .u8 w A l c xs) {a mm : Nat} (h9 : a + mm ≤ l) (h8 : mm ≤ 8) (hl : l ≤ 2 ^ 38) : ∀ (q j : Nat), q ≤ mm → q < j →
    Rt (butteryref1_Get.l0 n j A l c (a : Int) (le ((slc xs a mm).drop q)) ((q : Int) - 1) w) fun r => r = ⟨.exit 0, [.int .u64 (le (slc xs a mm))], w⟩ := by
  have hxl := hx.len
  intro q
  induction q with
  | zero =>
    intro j _ hj
    obtain ⟨j, rfl⟩ : ∃ j', j = j' + 1 := ⟨j - 1, by omega⟩
    rw [butteryref1_Get.l0_succ]
    exact Rt.cDF (by omega) (Rt.some' rfl)
  | succ q ih =>
    intro j hq hj
    obtain ⟨j, rfl⟩ : ∃ j', j = j' + 1 := ⟨j - 1, by omega⟩
    rw [butteryref1_Get.l0_succ]
    have e0 : IntKind.i64.wrap ((a : Int) + (((q + 1 : Nat) : Int) - 1)) = ((a + q : Nat) : Int) := by rw [i64_in _ (by omega)]; omega
    have hl1 : (slc xs a mm).length = mm := by simp [slc]; omega
    rw [e0]
    refine Rt.cDT (by omega) (Rt.ix hx.sl (by omega) (by omega) ?_)
    rw [Int.toNat_natCast, shl_or (byte_at hx.rng (by omega)) (le_small (fun z hz => slc_wf hx.rng a mm z (List.mem_of_mem_drop hz)) (by rw [List.length_drop]; omega)), ← le_slc hx.rng (by omega) (by omega), i64_in _ (by omega),
      show ((q + 1 : Nat) : Int) - 1 - 1 = (q : Int) - 1 by omega]
    exact ih j (by omega) (by omega)
theorem Get_spec (hx : Bv .u8 w A l c xs) {a mm : Nat} (h9 : a + mm ≤ l) (h8 : mm ≤ 8) (hl : l ≤ 2 ^ 38) (hn : 20 < n) : butteryref1_Get n [.slice A l c, .int .i64 (a : Int), .int .i64 (mm : Int)] w = some ([.int .u64 (le (slc xs a mm))], w) := by
  have hxl := hx.len
  have hl1 : (slc xs a mm).length = mm := by simp [slc]; omega
  rw [butteryref1_Get_eq, i64_in _ (by omega)]
  have h := Get_l0 (n := n) hx h9 h8 hl mm n (by omega) (by omega)
  rw [List.drop_of_length_le (by omega)] at h
  obtain ⟨_, e, rfl⟩ := h
  have e' : butteryref1_Get.l0 n n A l c (a : Int) 0 ((mm : Int) - 1) w = _ := e
  rw [e', jb_exit]
  rfl
theorem Clone_spec (hx : Bv .u8 w A l c xs) (hl : l ≤ 2 ^ 38) : Rt (bytes_Clone n [.slice A l c] w) (RO .u8 5 w xs) := by
  obtain ⟨i, hT⟩ := slV
  have hxl := hx.len
  rw [bytes_Clone_eq]
  refine Rt.fin (Rt.cB (fun h => ?_) fun h => ?_)
  · have : A = none := by simpa using h
    have h2 := hx.nil this
    have : xs = [] := List.length_eq_zero_iff.1 (by omega)
    subst this
    exact Rt.endO (Own.nil w w.heap.size) (Nat.le_refl _) (Kp.rfl' w)
  · refine Rt.alo (k := .u8) [] 0 rfl rfl (by decide) fun w1 o1 k1 => ?_
    refine Rt.app hT o1 (hx.kp k1).sl hx.nil (by simp; omega) k1.size fun B d w2 o2 hk _ _ => ?_
    (repeat (first | (with_reducible (first | refine Rt.fin ?_ | refine Rt.tL ?_ | refine Rt.tI ?_ | refine Rt.tB ?_ | refine Rt.tS ?_ | refine Rt.tP ?_ | refine Rt.tD ?_ | refine Rt.tM ?_ | refine Rt.tC ?_ | refine Rt.tN ?_ | refine Rt.tA ?_ | refine Rt.tG ?_ | refine Rt.tF ?_ | refine Rt.os ?_ | refine Rt.clS ?_ | refine Rt.jmN ?_ | refine Rt.jbN ?_ | refine Rt.jbE ?_)) | ((with_reducible (first | apply Rt.ld0 | apply Rt.ld1 | apply Rt.ld2 | apply Rt.ld3 | apply Rt.ld4 | apply Rt.ld5)); first | assumption | exact Lc.kp (by assumption) (by assumption)) | ((with_reducible apply Rt.ol); first | assumption | exact cell_kp (by assumption) (by assumption)) | ((with_reducible apply Rt.ckR); focus ((repeat (first | (with_reducible (first | refine Rt.fin ?_ | refine Rt.tL ?_ | refine Rt.tI ?_ | refine Rt.tB ?_ | refine Rt.tS ?_ | refine Rt.tP ?_ | refine Rt.tD ?_ | refine Rt.tM ?_ | refine Rt.tC ?_ | refine Rt.tN ?_ | refine Rt.tA ?_ | refine Rt.tG ?_ | refine Rt.tF ?_ | refine Rt.os ?_ | refine Rt.clS ?_ | refine Rt.jmN ?_ | refine Rt.jbN ?_ | refine Rt.jbE ?_)) | ((with_reducible (first | apply Rt.ld0 | apply Rt.ld1 | apply Rt.ld2 | apply Rt.ld3 | apply Rt.ld4 | apply Rt.ld5)); first | assumption | exact Lc.kp (by assumption) (by assumption)) | ((with_reducible apply Rt.ol); first | assumption | exact cell_kp (by assumption) (by assumption)))); exact Rt.some' rfl))))
    have hk2 := hk w k1 (Nat.le_refl _)
    rw [List.nil_append] at o2
    exact Rt.endO o2 (Nat.le_refl _) hk2
end
end Go.Proofs.YtdcdgmiojlldaaaDoor.Low
/- Numbers in few bytes: what is read is what was written, and nothing else is. -/
namespace Go.Proofs.YtdcdgmiojlldaaaDoor.Var
open Go Big Go.RowKit Go.IntWalk
set_option linter.unusedVariables false
set_option linter.unusedSimpArgs false
theorem gv_ext (at' : Int) (ys : List Int) : ∀ (cs : List Int) (i : Nat) (acc : Int), (gv at' i acc cs).2.2 = 0 → gv at' i acc (cs ++ ys) = gv at' i acc cs
  | [], i, acc, h => by simp [gv] at h
  | c :: cs, i, acc, h => by
    rw [List.cons_append]
    simp only [gv] at h ⊢
    split
    · rfl
    · rename_i hb
      rw [if_neg hb] at h
      split
      · rfl
      · rename_i h8
        rw [if_neg h8] at h
        exact gv_ext at' ys cs _ _ h
theorem gv_to (at' : Int) : ∀ (cs : List Int) (i : Nat) (acc : Int), (gv at' i acc cs).2.2 = 0 → ∃ m, 1 ≤ m ∧ m ≤ cs.length ∧ (gv at' i acc cs).2.1 = at' + i + m ∧ ∀ k, k < m → gv at' i acc (cs.take k) = (0, 0, 4)
  | [], i, acc, h => by simp [gv] at h
  | c :: cs, i, acc, h => by
    by_cases hb : ((i : Int) = 9 ∧ c > 1) ∨ (0 < (i : Int) ∧ c = 0)
    · simp only [gv] at h; rw [if_pos hb] at h; simp at h
    · by_cases h8 : c < 128
      · refine ⟨1, by omega, by simp, by simp only [gv]; rw [if_neg hb, if_pos h8]; rfl, fun k hk => ?_⟩
        obtain rfl : k = 0 := by omega
        rfl
      · have h' := h
        simp only [gv] at h'
        rw [if_neg hb, if_neg h8] at h'
        obtain ⟨m, h1, h2, h3, h4⟩ := gv_to at' cs _ _ h'
        refine ⟨m + 1, by omega, by simp; omega, ?_, fun k hk => ?_⟩
        · simp only [gv]; rw [if_neg hb, if_neg h8, h3]; omega
        · cases k with
          | zero => rfl
          | succ k =>
            rw [List.take_succ_cons]
            simp only [gv]
            rw [if_neg hb, if_neg h8]
            exact h4 k (by omega)
theorem gv_can (at' : Int) : ∀ (cs : List Int) (i acc : Nat), (∀ z ∈ cs, 0 ≤ z ∧ z ≤ 255) → i ≤ 9 → acc < 2 ^ (7 * i) → (gv at' i (acc : Int) cs).2.2 = 0 →
    ∃ y : Nat, y < 2 ^ (64 - 7 * i) ∧ (0 < i → 0 < y) ∧ gv at' i (acc : Int) cs = (((acc + y * 2 ^ (7 * i) : Nat) : Int), at' + i + (enc y).length, 0) ∧ cs.take (enc y).length = enc y
  | [], i, acc, _, _, _, h => by simp [gv] at h
  | c :: cs, i, acc, hc, hi, ha, h => by
    have hcb := hc c List.mem_cons_self
    obtain ⟨c, rfl⟩ := Int.eq_ofNat_of_zero_le hcb.1
    by_cases hb : ((i : Int) = 9 ∧ (c : Int) > 1) ∨ (0 < (i : Int) ∧ (c : Int) = 0)
    · simp only [gv] at h; rw [if_pos hb] at h; simp at h
    · by_cases h8 : (c : Int) < 128
      · have hm : c % 128 = c := Nat.mod_eq_of_lt (by omega)
        have hx : c < 2 ^ (64 - 7 * i) := by
          rcases Nat.lt_or_ge i 9 with h9 | h9
          · have : (2 : Nat) ^ 7 ≤ 2 ^ (64 - 7 * i) := Nat.pow_le_pow_right (by decide) (by omega)
            omega
          · obtain rfl : i = 9 := by omega
            have : (2 : Nat) ^ (64 - 7 * 9) = 2 := rfl
            omega
        have hj := join (acc := acc) (c := c) (i := i) ha (by omega) (by rw [hm]; exact fit (by omega) ha hx)
        rw [hm] at hj
        refine ⟨c, hx, fun h0 => by omega, ?_, by rw [enc_small (by omega)]; rfl⟩
        simp only [gv]
        rw [if_neg hb, if_pos h8, hj, enc_small (by omega)]; rfl
      · have hi8 : i ≤ 8 := by omega
        have hf := fit (i := i) (acc := acc) (x := c % 128) (by omega) ha (by
          have : (2 : Nat) ^ 8 ≤ 2 ^ (64 - 7 * i) := Nat.pow_le_pow_right (by decide) (by omega)
          omega)
        have hj := join (acc := acc) (c := c) (i := i) ha (by omega) hf
        have hp : 2 ^ (7 * (i + 1)) = 128 * 2 ^ (7 * i) := by rw [show 7 * (i + 1) = 7 + 7 * i by omega, Nat.pow_add]
        have hacc : acc + c % 128 * 2 ^ (7 * i) < 2 ^ (7 * (i + 1)) := by
          rw [hp]
          have h1 : (c % 128 + 1) * 2 ^ (7 * i) ≤ 128 * 2 ^ (7 * i) := Nat.mul_le_mul_right _ (Nat.mod_lt _ (by decide))
          rw [Nat.add_mul, Nat.one_mul] at h1
          omega
        have h' := h
        simp only [gv] at h'
        rw [if_neg hb, if_neg h8, hj] at h'
        obtain ⟨y, h1, h2, h3, h4⟩ := gv_can at' cs (i + 1) (acc + c % 128 * 2 ^ (7 * i)) (fun z hz => hc z (List.mem_cons_of_mem _ hz)) (by omega) hacc h'
        have hy := h2 (by omega)
        have hbig : ¬ (c % 128 + 128 * y) < 128 := by omega
        have e1 : (c % 128 + 128 * y) % 128 + 128 = c := by omega
        have e2 : (c % 128 + 128 * y) / 128 = y := by omega
        refine ⟨c % 128 + 128 * y, ?_, fun _ => by omega, ?_, ?_⟩
        · rw [pow_split i (by omega)]; omega
        · have e3 : acc + c % 128 * 2 ^ (7 * i) + y * 2 ^ (7 * (i + 1)) = acc + (c % 128 + 128 * y) * 2 ^ (7 * i) := by
            rw [hp, Nat.add_mul, ← Nat.mul_assoc, Nat.mul_comm y 128]; omega
          simp only [gv]
          rw [if_neg hb, if_neg h8, hj, h3, e3, enc_big hbig, e1, e2, List.length_cons]
          congr 2
          omega
        · rw [enc_big hbig, e1, e2, List.length_cons, List.take_succ_cons, h4]
theorem getR_in {xs : List Int} {i : Int} (h : (getR xs i).2.2 = 0) : 0 ≤ i ∧ i ≤ xs.length := by
  unfold getR at h
  split at h
  · simp at h
  · split at h
    · simp at h
    · omega
theorem getR_ext {xs : List Int} (ys : List Int) {i : Int} (h : (getR xs i).2.2 = 0) : getR (xs ++ ys) i = getR xs i := by
  have hi := getR_in h
  unfold getR at h ⊢
  rw [if_neg (by omega), if_neg (by omega)] at h
  rw [if_neg (by omega), if_neg (by simp; omega), if_neg (by omega), if_neg (by omega), List.drop_append_of_le_length (by omega)]
  exact gv_ext _ _ _ _ _ h
theorem getR_can {xs : List Int} (hb : ∀ z ∈ xs, 0 ≤ z ∧ z ≤ 255) {i : Nat} (h : (getR xs (i : Int)).2.2 = 0) : ∃ y : Nat, y < 2 ^ 64 ∧ getR xs (i : Int) = ((y : Int), ((i + (enc y).length : Nat) : Int), 0) ∧ i + (enc y).length ≤ xs.length ∧ (xs.drop i).take (enc y).length = enc y := by
  have hi := getR_in h
  unfold getR at h ⊢
  rw [if_neg (by omega), if_neg (by omega), Int.toNat_natCast] at h
  rw [if_neg (by omega), if_neg (by omega), Int.toNat_natCast]
  obtain ⟨y, h1, _, h3, h4⟩ := gv_can (i : Int) (xs.drop i) 0 0 (fun z hz => hb z (List.mem_of_mem_drop hz)) (by omega) (by decide) h
  have h3 : gv (i : Int) 0 0 (xs.drop i) = _ := h3
  have hl := congrArg List.length h4
  rw [List.length_take, List.length_drop] at hl
  refine ⟨y, by simpa using h1, ?_, by omega, h4⟩
  rw [h3]; simp
theorem getR_cut {xs : List Int} {i : Nat} (h : (getR xs (i : Int)).2.2 = 0) {k : Nat} (hk : i ≤ k) (hkl : k ≤ xs.length) : getR (xs.take k) (i : Int) = if (getR xs (i : Int)).2.1 ≤ k then getR xs (i : Int) else (0, 0, 4) := by
  have hi := getR_in h
  have e : getR xs (i : Int) = gv (i : Int) 0 0 (xs.drop i) := by unfold getR; rw [if_neg (by omega), if_neg (by omega), Int.toNat_natCast]
  have e' : getR (xs.take k) (i : Int) = gv (i : Int) 0 0 ((xs.drop i).take (k - i)) := by
    unfold getR; rw [if_neg (by omega), if_neg (by simp; omega), Int.toNat_natCast, List.drop_take]
  rw [e] at h
  obtain ⟨m, h1, h2, h3, h4⟩ := gv_to (i : Int) (xs.drop i) 0 0 h
  rw [List.length_drop] at h2
  rw [e', e, h3]
  by_cases hm : k - i < m
  · rw [if_neg (by omega), h4 _ hm]
  · rw [if_pos (by omega)]
    have hx := gv_ext (i : Int) ((xs.drop i).drop (k - i)) ((xs.drop i).take (k - i)) 0 0
    rw [List.take_append_drop] at hx
    -- the part that is left says no error
    have hne : (gv (i : Int) 0 0 ((xs.drop i).take (k - i))).2.2 = 0 := by
      have key : ∀ (cs : List Int) (j : Nat) (acc : Int) (m : Nat), (gv (i : Int) j acc cs).2.2 = 0 → (gv (i : Int) j acc cs).2.1 = i + j + m → ∀ q, m ≤ q → (gv (i : Int) j acc (cs.take q)).2.2 = 0 := by
        intro cs
        induction cs with
        | nil => intro j acc m h; simp [gv] at h
        | cons c cs ih =>
          intro j acc m h hm q hq
          by_cases hb : ((j : Int) = 9 ∧ c > 1) ∨ (0 < (j : Int) ∧ c = 0)
          · simp only [gv] at h; rw [if_pos hb] at h; simp at h
          · simp only [gv] at h hm
            rw [if_neg hb] at h hm
            by_cases h8 : c < 128
            · rw [if_pos h8] at hm
              have hm : (i : Int) + j + 1 = i + j + m := hm
              obtain ⟨q, rfl⟩ : ∃ q', q = q' + 1 := ⟨q - 1, by omega⟩
              rw [List.take_succ_cons]
              simp only [gv]
              rw [if_neg hb, if_pos h8]
            · rw [if_neg h8] at h hm
              obtain ⟨m', g1, _, g3, _⟩ := gv_to (i : Int) cs _ _ h
              rw [g3] at hm
              obtain ⟨q, rfl⟩ : ∃ q', q = q' + 1 := ⟨q - 1, by omega⟩
              rw [List.take_succ_cons]
              simp only [gv]
              rw [if_neg hb, if_neg h8]
              exact ih (j + 1) _ m' h g3 q (by omega)
      exact key _ 0 0 m h h3 _ (by omega)
    exact (hx hne).symm
end Go.Proofs.YtdcdgmiojlldaaaDoor.Var
/- Readings of bytes, put together of readings: what goes on when more stands behind, or when an end is cut off. -/
namespace Go.Proofs.YtdcdgmiojlldaaaDoor.Par
open Go Big Go.RowKit Go.IntWalk Var Low
set_option linter.unusedVariables false
set_option linter.unusedSimpArgs false
set_option linter.unusedSectionVars false
abbrev Pa (α : Type) := List Int → Nat → Int × α × Nat
section
variable {α β : Type} [Inhabited α] [Inhabited β]
def retP (a : α) : Pa α := fun _ i => (0, a, i)
def failP (e : Int) : Pa α := fun _ _ => (e, default, 0)
def bindP (f : Pa α) (g : α → Pa β) : Pa β := fun xs i => if (f xs i).1 = 0 then g (f xs i).2.1 xs (f xs i).2.2 else ((f xs i).1, default, 0)
def numP : Pa Int := fun xs i => ((getR xs i).2.2, (getR xs i).1, (getR xs i).2.1.toNat)
def takeP (n : Nat) : Pa (List Int) := fun xs i => if xs.length < i + n then (4, [], 0) else (0, slc xs i n, i + n)
structure Good (f : Pa α) : Prop where
  le : ∀ {xs i a j}, i ≤ xs.length → f xs i = (0, a, j) → i ≤ j ∧ j ≤ xs.length
  ext : ∀ {xs i a j}, i ≤ xs.length → f xs i = (0, a, j) → ∀ ys, f (xs ++ ys) i = (0, a, j)
  cut : ∀ {xs i a j}, i ≤ xs.length → f xs i = (0, a, j) → ∀ k, i ≤ k → k ≤ xs.length → (j ≤ k → f (xs.take k) i = (0, a, j)) ∧ (k < j → (f (xs.take k) i).1 = 4)
theorem triple {f : Pa α} {xs : List Int} {i : Nat} (h : (f xs i).1 = 0) : f xs i = (0, (f xs i).2.1, (f xs i).2.2) := by rw [← h]
theorem bindP_ok {f : Pa α} {g : α → Pa β} {xs : List Int} {i j : Nat} {b : β} : bindP f g xs i = (0, b, j) ↔ ∃ a m, f xs i = (0, a, m) ∧ g a xs m = (0, b, j) := by
  unfold bindP
  constructor
  · intro h
    split at h
    · rename_i h0; exact ⟨_, _, triple h0, h⟩
    · rename_i h0; injection h with h; exact absurd h h0
  · rintro ⟨a, m, h1, h2⟩
    rw [h1]; exact h2
theorem Good.ret (a : α) : Good (retP a) := by
  refine ⟨fun hi h => ?_, fun hi h ys => ?_, fun hi h k h1 h2 => ?_⟩ <;> simp only [retP, Prod.mk.injEq] at h ⊢ <;> obtain ⟨_, rfl, rfl⟩ := h
  · omega
  · simp
  · exact ⟨fun _ => by simp, fun h => by omega⟩
theorem Good.fail {e : Int} (h : e ≠ 0) : Good (failP e : Pa α) := by
  refine ⟨fun hi h' => ?_, fun hi h' ys => ?_, fun hi h' k h1 h2 => ?_⟩ <;> (simp only [failP, Prod.mk.injEq] at h'; exact absurd h'.1 h)
theorem Good.bind {f : Pa α} {g : α → Pa β} (hf : Good f) (hg : ∀ a, Good (g a)) : Good (bindP f g) := by
  refine ⟨fun {xs i b j} hi h => ?_, fun {xs i b j} hi h ys => ?_, fun {xs i b j} hi h k h1 h2 => ?_⟩ <;> obtain ⟨a, m, e1, e2⟩ := bindP_ok.1 h
  · have l1 := hf.le hi e1
    have l2 := (hg a).le l1.2 e2
    omega
  · have l1 := hf.le hi e1
    exact bindP_ok.2 ⟨a, m, hf.ext hi e1 ys, (hg a).ext l1.2 e2 ys⟩
  · have l1 := hf.le hi e1
    have l2 := (hg a).le l1.2 e2
    obtain ⟨c1, c2⟩ := hf.cut hi e1 k h1 h2
    by_cases hm : m ≤ k
    · obtain ⟨d1, d2⟩ := (hg a).cut l1.2 e2 k hm h2
      refine ⟨fun hj => bindP_ok.2 ⟨a, m, c1 hm, d1 hj⟩, fun hj => ?_⟩
      unfold bindP
      rw [c1 hm]
      exact d2 hj
    · refine ⟨fun hj => by omega, fun hj => ?_⟩
      have := c2 (by omega)
      unfold bindP
      rw [if_neg (by rw [this]; decide)]
      exact this
theorem Good.num : Good numP := by
  have key : ∀ {xs : List Int} {i : Nat} {a : Int} {j : Nat}, i ≤ xs.length → numP xs i = (0, a, j) → (getR xs (i : Int)).2.2 = 0 ∧ (getR xs (i : Int)).1 = a ∧ (getR xs (i : Int)).2.1 = (j : Int) ∧ i ≤ j ∧ j ≤ xs.length := by
    intro xs i a j hi h
    simp only [numP, Prod.mk.injEq] at h
    obtain ⟨h1, h2, h3⟩ := h
    have hin := getR_in h1
    have e : getR xs (i : Int) = gv (i : Int) 0 0 (xs.drop i) := by unfold getR; rw [if_neg (by omega), if_neg (by omega), Int.toNat_natCast]
    have h1' := h1
    rw [e] at h1'
    obtain ⟨m, g1, g2, g3, _⟩ := gv_to (i : Int) (xs.drop i) 0 0 h1'
    rw [List.length_drop] at g2
    rw [← e] at g3
    refine ⟨h1, h2, ?_, ?_, ?_⟩ <;> omega
  refine ⟨fun hi h => ?_, fun hi h ys => ?_, fun {xs i a j} hi h k h1 h2 => ?_⟩ <;> obtain ⟨e1, e2, e3, e4, e5⟩ := key hi h
  · exact ⟨e4, e5⟩
  · simp only [numP, getR_ext ys e1]; exact h
  · have := getR_cut e1 h1 h2
    rw [e3] at this
    refine ⟨fun hj => ?_, fun hj => ?_⟩
    · simp only [numP]; rw [this, if_pos (by omega)]; exact h
    · simp only [numP]; rw [this, if_neg (by omega)]
theorem Good.take (n : Nat) : Good (takeP n) := by
  have key : ∀ {xs : List Int} {i : Nat} {a : List Int} {j : Nat}, takeP n xs i = (0, a, j) → i + n ≤ xs.length ∧ a = slc xs i n ∧ j = i + n := by
    intro xs i a j h
    unfold takeP at h
    split at h
    · simp at h
    · simp only [Prod.mk.injEq] at h; exact ⟨by omega, h.2.1.symm, h.2.2.symm⟩
  refine ⟨fun hi h => ?_, fun hi h ys => ?_, fun {xs i a j} hi h k h1 h2 => ?_⟩ <;> obtain ⟨e1, rfl, rfl⟩ := key h
  · omega
  · unfold takeP
    rw [if_neg (by simp; omega)]
    simp only [slc, Prod.mk.injEq, true_and, and_true]
    rw [List.drop_append_of_le_length (by omega), List.take_append_of_le_length (by simp; omega)]
  · unfold takeP
    refine ⟨fun hj => ?_, fun hj => ?_⟩
    · rw [if_neg (by simp; omega)]
      simp only [slc, Prod.mk.injEq, true_and, and_true]
      rw [List.drop_take, List.take_take, Nat.min_eq_left (by omega)]
    · rw [if_pos (by simp; omega)]
theorem Good.ite {c : Prop} [Decidable c] {f g : Pa α} (hf : Good f) (hg : Good g) : Good (if c then f else g) := by split <;> assumption
def Enc (f : Pa α) (a : α) (bs : List Int) : Prop := ∀ pre rest, f (pre ++ (bs ++ rest)) pre.length = (0, a, pre.length + bs.length)
theorem Enc.ret (a : α) : Enc (retP a) a [] := fun pre rest => rfl
theorem Enc.bind {f : Pa α} {g : α → Pa β} {a : α} {b : β} {bs cs : List Int} (hf : Enc f a bs) (hg : Enc (g a) b cs) : Enc (bindP f g) b (bs ++ cs) := fun pre rest => by
  refine bindP_ok.2 ⟨a, pre.length + bs.length, by rw [List.append_assoc]; exact hf pre (cs ++ rest), ?_⟩
  have := hg (pre ++ bs) rest
  rw [List.length_append, List.append_assoc] at this
  rw [List.append_assoc, List.length_append, this]
  simp only [Prod.mk.injEq, true_and]; omega
theorem Enc.num {x : Int} (h : 0 ≤ x ∧ x < 2 ^ 64) : Enc numP x (enc x.toNat) := fun pre rest => by
  have := getR_enc pre rest x.toNat (by omega)
  rw [List.append_assoc] at this
  simp only [numP, this, Prod.mk.injEq, true_and]
  omega
theorem Enc.take {n : Nat} {bs : List Int} (h : bs.length = n) : Enc (takeP n) bs bs := fun pre rest => by
  unfold takeP
  rw [if_neg (by simp; omega)]
  simp only [slc, Prod.mk.injEq, true_and]
  refine ⟨?_, by omega⟩
  rw [List.drop_left, ← h, List.take_left]
def Can (f : Pa α) (E : α → List Int → Prop) : Prop := ∀ xs i a j, (∀ z ∈ xs, (Lit.int .u8 z).wf = true) → i ≤ xs.length → f xs i = (0, a, j) → i ≤ j ∧ j ≤ xs.length ∧ E a (slc xs i (j - i))
theorem slc_split {xs : List Int} {i m j : Nat} (h1 : i ≤ m) (h2 : m ≤ j) : slc xs i (j - i) = slc xs i (m - i) ++ slc xs m (j - m) := by
  unfold slc
  rw [show j - i = (m - i) + (j - m) by omega, List.take_add, List.drop_drop, show i + (m - i) = m by omega]
theorem Can.bind {f : Pa α} {g : α → Pa β} {E : α → List Int → Prop} {F : β → List Int → Prop} (G : α → β → List Int → Prop) (hf : Can f E) (hg : ∀ a, Can (g a) (G a)) (h : ∀ a b p q, E a p → G a b q → F b (p ++ q)) : Can (bindP f g) F := by
  intro xs i b j hb hi hr
  obtain ⟨a, m, e1, e2⟩ := bindP_ok.1 hr
  obtain ⟨f1, f2, f3⟩ := hf xs i a m hb hi e1
  obtain ⟨g1, g2, g3⟩ := hg a xs m b j hb f2 e2
  refine ⟨by omega, g2, ?_⟩
  rw [slc_split f1 g1]
  exact h a b _ _ f3 g3
theorem Can.ret (a : α) : Can (retP a) fun b bs => b = a ∧ bs = [] := by
  intro xs i b j _ hi h
  simp only [retP, Prod.mk.injEq] at h
  obtain ⟨_, rfl, rfl⟩ := h
  exact ⟨Nat.le_refl _, hi, rfl, by simp [slc]⟩
theorem Can.fail {e : Int} (h : e ≠ 0) (E : α → List Int → Prop) : Can (failP e : Pa α) E := by
  intro xs i b j _ hi h'
  simp only [failP, Prod.mk.injEq] at h'
  exact absurd h'.1 h
theorem Can.num : Can numP fun x bs => (0 ≤ x ∧ x < 2 ^ 64) ∧ bs = enc x.toNat := by
  intro xs i a j hb hi h
  simp only [numP, Prod.mk.injEq] at h
  obtain ⟨h1, h2, h3⟩ := h
  obtain ⟨y, y1, y2, y3, y4⟩ := getR_can (u8b hb) h1
  rw [y2] at h2 h3
  simp only at h2 h3
  subst h2
  rw [Int.toNat_natCast] at h3
  subst h3
  refine ⟨by omega, y3, ⟨by omega, by omega⟩, ?_⟩
  rw [Nat.add_sub_cancel_left, Int.toNat_natCast]
  exact y4
theorem Can.take (n : Nat) : Can (takeP n) fun a bs => bs = a ∧ a.length = n ∧ ∀ z ∈ a, (Lit.int .u8 z).wf = true := by
  intro xs i a j hb hi h
  unfold takeP at h
  split at h
  · simp at h
  · simp only [Prod.mk.injEq] at h
    obtain ⟨_, rfl, rfl⟩ := h
    refine ⟨by omega, by omega, by rw [Nat.add_sub_cancel_left], by simp [slc]; omega, fun z hz => hb z (List.mem_of_mem_drop (List.mem_of_mem_take hz))⟩
theorem Can.ite {c : Prop} [Decidable c] {f g : Pa α} {E F G : α → List Int → Prop} (hf : Can f E) (hg : Can g F) (h1 : c → ∀ a p, E a p → G a p) (h2 : ¬c → ∀ a p, F a p → G a p) : Can (if c then f else g) G := by
  intro xs i a j hb hi h
  by_cases hc : c
  · rw [if_pos hc] at h
    obtain ⟨a1, a2, a3⟩ := hf xs i a j hb hi h
    exact ⟨a1, a2, h1 hc _ _ a3⟩
  · rw [if_neg hc] at h
    obtain ⟨a1, a2, a3⟩ := hg xs i a j hb hi h
    exact ⟨a1, a2, h2 hc _ _ a3⟩
theorem Can.mono {f : Pa α} {E F : α → List Int → Prop} (hf : Can f E) (h : ∀ a p, E a p → F a p) : Can f F := fun xs i a j hb hi hr => by
  obtain ⟨a1, a2, a3⟩ := hf xs i a j hb hi hr
  exact ⟨a1, a2, h _ _ a3⟩
def allP (f : Pa α) (xs : List Int) : Int × α := if (f xs 0).1 ≠ 0 then ((f xs 0).1, default) else if (f xs 0).2.2 ≠ xs.length then (2, default) else (0, (f xs 0).2.1)
theorem allP_enc {f : Pa α} {a : α} {bs : List Int} (h : Enc f a bs) : allP f bs = (0, a) := by
  have := h [] []
  simp only [List.nil_append, List.append_nil, List.length_nil, Nat.zero_add] at this
  unfold allP
  rw [this]; simp
theorem allP_can {f : Pa α} {E : α → List Int → Prop} (hc : Can f E) {xs : List Int} (hb : ∀ z ∈ xs, (Lit.int .u8 z).wf = true) {a : α} (h : allP f xs = (0, a)) : E a xs := by
  unfold allP at h
  split at h
  · rename_i h0; injection h with h; exact absurd h h0
  · rename_i h0
    split at h
    · simp at h
    · rename_i h1
      have h0 : (f xs 0).1 = 0 := by simpa using h0
      have h1 : (f xs 0).2.2 = xs.length := by simpa using h1
      injection h with _ h
      have := (hc xs 0 _ _ hb (Nat.zero_le _) (triple h0)).2.2
      rw [h1, h] at this
      simpa [slc] using this
end
end Go.Proofs.YtdcdgmiojlldaaaDoor.Par
