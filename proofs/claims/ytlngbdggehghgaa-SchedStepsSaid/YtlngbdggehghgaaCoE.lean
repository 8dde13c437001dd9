/-
  The operations of plain code obey the law of CoA (Simu): third lot: operators. Conditions: as each theorem says.
-/
import Derived.Test.YtlngbdggehghgaaCoD
namespace Go.Proofs.Ytlngbdggehghgaa
set_option linter.unusedSimpArgs false
set_option linter.unusedVariables false
namespace Co
section
variable {α β:Type} {P:Program} {H:Nat→Option Nat}
theorem cellAt_le (p:Program) (d:Nat) (e:TypeId) {n m:Nat} (h:n≤m) (off:Nat) (b:Int) {x:Nat} (hx:cellAtBytes p d e n off b=some x):cellAtBytes p d e m off b=some x:=by
 unfold cellAtBytes at hx⊢
 simp only at hx⊢
 split at hx
 ·cases hx
 rename_i h0
 rw[if_neg h0]
 cases hb:byteOfCell p d e (off%p.cellsOf e) with
 |none=>rw[hb] at hx;cases hx
 |some y=>
  rw[hb] at hx
  simp only[Option.bind_eq_bind,Option.bind_some] at hx⊢
  split at hx
  ·cases hx
  rename_i h1
  have h2:n*p.bytesOf e≤m*p.bytesOf e:=Nat.mul_le_mul_right _ h
  rw[if_neg (by simp only[Bool.or_eq_true,decide_eq_true_eq,not_or,Int.ofNat_eq_natCast] at h1⊢;omega)]
  exact hx
theorem simu_addTail (a:Addr) (n:Int):Simu P H (shape a.block>>=fun x=>match x with
 |some (e,cells)=>program>>=fun p=>match cellAtBytes p p.depth e (cells/p.cellsOf e) a.off n with
  |some off=>pure (.pointer (some {a with off}))
  |none=>unsupported (.unsafePointer "Add")
 |_=>unsupported (.unsafePointer "Add"):Sem Value):=by
 refine simu_shape_bind (fun o=> ?_) (fun e k m hle=> ?_)
 ·split
  ·refine simu_bind' simu_program fun p=> ?_
   split
   ·exact simu_pure' _
   ·exact simu_unsupported _ (fun _ h=>by cases h)
  ·exact simu_unsupported _ (fun _ h=>by cases h)
 ·have hle':k/P.cellsOf e≤m/P.cellsOf e:=Nat.div_le_div_right hle
  cases hx:cellAtBytes P P.depth e (k/P.cellsOf e) a.off n with
  |none=>
   right
   intro v es x v' es' h
   simp only[program,Bind.bind,Sem.bind,Sem.runT,hx] at h
   simp[unsupported,Sem.runT] at h
  |some x=>
   left
   intro w fs
   simp only[program,Bind.bind,Sem.bind,Sem.runT,hx,cellAt_le P P.depth e hle' a.off n hx]
theorem simu_unsafeAdd (a:Array TypeId) (t:TypeId) (args:Array Value):Simu P H (Builtin.unsafeAdd_ a t args):=by
 unfold Builtin.unsafeAdd_
 rcases args with⟨_|⟨x,_|⟨y,_|⟨z,l⟩⟩⟩⟩
 ·exact simu_stuck _
 ·cases x<;>exact simu_stuck _
 ·cases x
  case pointer=>
   show Simu P H (asInt y>>=_)
   repeat' (first
    |exact simu_pure' _
    |exact simu_pure _
    |exact simu_unsupported _ (fun _ h=>by cases h)
    |exact simu_stuck _
    |exact simu_goPanic _
    |assumption
    |(refine simu_viewAt_bind ?_ (fun _ _=>simu_map (simu_unsupported _ (fun _ h=>by cases h))) (fun _ _ v es b v' es' h=>by change ((Result.halt _ _:Result _),_)=_ at h;simp at h))
    |(refine simu_viewAt_bind ?_ (fun _ _=>simu_unsupported _ (fun _ h=>by cases h)) (fun _ _ v es b v' es' h=>by change ((Result.halt _ _:Result _),_)=_ at h;simp at h))
    |exact simu_addTail _ _
    |dsimp only
    |exact simu_runtimePanic _
    |exact simu_boundsPanic _ _ _ _
    |exact simu_typeInfo _
    |exact simu_underlying _
    |exact simu_sizeOf _
    |exact simu_isAgg _
    |exact simu_zeroValue _
    |exact simu_loadCells _ _
    |exact simu_storeCells _ _ _
    |exact simu_loadVar _ _
    |exact simu_storeVar _ _ _
    |exact simu_newRow _ _
    |exact simu_newVar _ _
    |exact simu_part _ _ _
    |exact simu_asIntOf _
    |exact simu_asInt _
    |exact simu_asBool _
    |exact simu_asString _
    |exact simu_asAgg _
    |exact simu_asAddr _
    |exact simu_sureAddr _
    |exact simu_choose _
    |exact simu_frozen _
    |exact simu_askRoom _
    |exact simu_noRoom
    |exact simu_load _
    |exact simu_store _ _
    |exact simu_numberAt _
    |exact simu_noView _
    |exact simu_byteOf _
    |exact simu_fieldPlace _ _
    |exact simu_behind _
    |exact simu_sameAddr _ _
    |exact simu_samePointer _ _
    |exact simu_elemOf _
    |refine simu_forInA _ _ _ (fun _ _=> ?_)
    |refine simu_forInR _ _ _ (fun _ _=> ?_)
    |exact simu_program
    |refine simu_map ?_
    |refine simu_bind' ?_ (fun _=> ?_)
    |refine simu_ite ?_ ?_
    |split)
  all_goals exact simu_stuck _
 ·cases x<;>exact simu_stuck _
set_option maxHeartbeats 4000000 in
theorem simu_movedNumber (t:TypeId) (x y:Value):Simu P H (movedNumber t x y):=by
 unfold movedNumber asNumber
 repeat' (first
  |exact simu_pure' _
  |exact simu_pure _
  |exact simu_unsupported _ (fun _ h=>by cases h)
  |exact simu_stuck _
  |exact simu_goPanic _
  |assumption
  |exact simu_unsafeAdd _ _ _
  |exact simu_newObj _ rfl
  |dsimp only
  |exact simu_runtimePanic _
  |exact simu_boundsPanic _ _ _ _
  |exact simu_typeInfo _
  |exact simu_underlying _
  |exact simu_sizeOf _
  |exact simu_isAgg _
  |exact simu_zeroValue _
  |exact simu_loadCells _ _
  |exact simu_storeCells _ _ _
  |exact simu_loadVar _ _
  |exact simu_storeVar _ _ _
  |exact simu_newRow _ _
  |exact simu_newVar _ _
  |exact simu_part _ _ _
  |exact simu_asIntOf _
  |exact simu_asInt _
  |exact simu_asBool _
  |exact simu_asString _
  |exact simu_asAgg _
  |exact simu_asAddr _
  |exact simu_sureAddr _
  |exact simu_choose _
  |exact simu_frozen _
  |exact simu_askRoom _
  |exact simu_noRoom
  |exact simu_load _
  |exact simu_store _ _
  |exact simu_numberAt _
  |exact simu_noView _
  |exact simu_byteOf _
  |exact simu_fieldPlace _ _
  |exact simu_behind _
  |exact simu_sameAddr _ _
  |exact simu_samePointer _ _
  |exact simu_elemOf _
  |refine simu_forInA _ _ _ (fun _ _=> ?_)
  |refine simu_forInR _ _ _ (fun _ _=> ?_)
  |exact simu_program
  |refine simu_map ?_
  |refine simu_bind' ?_ (fun _=> ?_)
  |refine simu_ite ?_ ?_
  |split)
theorem simu_movedPointer (t:TypeId) (x y:Value):Simu P H (movedPointer t x y):=by
 unfold movedPointer
 repeat' (first
  |exact simu_pure' _
  |exact simu_pure _
  |exact simu_unsupported _ (fun _ h=>by cases h)
  |exact simu_stuck _
  |exact simu_goPanic _
  |assumption
  |exact simu_unsafeAdd _ _ _
  |dsimp only
  |exact simu_runtimePanic _
  |exact simu_boundsPanic _ _ _ _
  |exact simu_typeInfo _
  |exact simu_underlying _
  |exact simu_sizeOf _
  |exact simu_isAgg _
  |exact simu_zeroValue _
  |exact simu_loadCells _ _
  |exact simu_storeCells _ _ _
  |exact simu_loadVar _ _
  |exact simu_storeVar _ _ _
  |exact simu_newRow _ _
  |exact simu_newVar _ _
  |exact simu_part _ _ _
  |exact simu_asIntOf _
  |exact simu_asInt _
  |exact simu_asBool _
  |exact simu_asString _
  |exact simu_asAgg _
  |exact simu_asAddr _
  |exact simu_sureAddr _
  |exact simu_choose _
  |exact simu_frozen _
  |exact simu_askRoom _
  |exact simu_noRoom
  |exact simu_load _
  |exact simu_store _ _
  |exact simu_numberAt _
  |exact simu_noView _
  |exact simu_byteOf _
  |exact simu_fieldPlace _ _
  |exact simu_behind _
  |exact simu_sameAddr _ _
  |exact simu_samePointer _ _
  |exact simu_elemOf _
  |refine simu_forInA _ _ _ (fun _ _=> ?_)
  |refine simu_forInR _ _ _ (fun _ _=> ?_)
  |exact simu_program
  |refine simu_map ?_
  |refine simu_bind' ?_ (fun _=> ?_)
  |refine simu_ite ?_ ?_
  |split)
theorem simu_floatArith (op:BinOp) (k:FloatKind) (x y:Nat):Simu P H (Op.floatArith op k x y):=by
 unfold Op.floatArith
 repeat' (first
  |exact simu_pure' _
  |exact simu_pure _
  |exact simu_unsupported _ (fun _ h=>by cases h)
  |exact simu_stuck _
  |exact simu_goPanic _
  |assumption
  |dsimp only
  |exact simu_runtimePanic _
  |exact simu_boundsPanic _ _ _ _
  |exact simu_typeInfo _
  |exact simu_underlying _
  |exact simu_sizeOf _
  |exact simu_isAgg _
  |exact simu_zeroValue _
  |exact simu_loadCells _ _
  |exact simu_storeCells _ _ _
  |exact simu_loadVar _ _
  |exact simu_storeVar _ _ _
  |exact simu_newRow _ _
  |exact simu_newVar _ _
  |exact simu_part _ _ _
  |exact simu_asIntOf _
  |exact simu_asInt _
  |exact simu_asBool _
  |exact simu_asString _
  |exact simu_asAgg _
  |exact simu_asAddr _
  |exact simu_sureAddr _
  |exact simu_choose _
  |exact simu_frozen _
  |exact simu_askRoom _
  |exact simu_noRoom
  |exact simu_load _
  |exact simu_store _ _
  |exact simu_numberAt _
  |exact simu_noView _
  |exact simu_byteOf _
  |exact simu_fieldPlace _ _
  |exact simu_behind _
  |exact simu_sameAddr _ _
  |exact simu_samePointer _ _
  |exact simu_elemOf _
  |refine simu_forInA _ _ _ (fun _ _=> ?_)
  |refine simu_forInR _ _ _ (fun _ _=> ?_)
  |exact simu_program
  |refine simu_map ?_
  |refine simu_bind' ?_ (fun _=> ?_)
  |refine simu_ite ?_ ?_
  |split)
theorem simu_floatCmp (op:BinOp) (k:FloatKind) (x y:Nat):Simu P H (Op.floatCmp op k x y):=by
 unfold Op.floatCmp
 repeat' (first
  |exact simu_pure' _
  |exact simu_pure _
  |exact simu_unsupported _ (fun _ h=>by cases h)
  |exact simu_stuck _
  |exact simu_goPanic _
  |assumption
  |dsimp only
  |exact simu_runtimePanic _
  |exact simu_boundsPanic _ _ _ _
  |exact simu_typeInfo _
  |exact simu_underlying _
  |exact simu_sizeOf _
  |exact simu_isAgg _
  |exact simu_zeroValue _
  |exact simu_loadCells _ _
  |exact simu_storeCells _ _ _
  |exact simu_loadVar _ _
  |exact simu_storeVar _ _ _
  |exact simu_newRow _ _
  |exact simu_newVar _ _
  |exact simu_part _ _ _
  |exact simu_asIntOf _
  |exact simu_asInt _
  |exact simu_asBool _
  |exact simu_asString _
  |exact simu_asAgg _
  |exact simu_asAddr _
  |exact simu_sureAddr _
  |exact simu_choose _
  |exact simu_frozen _
  |exact simu_askRoom _
  |exact simu_noRoom
  |exact simu_load _
  |exact simu_store _ _
  |exact simu_numberAt _
  |exact simu_noView _
  |exact simu_byteOf _
  |exact simu_fieldPlace _ _
  |exact simu_behind _
  |exact simu_sameAddr _ _
  |exact simu_samePointer _ _
  |exact simu_elemOf _
  |refine simu_forInA _ _ _ (fun _ _=> ?_)
  |refine simu_forInR _ _ _ (fun _ _=> ?_)
  |exact simu_program
  |refine simu_map ?_
  |refine simu_bind' ?_ (fun _=> ?_)
  |refine simu_ite ?_ ?_
  |split)
theorem simu_f2f (s:FloatKind) (x:Nat) (d:FloatKind):Simu P H (Conv.floatToFloat s x d):=by
 unfold Conv.floatToFloat
 repeat' (first
  |exact simu_pure' _
  |exact simu_pure _
  |exact simu_unsupported _ (fun _ h=>by cases h)
  |exact simu_stuck _
  |exact simu_goPanic _
  |assumption
  |dsimp only
  |exact simu_runtimePanic _
  |exact simu_boundsPanic _ _ _ _
  |exact simu_typeInfo _
  |exact simu_underlying _
  |exact simu_sizeOf _
  |exact simu_isAgg _
  |exact simu_zeroValue _
  |exact simu_loadCells _ _
  |exact simu_storeCells _ _ _
  |exact simu_loadVar _ _
  |exact simu_storeVar _ _ _
  |exact simu_newRow _ _
  |exact simu_newVar _ _
  |exact simu_part _ _ _
  |exact simu_asIntOf _
  |exact simu_asInt _
  |exact simu_asBool _
  |exact simu_asString _
  |exact simu_asAgg _
  |exact simu_asAddr _
  |exact simu_sureAddr _
  |exact simu_choose _
  |exact simu_frozen _
  |exact simu_askRoom _
  |exact simu_noRoom
  |exact simu_load _
  |exact simu_store _ _
  |exact simu_numberAt _
  |exact simu_noView _
  |exact simu_byteOf _
  |exact simu_fieldPlace _ _
  |exact simu_behind _
  |exact simu_sameAddr _ _
  |exact simu_samePointer _ _
  |exact simu_elemOf _
  |refine simu_forInA _ _ _ (fun _ _=> ?_)
  |refine simu_forInR _ _ _ (fun _ _=> ?_)
  |exact simu_program
  |refine simu_map ?_
  |refine simu_bind' ?_ (fun _=> ?_)
  |refine simu_ite ?_ ?_
  |split)
theorem simu_carith (op:BinOp) (k:FloatKind) (x y:Nat):Simu P H (Op.Complex.arith op k x y):=by
 unfold Op.Complex.arith
 repeat' (first
  |exact simu_pure' _
  |exact simu_pure _
  |exact simu_unsupported _ (fun _ h=>by cases h)
  |exact simu_stuck _
  |exact simu_goPanic _
  |assumption
  |exact simu_floatArith _ _ _ _
  |dsimp only
  |exact simu_runtimePanic _
  |exact simu_boundsPanic _ _ _ _
  |exact simu_typeInfo _
  |exact simu_underlying _
  |exact simu_sizeOf _
  |exact simu_isAgg _
  |exact simu_zeroValue _
  |exact simu_loadCells _ _
  |exact simu_storeCells _ _ _
  |exact simu_loadVar _ _
  |exact simu_storeVar _ _ _
  |exact simu_newRow _ _
  |exact simu_newVar _ _
  |exact simu_part _ _ _
  |exact simu_asIntOf _
  |exact simu_asInt _
  |exact simu_asBool _
  |exact simu_asString _
  |exact simu_asAgg _
  |exact simu_asAddr _
  |exact simu_sureAddr _
  |exact simu_choose _
  |exact simu_frozen _
  |exact simu_askRoom _
  |exact simu_noRoom
  |exact simu_load _
  |exact simu_store _ _
  |exact simu_numberAt _
  |exact simu_noView _
  |exact simu_byteOf _
  |exact simu_fieldPlace _ _
  |exact simu_behind _
  |exact simu_sameAddr _ _
  |exact simu_samePointer _ _
  |exact simu_elemOf _
  |refine simu_forInA _ _ _ (fun _ _=> ?_)
  |refine simu_forInR _ _ _ (fun _ _=> ?_)
  |exact simu_program
  |refine simu_map ?_
  |refine simu_bind' ?_ (fun _=> ?_)
  |refine simu_ite ?_ ?_
  |split)
theorem simu_ccmp (op:BinOp) (k:FloatKind) (x y:Nat):Simu P H (Op.Complex.cmp op k x y):=by
 unfold Op.Complex.cmp
 repeat' (first
  |exact simu_pure' _
  |exact simu_pure _
  |exact simu_unsupported _ (fun _ h=>by cases h)
  |exact simu_stuck _
  |exact simu_goPanic _
  |assumption
  |exact simu_floatCmp _ _ _ _
  |dsimp only
  |exact simu_runtimePanic _
  |exact simu_boundsPanic _ _ _ _
  |exact simu_typeInfo _
  |exact simu_underlying _
  |exact simu_sizeOf _
  |exact simu_isAgg _
  |exact simu_zeroValue _
  |exact simu_loadCells _ _
  |exact simu_storeCells _ _ _
  |exact simu_loadVar _ _
  |exact simu_storeVar _ _ _
  |exact simu_newRow _ _
  |exact simu_newVar _ _
  |exact simu_part _ _ _
  |exact simu_asIntOf _
  |exact simu_asInt _
  |exact simu_asBool _
  |exact simu_asString _
  |exact simu_asAgg _
  |exact simu_asAddr _
  |exact simu_sureAddr _
  |exact simu_choose _
  |exact simu_frozen _
  |exact simu_askRoom _
  |exact simu_noRoom
  |exact simu_load _
  |exact simu_store _ _
  |exact simu_numberAt _
  |exact simu_noView _
  |exact simu_byteOf _
  |exact simu_fieldPlace _ _
  |exact simu_behind _
  |exact simu_sameAddr _ _
  |exact simu_samePointer _ _
  |exact simu_elemOf _
  |refine simu_forInA _ _ _ (fun _ _=> ?_)
  |refine simu_forInR _ _ _ (fun _ _=> ?_)
  |exact simu_program
  |refine simu_map ?_
  |refine simu_bind' ?_ (fun _=> ?_)
  |refine simu_ite ?_ ?_
  |split)
theorem simu_cconv (s:FloatKind) (x:Nat) (d:FloatKind):Simu P H (Op.Complex.conv s x d):=by
 unfold Op.Complex.conv
 repeat' (first
  |exact simu_pure' _
  |exact simu_pure _
  |exact simu_unsupported _ (fun _ h=>by cases h)
  |exact simu_stuck _
  |exact simu_goPanic _
  |assumption
  |exact simu_f2f _ _ _
  |dsimp only
  |exact simu_runtimePanic _
  |exact simu_boundsPanic _ _ _ _
  |exact simu_typeInfo _
  |exact simu_underlying _
  |exact simu_sizeOf _
  |exact simu_isAgg _
  |exact simu_zeroValue _
  |exact simu_loadCells _ _
  |exact simu_storeCells _ _ _
  |exact simu_loadVar _ _
  |exact simu_storeVar _ _ _
  |exact simu_newRow _ _
  |exact simu_newVar _ _
  |exact simu_part _ _ _
  |exact simu_asIntOf _
  |exact simu_asInt _
  |exact simu_asBool _
  |exact simu_asString _
  |exact simu_asAgg _
  |exact simu_asAddr _
  |exact simu_sureAddr _
  |exact simu_choose _
  |exact simu_frozen _
  |exact simu_askRoom _
  |exact simu_noRoom
  |exact simu_load _
  |exact simu_store _ _
  |exact simu_numberAt _
  |exact simu_noView _
  |exact simu_byteOf _
  |exact simu_fieldPlace _ _
  |exact simu_behind _
  |exact simu_sameAddr _ _
  |exact simu_samePointer _ _
  |exact simu_elemOf _
  |refine simu_forInA _ _ _ (fun _ _=> ?_)
  |refine simu_forInR _ _ _ (fun _ _=> ?_)
  |exact simu_program
  |refine simu_map ?_
  |refine simu_bind' ?_ (fun _=> ?_)
  |refine simu_ite ?_ ?_
  |split)
set_option maxHeartbeats 4000000 in
theorem simu_product (a b c d:Nat):Simu P H (Op.Complex.product a b c d):=by
 unfold Op.Complex.product Op.Complex.sub Op.Complex.mul Op.Complex.add
 repeat' (first
  |exact simu_pure' _
  |exact simu_pure _
  |exact simu_unsupported _ (fun _ h=>by cases h)
  |exact simu_stuck _
  |exact simu_goPanic _
  |assumption
  |exact simu_carith _ _ _ _
  |exact simu_ccmp _ _ _ _
  |exact simu_cconv _ _ _
  |dsimp only
  |exact simu_runtimePanic _
  |exact simu_boundsPanic _ _ _ _
  |exact simu_typeInfo _
  |exact simu_underlying _
  |exact simu_sizeOf _
  |exact simu_isAgg _
  |exact simu_zeroValue _
  |exact simu_loadCells _ _
  |exact simu_storeCells _ _ _
  |exact simu_loadVar _ _
  |exact simu_storeVar _ _ _
  |exact simu_newRow _ _
  |exact simu_newVar _ _
  |exact simu_part _ _ _
  |exact simu_asIntOf _
  |exact simu_asInt _
  |exact simu_asBool _
  |exact simu_asString _
  |exact simu_asAgg _
  |exact simu_asAddr _
  |exact simu_sureAddr _
  |exact simu_choose _
  |exact simu_frozen _
  |exact simu_askRoom _
  |exact simu_noRoom
  |exact simu_load _
  |exact simu_store _ _
  |exact simu_numberAt _
  |exact simu_noView _
  |exact simu_byteOf _
  |exact simu_fieldPlace _ _
  |exact simu_behind _
  |exact simu_sameAddr _ _
  |exact simu_samePointer _ _
  |exact simu_elemOf _
  |refine simu_forInA _ _ _ (fun _ _=> ?_)
  |refine simu_forInR _ _ _ (fun _ _=> ?_)
  |exact simu_program
  |refine simu_map ?_
  |refine simu_bind' ?_ (fun _=> ?_)
  |refine simu_ite ?_ ?_
  |split)
set_option maxHeartbeats 4000000 in
theorem simu_corrected (s a b c d:Nat):Simu P H (Op.Complex.corrected s a b c d):=by
 unfold Op.Complex.corrected Op.Complex.sub Op.Complex.mul Op.Complex.add
 repeat' (first
  |exact simu_pure' _
  |exact simu_pure _
  |exact simu_unsupported _ (fun _ h=>by cases h)
  |exact simu_stuck _
  |exact simu_goPanic _
  |assumption
  |exact simu_carith _ _ _ _
  |exact simu_ccmp _ _ _ _
  |exact simu_cconv _ _ _
  |dsimp only
  |exact simu_runtimePanic _
  |exact simu_boundsPanic _ _ _ _
  |exact simu_typeInfo _
  |exact simu_underlying _
  |exact simu_sizeOf _
  |exact simu_isAgg _
  |exact simu_zeroValue _
  |exact simu_loadCells _ _
  |exact simu_storeCells _ _ _
  |exact simu_loadVar _ _
  |exact simu_storeVar _ _ _
  |exact simu_newRow _ _
  |exact simu_newVar _ _
  |exact simu_part _ _ _
  |exact simu_asIntOf _
  |exact simu_asInt _
  |exact simu_asBool _
  |exact simu_asString _
  |exact simu_asAgg _
  |exact simu_asAddr _
  |exact simu_sureAddr _
  |exact simu_choose _
  |exact simu_frozen _
  |exact simu_askRoom _
  |exact simu_noRoom
  |exact simu_load _
  |exact simu_store _ _
  |exact simu_numberAt _
  |exact simu_noView _
  |exact simu_byteOf _
  |exact simu_fieldPlace _ _
  |exact simu_behind _
  |exact simu_sameAddr _ _
  |exact simu_samePointer _ _
  |exact simu_elemOf _
  |refine simu_forInA _ _ _ (fun _ _=> ?_)
  |refine simu_forInR _ _ _ (fun _ _=> ?_)
  |exact simu_program
  |refine simu_map ?_
  |refine simu_bind' ?_ (fun _=> ?_)
  |refine simu_ite ?_ ?_
  |split)
set_option maxHeartbeats 4000000 in
theorem simu_quotient (a b c d:Nat):Simu P H (Op.Complex.quotient a b c d):=by
 unfold Op.Complex.quotient Op.Complex.sub Op.Complex.mul Op.Complex.add Op.Complex.quo
 repeat' (first
  |exact simu_pure' _
  |exact simu_pure _
  |exact simu_unsupported _ (fun _ h=>by cases h)
  |exact simu_stuck _
  |exact simu_goPanic _
  |assumption
  |exact simu_carith _ _ _ _
  |exact simu_ccmp _ _ _ _
  |exact simu_cconv _ _ _
  |exact simu_corrected _ _ _ _ _
  |dsimp only
  |exact simu_runtimePanic _
  |exact simu_boundsPanic _ _ _ _
  |exact simu_typeInfo _
  |exact simu_underlying _
  |exact simu_sizeOf _
  |exact simu_isAgg _
  |exact simu_zeroValue _
  |exact simu_loadCells _ _
  |exact simu_storeCells _ _ _
  |exact simu_loadVar _ _
  |exact simu_storeVar _ _ _
  |exact simu_newRow _ _
  |exact simu_newVar _ _
  |exact simu_part _ _ _
  |exact simu_asIntOf _
  |exact simu_asInt _
  |exact simu_asBool _
  |exact simu_asString _
  |exact simu_asAgg _
  |exact simu_asAddr _
  |exact simu_sureAddr _
  |exact simu_choose _
  |exact simu_frozen _
  |exact simu_askRoom _
  |exact simu_noRoom
  |exact simu_load _
  |exact simu_store _ _
  |exact simu_numberAt _
  |exact simu_noView _
  |exact simu_byteOf _
  |exact simu_fieldPlace _ _
  |exact simu_behind _
  |exact simu_sameAddr _ _
  |exact simu_samePointer _ _
  |exact simu_elemOf _
  |refine simu_forInA _ _ _ (fun _ _=> ?_)
  |refine simu_forInR _ _ _ (fun _ _=> ?_)
  |exact simu_program
  |refine simu_map ?_
  |refine simu_bind' ?_ (fun _=> ?_)
  |refine simu_ite ?_ ?_
  |split)
theorem simu_complexOp (op:BinOp) (k:FloatKind) (a b c d:Nat):Simu P H (Op.complexOp op k a b c d):=by
 have hq:∀t:Bool,Simu P H (if t=true then Op.Complex.product a b c d else Op.Complex.quotient a b c d):=fun t=>simu_ite (simu_product _ _ _ _) (simu_quotient _ _ _ _)
 have h2:∀t:Bool,Simu P H (Op.Complex.conv k a .f64>>=fun a=>Op.Complex.conv k b .f64>>=fun b=>Op.Complex.conv k c .f64>>=fun c=>Op.Complex.conv k d .f64>>=fun d=>
  (if t=true then Op.Complex.product a b c d else Op.Complex.quotient a b c d)>>=fun ef=>Op.Complex.conv .f64 ef.1 k>>=fun e=>Op.Complex.conv .f64 ef.2 k>>=fun f=>pure (Value.complex k e f)):=fun t=>
  simu_bind' (simu_cconv _ _ _) fun _=>simu_bind' (simu_cconv _ _ _) fun _=>simu_bind' (simu_cconv _ _ _) fun _=>simu_bind' (simu_cconv _ _ _) fun _=>
   simu_bind' (simu_ite (simu_product _ _ _ _) (simu_quotient _ _ _ _)) fun _=>simu_bind' (simu_cconv _ _ _) fun _=>simu_bind' (simu_cconv _ _ _) fun _=>simu_pure' _
 unfold Op.complexOp
 cases op
 case add=>exact simu_bind' (simu_carith _ _ _ _) fun _=>simu_bind' (simu_carith _ _ _ _) fun _=>simu_pure' _
 case sub=>exact simu_bind' (simu_carith _ _ _ _) fun _=>simu_bind' (simu_carith _ _ _ _) fun _=>simu_pure' _
 case mul=>exact h2 (BinOp.mul==BinOp.mul)
 case quo=>exact h2 (BinOp.quo==BinOp.mul)
 case eql=>exact simu_bind' (simu_ccmp _ _ _ _) fun _=>simu_bind' (simu_ccmp _ _ _ _) fun _=>simu_pure' _
 case neq=>exact simu_bind' (simu_ccmp _ _ _ _) fun _=>simu_bind' (simu_ccmp _ _ _ _) fun _=>simu_pure' _
 all_goals exact simu_stuck _
theorem simu_intArith (op:BinOp) (k:IntKind) (x y:Int):Simu P H (Op.intArith op k x y):=by
 unfold Op.intArith
 repeat' (first
  |exact simu_pure' _
  |exact simu_pure _
  |exact simu_unsupported _ (fun _ h=>by cases h)
  |exact simu_stuck _
  |exact simu_goPanic _
  |assumption
  |dsimp only
  |exact simu_runtimePanic _
  |exact simu_boundsPanic _ _ _ _
  |exact simu_typeInfo _
  |exact simu_underlying _
  |exact simu_sizeOf _
  |exact simu_isAgg _
  |exact simu_zeroValue _
  |exact simu_loadCells _ _
  |exact simu_storeCells _ _ _
  |exact simu_loadVar _ _
  |exact simu_storeVar _ _ _
  |exact simu_newRow _ _
  |exact simu_newVar _ _
  |exact simu_part _ _ _
  |exact simu_asIntOf _
  |exact simu_asInt _
  |exact simu_asBool _
  |exact simu_asString _
  |exact simu_asAgg _
  |exact simu_asAddr _
  |exact simu_sureAddr _
  |exact simu_choose _
  |exact simu_frozen _
  |exact simu_askRoom _
  |exact simu_noRoom
  |exact simu_load _
  |exact simu_store _ _
  |exact simu_numberAt _
  |exact simu_noView _
  |exact simu_byteOf _
  |exact simu_fieldPlace _ _
  |exact simu_behind _
  |exact simu_sameAddr _ _
  |exact simu_samePointer _ _
  |exact simu_elemOf _
  |refine simu_forInA _ _ _ (fun _ _=> ?_)
  |refine simu_forInR _ _ _ (fun _ _=> ?_)
  |exact simu_program
  |refine simu_map ?_
  |refine simu_bind' ?_ (fun _=> ?_)
  |refine simu_ite ?_ ?_
  |split)
theorem simu_intDiv (op:BinOp) (k:IntKind) (x y:Int):Simu P H (Op.intDiv op k x y):=by
 unfold Op.intDiv
 repeat' (first
  |exact simu_pure' _
  |exact simu_pure _
  |exact simu_unsupported _ (fun _ h=>by cases h)
  |exact simu_stuck _
  |exact simu_goPanic _
  |assumption
  |dsimp only
  |exact simu_runtimePanic _
  |exact simu_boundsPanic _ _ _ _
  |exact simu_typeInfo _
  |exact simu_underlying _
  |exact simu_sizeOf _
  |exact simu_isAgg _
  |exact simu_zeroValue _
  |exact simu_loadCells _ _
  |exact simu_storeCells _ _ _
  |exact simu_loadVar _ _
  |exact simu_storeVar _ _ _
  |exact simu_newRow _ _
  |exact simu_newVar _ _
  |exact simu_part _ _ _
  |exact simu_asIntOf _
  |exact simu_asInt _
  |exact simu_asBool _
  |exact simu_asString _
  |exact simu_asAgg _
  |exact simu_asAddr _
  |exact simu_sureAddr _
  |exact simu_choose _
  |exact simu_frozen _
  |exact simu_askRoom _
  |exact simu_noRoom
  |exact simu_load _
  |exact simu_store _ _
  |exact simu_numberAt _
  |exact simu_noView _
  |exact simu_byteOf _
  |exact simu_fieldPlace _ _
  |exact simu_behind _
  |exact simu_sameAddr _ _
  |exact simu_samePointer _ _
  |exact simu_elemOf _
  |refine simu_forInA _ _ _ (fun _ _=> ?_)
  |refine simu_forInR _ _ _ (fun _ _=> ?_)
  |exact simu_program
  |refine simu_map ?_
  |refine simu_bind' ?_ (fun _=> ?_)
  |refine simu_ite ?_ ?_
  |split)
theorem simu_intBits (op:BinOp) (k:IntKind) (x y:Int):Simu P H (Op.intBits op k x y):=by
 unfold Op.intBits
 repeat' (first
  |exact simu_pure' _
  |exact simu_pure _
  |exact simu_unsupported _ (fun _ h=>by cases h)
  |exact simu_stuck _
  |exact simu_goPanic _
  |assumption
  |dsimp only
  |exact simu_runtimePanic _
  |exact simu_boundsPanic _ _ _ _
  |exact simu_typeInfo _
  |exact simu_underlying _
  |exact simu_sizeOf _
  |exact simu_isAgg _
  |exact simu_zeroValue _
  |exact simu_loadCells _ _
  |exact simu_storeCells _ _ _
  |exact simu_loadVar _ _
  |exact simu_storeVar _ _ _
  |exact simu_newRow _ _
  |exact simu_newVar _ _
  |exact simu_part _ _ _
  |exact simu_asIntOf _
  |exact simu_asInt _
  |exact simu_asBool _
  |exact simu_asString _
  |exact simu_asAgg _
  |exact simu_asAddr _
  |exact simu_sureAddr _
  |exact simu_choose _
  |exact simu_frozen _
  |exact simu_askRoom _
  |exact simu_noRoom
  |exact simu_load _
  |exact simu_store _ _
  |exact simu_numberAt _
  |exact simu_noView _
  |exact simu_byteOf _
  |exact simu_fieldPlace _ _
  |exact simu_behind _
  |exact simu_sameAddr _ _
  |exact simu_samePointer _ _
  |exact simu_elemOf _
  |refine simu_forInA _ _ _ (fun _ _=> ?_)
  |refine simu_forInR _ _ _ (fun _ _=> ?_)
  |exact simu_program
  |refine simu_map ?_
  |refine simu_bind' ?_ (fun _=> ?_)
  |refine simu_ite ?_ ?_
  |split)
theorem simu_intCmp (op:BinOp) (x y:Int):Simu P H (Op.intCmp op x y):=by
 unfold Op.intCmp
 repeat' (first
  |exact simu_pure' _
  |exact simu_pure _
  |exact simu_unsupported _ (fun _ h=>by cases h)
  |exact simu_stuck _
  |exact simu_goPanic _
  |assumption
  |dsimp only
  |exact simu_runtimePanic _
  |exact simu_boundsPanic _ _ _ _
  |exact simu_typeInfo _
  |exact simu_underlying _
  |exact simu_sizeOf _
  |exact simu_isAgg _
  |exact simu_zeroValue _
  |exact simu_loadCells _ _
  |exact simu_storeCells _ _ _
  |exact simu_loadVar _ _
  |exact simu_storeVar _ _ _
  |exact simu_newRow _ _
  |exact simu_newVar _ _
  |exact simu_part _ _ _
  |exact simu_asIntOf _
  |exact simu_asInt _
  |exact simu_asBool _
  |exact simu_asString _
  |exact simu_asAgg _
  |exact simu_asAddr _
  |exact simu_sureAddr _
  |exact simu_choose _
  |exact simu_frozen _
  |exact simu_askRoom _
  |exact simu_noRoom
  |exact simu_load _
  |exact simu_store _ _
  |exact simu_numberAt _
  |exact simu_noView _
  |exact simu_byteOf _
  |exact simu_fieldPlace _ _
  |exact simu_behind _
  |exact simu_sameAddr _ _
  |exact simu_samePointer _ _
  |exact simu_elemOf _
  |refine simu_forInA _ _ _ (fun _ _=> ?_)
  |refine simu_forInR _ _ _ (fun _ _=> ?_)
  |exact simu_program
  |refine simu_map ?_
  |refine simu_bind' ?_ (fun _=> ?_)
  |refine simu_ite ?_ ?_
  |split)
theorem simu_shift (op:BinOp) (k:IntKind) (x:Int) (j:IntKind) (y:Int):Simu P H (Op.shift op k x j y):=by
 unfold Op.shift
 repeat' (first
  |exact simu_pure' _
  |exact simu_pure _
  |exact simu_unsupported _ (fun _ h=>by cases h)
  |exact simu_stuck _
  |exact simu_goPanic _
  |assumption
  |dsimp only
  |exact simu_runtimePanic _
  |exact simu_boundsPanic _ _ _ _
  |exact simu_typeInfo _
  |exact simu_underlying _
  |exact simu_sizeOf _
  |exact simu_isAgg _
  |exact simu_zeroValue _
  |exact simu_loadCells _ _
  |exact simu_storeCells _ _ _
  |exact simu_loadVar _ _
  |exact simu_storeVar _ _ _
  |exact simu_newRow _ _
  |exact simu_newVar _ _
  |exact simu_part _ _ _
  |exact simu_asIntOf _
  |exact simu_asInt _
  |exact simu_asBool _
  |exact simu_asString _
  |exact simu_asAgg _
  |exact simu_asAddr _
  |exact simu_sureAddr _
  |exact simu_choose _
  |exact simu_frozen _
  |exact simu_askRoom _
  |exact simu_noRoom
  |exact simu_load _
  |exact simu_store _ _
  |exact simu_numberAt _
  |exact simu_noView _
  |exact simu_byteOf _
  |exact simu_fieldPlace _ _
  |exact simu_behind _
  |exact simu_sameAddr _ _
  |exact simu_samePointer _ _
  |exact simu_elemOf _
  |refine simu_forInA _ _ _ (fun _ _=> ?_)
  |refine simu_forInR _ _ _ (fun _ _=> ?_)
  |exact simu_program
  |refine simu_map ?_
  |refine simu_bind' ?_ (fun _=> ?_)
  |refine simu_ite ?_ ?_
  |split)
theorem simu_stringOp (op:BinOp) (x y:ByteArray):Simu P H (Op.stringOp op x y):=by
 unfold Op.stringOp
 repeat' (first
  |exact simu_pure' _
  |exact simu_pure _
  |exact simu_unsupported _ (fun _ h=>by cases h)
  |exact simu_stuck _
  |exact simu_goPanic _
  |assumption
  |dsimp only
  |exact simu_runtimePanic _
  |exact simu_boundsPanic _ _ _ _
  |exact simu_typeInfo _
  |exact simu_underlying _
  |exact simu_sizeOf _
  |exact simu_isAgg _
  |exact simu_zeroValue _
  |exact simu_loadCells _ _
  |exact simu_storeCells _ _ _
  |exact simu_loadVar _ _
  |exact simu_storeVar _ _ _
  |exact simu_newRow _ _
  |exact simu_newVar _ _
  |exact simu_part _ _ _
  |exact simu_asIntOf _
  |exact simu_asInt _
  |exact simu_asBool _
  |exact simu_asString _
  |exact simu_asAgg _
  |exact simu_asAddr _
  |exact simu_sureAddr _
  |exact simu_choose _
  |exact simu_frozen _
  |exact simu_askRoom _
  |exact simu_noRoom
  |exact simu_load _
  |exact simu_store _ _
  |exact simu_numberAt _
  |exact simu_noView _
  |exact simu_byteOf _
  |exact simu_fieldPlace _ _
  |exact simu_behind _
  |exact simu_sameAddr _ _
  |exact simu_samePointer _ _
  |exact simu_elemOf _
  |refine simu_forInA _ _ _ (fun _ _=> ?_)
  |refine simu_forInR _ _ _ (fun _ _=> ?_)
  |exact simu_program
  |refine simu_map ?_
  |refine simu_bind' ?_ (fun _=> ?_)
  |refine simu_ite ?_ ?_
  |split)
theorem simu_twoPlaces (a b:Addr):Simu P H (Op.twoPlaces a b):=by
 unfold Op.twoPlaces
 repeat' (first
  |exact simu_pure' _
  |exact simu_pure _
  |exact simu_unsupported _ (fun _ h=>by cases h)
  |exact simu_stuck _
  |exact simu_goPanic _
  |assumption
  |dsimp only
  |exact simu_runtimePanic _
  |exact simu_boundsPanic _ _ _ _
  |exact simu_typeInfo _
  |exact simu_underlying _
  |exact simu_sizeOf _
  |exact simu_isAgg _
  |exact simu_zeroValue _
  |exact simu_loadCells _ _
  |exact simu_storeCells _ _ _
  |exact simu_loadVar _ _
  |exact simu_storeVar _ _ _
  |exact simu_newRow _ _
  |exact simu_newVar _ _
  |exact simu_part _ _ _
  |exact simu_asIntOf _
  |exact simu_asInt _
  |exact simu_asBool _
  |exact simu_asString _
  |exact simu_asAgg _
  |exact simu_asAddr _
  |exact simu_sureAddr _
  |exact simu_choose _
  |exact simu_frozen _
  |exact simu_askRoom _
  |exact simu_noRoom
  |exact simu_load _
  |exact simu_store _ _
  |exact simu_numberAt _
  |exact simu_noView _
  |exact simu_byteOf _
  |exact simu_fieldPlace _ _
  |exact simu_behind _
  |exact simu_sameAddr _ _
  |exact simu_samePointer _ _
  |exact simu_elemOf _
  |refine simu_forInA _ _ _ (fun _ _=> ?_)
  |refine simu_forInR _ _ _ (fun _ _=> ?_)
  |exact simu_program
  |refine simu_map ?_
  |refine simu_bind' ?_ (fun _=> ?_)
  |refine simu_ite ?_ ?_
  |split)
theorem simu_addrSub (k:IntKind) (a b:Addr):Simu P H (Op.addrSub k a b):=by
 unfold Op.addrSub
 repeat' (first
  |exact simu_pure' _
  |exact simu_pure _
  |exact simu_unsupported _ (fun _ h=>by cases h)
  |exact simu_stuck _
  |exact simu_goPanic _
  |assumption
  |exact simu_twoPlaces _ _
  |dsimp only
  |exact simu_runtimePanic _
  |exact simu_boundsPanic _ _ _ _
  |exact simu_typeInfo _
  |exact simu_underlying _
  |exact simu_sizeOf _
  |exact simu_isAgg _
  |exact simu_zeroValue _
  |exact simu_loadCells _ _
  |exact simu_storeCells _ _ _
  |exact simu_loadVar _ _
  |exact simu_storeVar _ _ _
  |exact simu_newRow _ _
  |exact simu_newVar _ _
  |exact simu_part _ _ _
  |exact simu_asIntOf _
  |exact simu_asInt _
  |exact simu_asBool _
  |exact simu_asString _
  |exact simu_asAgg _
  |exact simu_asAddr _
  |exact simu_sureAddr _
  |exact simu_choose _
  |exact simu_frozen _
  |exact simu_askRoom _
  |exact simu_noRoom
  |exact simu_load _
  |exact simu_store _ _
  |exact simu_numberAt _
  |exact simu_noView _
  |exact simu_byteOf _
  |exact simu_fieldPlace _ _
  |exact simu_behind _
  |exact simu_sameAddr _ _
  |exact simu_samePointer _ _
  |exact simu_elemOf _
  |refine simu_forInA _ _ _ (fun _ _=> ?_)
  |refine simu_forInR _ _ _ (fun _ _=> ?_)
  |exact simu_program
  |refine simu_map ?_
  |refine simu_bind' ?_ (fun _=> ?_)
  |refine simu_ite ?_ ?_
  |split)
theorem simu_addrCmp (op:BinOp) (a b:Addr):Simu P H (Op.addrCmp op a b):=by
 unfold Op.addrCmp
 repeat' (first
  |exact simu_pure' _
  |exact simu_pure _
  |exact simu_unsupported _ (fun _ h=>by cases h)
  |exact simu_stuck _
  |exact simu_goPanic _
  |assumption
  |exact simu_twoPlaces _ _
  |dsimp only
  |exact simu_runtimePanic _
  |exact simu_boundsPanic _ _ _ _
  |exact simu_typeInfo _
  |exact simu_underlying _
  |exact simu_sizeOf _
  |exact simu_isAgg _
  |exact simu_zeroValue _
  |exact simu_loadCells _ _
  |exact simu_storeCells _ _ _
  |exact simu_loadVar _ _
  |exact simu_storeVar _ _ _
  |exact simu_newRow _ _
  |exact simu_newVar _ _
  |exact simu_part _ _ _
  |exact simu_asIntOf _
  |exact simu_asInt _
  |exact simu_asBool _
  |exact simu_asString _
  |exact simu_asAgg _
  |exact simu_asAddr _
  |exact simu_sureAddr _
  |exact simu_choose _
  |exact simu_frozen _
  |exact simu_askRoom _
  |exact simu_noRoom
  |exact simu_load _
  |exact simu_store _ _
  |exact simu_numberAt _
  |exact simu_noView _
  |exact simu_byteOf _
  |exact simu_fieldPlace _ _
  |exact simu_behind _
  |exact simu_sameAddr _ _
  |exact simu_samePointer _ _
  |exact simu_elemOf _
  |refine simu_forInA _ _ _ (fun _ _=> ?_)
  |refine simu_forInR _ _ _ (fun _ _=> ?_)
  |exact simu_program
  |refine simu_map ?_
  |refine simu_bind' ?_ (fun _=> ?_)
  |refine simu_ite ?_ ?_
  |split)
theorem simu_addrMod (k:IntKind) (a:Addr) (n:Int):Simu P H (Op.addrMod k a n):=by
 unfold Op.addrMod
 refine simu_shape_bind (fun o=> ?_) (fun e n m _=> .inl fun _ _=>rfl)
 repeat' (first
  |exact simu_pure' _
  |exact simu_pure _
  |exact simu_unsupported _ (fun _ h=>by cases h)
  |exact simu_stuck _
  |exact simu_goPanic _
  |assumption
  |dsimp only
  |exact simu_runtimePanic _
  |exact simu_boundsPanic _ _ _ _
  |exact simu_typeInfo _
  |exact simu_underlying _
  |exact simu_sizeOf _
  |exact simu_isAgg _
  |exact simu_zeroValue _
  |exact simu_loadCells _ _
  |exact simu_storeCells _ _ _
  |exact simu_loadVar _ _
  |exact simu_storeVar _ _ _
  |exact simu_newRow _ _
  |exact simu_newVar _ _
  |exact simu_part _ _ _
  |exact simu_asIntOf _
  |exact simu_asInt _
  |exact simu_asBool _
  |exact simu_asString _
  |exact simu_asAgg _
  |exact simu_asAddr _
  |exact simu_sureAddr _
  |exact simu_choose _
  |exact simu_frozen _
  |exact simu_askRoom _
  |exact simu_noRoom
  |exact simu_load _
  |exact simu_store _ _
  |exact simu_numberAt _
  |exact simu_noView _
  |exact simu_byteOf _
  |exact simu_fieldPlace _ _
  |exact simu_behind _
  |exact simu_sameAddr _ _
  |exact simu_samePointer _ _
  |exact simu_elemOf _
  |refine simu_forInA _ _ _ (fun _ _=> ?_)
  |refine simu_forInR _ _ _ (fun _ _=> ?_)
  |exact simu_program
  |refine simu_map ?_
  |refine simu_bind' ?_ (fun _=> ?_)
  |refine simu_ite ?_ ?_
  |split)
set_option maxHeartbeats 4000000 in
theorem simu_binOp (op:BinOp) (t:TypeId) (x y:Value):Simu P H (binOp op t x y):=by
 unfold binOp
 repeat' (first
  |exact simu_pure' _
  |exact simu_pure _
  |exact simu_unsupported _ (fun _ h=>by cases h)
  |exact simu_stuck _
  |exact simu_goPanic _
  |assumption
  |exact simu_intArith _ _ _ _
  |exact simu_intDiv _ _ _ _
  |exact simu_intBits _ _ _ _
  |exact simu_intCmp _ _ _
  |exact simu_shift _ _ _ _ _
  |exact simu_stringOp _ _ _
  |exact simu_addrSub _ _ _
  |exact simu_addrCmp _ _ _
  |exact simu_addrMod _ _ _
  |exact simu_floatArith _ _ _ _
  |exact simu_floatCmp _ _ _ _
  |exact simu_complexOp _ _ _ _ _ _
  |exact simu_movedNumber _ _ _
  |exact simu_movedPointer _ _ _
  |exact simu_equalIn _ _ _ _
  |dsimp only
  |exact simu_runtimePanic _
  |exact simu_boundsPanic _ _ _ _
  |exact simu_typeInfo _
  |exact simu_underlying _
  |exact simu_sizeOf _
  |exact simu_isAgg _
  |exact simu_zeroValue _
  |exact simu_loadCells _ _
  |exact simu_storeCells _ _ _
  |exact simu_loadVar _ _
  |exact simu_storeVar _ _ _
  |exact simu_newRow _ _
  |exact simu_newVar _ _
  |exact simu_part _ _ _
  |exact simu_asIntOf _
  |exact simu_asInt _
  |exact simu_asBool _
  |exact simu_asString _
  |exact simu_asAgg _
  |exact simu_asAddr _
  |exact simu_sureAddr _
  |exact simu_choose _
  |exact simu_frozen _
  |exact simu_askRoom _
  |exact simu_noRoom
  |exact simu_load _
  |exact simu_store _ _
  |exact simu_numberAt _
  |exact simu_noView _
  |exact simu_byteOf _
  |exact simu_fieldPlace _ _
  |exact simu_behind _
  |exact simu_sameAddr _ _
  |exact simu_samePointer _ _
  |exact simu_elemOf _
  |refine simu_forInA _ _ _ (fun _ _=> ?_)
  |refine simu_forInR _ _ _ (fun _ _=> ?_)
  |exact simu_program
  |refine simu_map ?_
  |refine simu_bind' ?_ (fun _=> ?_)
  |refine simu_ite ?_ ?_
  |split)
theorem simu_unary (op:UnOp) (x:Value):Simu P H (Op.unary op x):=by
 unfold Op.unary
 repeat' (first
  |exact simu_pure' _
  |exact simu_pure _
  |exact simu_unsupported _ (fun _ h=>by cases h)
  |exact simu_stuck _
  |exact simu_goPanic _
  |assumption
  |exact simu_intArith _ _ _ _
  |exact simu_intBits _ _ _ _
  |dsimp only
  |exact simu_runtimePanic _
  |exact simu_boundsPanic _ _ _ _
  |exact simu_typeInfo _
  |exact simu_underlying _
  |exact simu_sizeOf _
  |exact simu_isAgg _
  |exact simu_zeroValue _
  |exact simu_loadCells _ _
  |exact simu_storeCells _ _ _
  |exact simu_loadVar _ _
  |exact simu_storeVar _ _ _
  |exact simu_newRow _ _
  |exact simu_newVar _ _
  |exact simu_part _ _ _
  |exact simu_asIntOf _
  |exact simu_asInt _
  |exact simu_asBool _
  |exact simu_asString _
  |exact simu_asAgg _
  |exact simu_asAddr _
  |exact simu_sureAddr _
  |exact simu_choose _
  |exact simu_frozen _
  |exact simu_askRoom _
  |exact simu_noRoom
  |exact simu_load _
  |exact simu_store _ _
  |exact simu_numberAt _
  |exact simu_noView _
  |exact simu_byteOf _
  |exact simu_fieldPlace _ _
  |exact simu_behind _
  |exact simu_sameAddr _ _
  |exact simu_samePointer _ _
  |exact simu_elemOf _
  |refine simu_forInA _ _ _ (fun _ _=> ?_)
  |refine simu_forInR _ _ _ (fun _ _=> ?_)
  |exact simu_program
  |refine simu_map ?_
  |refine simu_bind' ?_ (fun _=> ?_)
  |refine simu_ite ?_ ?_
  |split)
end
end Co
end Go.Proofs.Ytlngbdggehghgaa
