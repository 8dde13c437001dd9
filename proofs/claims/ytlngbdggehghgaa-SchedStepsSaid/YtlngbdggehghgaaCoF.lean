/-
  The operations of plain code obey the law of CoA (Simu): fourth lot: variables, slices, builtins. Conditions: as each theorem says.
-/
import Derived.Test.YtlngbdggehghgaaCoE
namespace Go.Proofs.Ytlngbdggehghgaa
set_option linter.unusedSimpArgs false
set_option linter.unusedVariables false
namespace Co
section
variable {α β:Type} {P:Program} {H:Nat→Option Nat}
theorem simu_eq {s s':Sem α} (h:∀w es,s.runT P w es=s'.runT P w es) (hs:Simu P H s'):Simu P H s:=by
 refine⟨fun H' v a v' es es' hn hH hr=> ?_,fun v es x v' es' hn hr=> ?_⟩
 rotate_left
 ·rw[h] at hr
  obtain⟨h1,k,h2⟩:=hs.2 v es x v' es' hn hr
  exact⟨h1,k,fun u fs hs ha=>by rw[h];exact h2 u fs hs ha⟩
 rw[h] at hr
 obtain⟨h1,h2,h3,k,h4,F⟩:=hs.1 H' v a v' es es' hn hH hr
 refine⟨h1,h2,h3,k,h4,fun w fs hv ht=> ?_⟩
 rw[h]
 exact F w fs hv ht
def convI (j:IntKind):Value→Sem Value
 | .int _ n=>Conv.intToInt j n
 | .float s b=>Conv.floatToInt s b j
 | .pointer (some _)=>unsupported .addressObserved
 |_=>unsupported (.noEntry "convert/other")
theorem simu_f2i (s:FloatKind) (b:Nat) (j:IntKind):Simu P H (Conv.floatToInt s b j):=by
 unfold Conv.floatToInt
 repeat' (first
  |exact simu_pure' _
  |exact simu_pure _
  |exact simu_unsupported _ (fun _ h=>by cases h)
  |exact simu_stuck _
  |exact simu_goPanic _
  |assumption
  |dsimp only
  |exact simu_runtimePanic _
  |exact simu_boundsPanic _ _ _ _
  |exact simu_typeInfo _
  |exact simu_underlying _
  |exact simu_sizeOf _
  |exact simu_isAgg _
  |exact simu_zeroValue _
  |exact simu_loadCells _ _
  |exact simu_storeCells _ _ _
  |exact simu_loadVar _ _
  |exact simu_storeVar _ _ _
  |exact simu_newRow _ _
  |exact simu_newVar _ _
  |exact simu_part _ _ _
  |exact simu_asIntOf _
  |exact simu_asInt _
  |exact simu_asBool _
  |exact simu_asString _
  |exact simu_asAgg _
  |exact simu_asAddr _
  |exact simu_sureAddr _
  |exact simu_choose _
  |exact simu_frozen _
  |exact simu_askRoom _
  |exact simu_noRoom
  |exact simu_load _
  |exact simu_store _ _
  |exact simu_numberAt _
  |exact simu_noView _
  |exact simu_byteOf _
  |exact simu_fieldPlace _ _
  |exact simu_behind _
  |exact simu_sameAddr _ _
  |exact simu_samePointer _ _
  |exact simu_elemOf _
  |refine simu_forInA _ _ _ (fun _ _=> ?_)
  |refine simu_forInR _ _ _ (fun _ _=> ?_)
  |exact simu_program
  |refine simu_map ?_
  |refine simu_bind' ?_ (fun _=> ?_)
  |refine simu_ite ?_ ?_
  |split)
theorem simu_convI (j:IntKind) (x:Value):Simu P H (convI j x):=by
 unfold convI
 split
 ·exact simu_pure' _
 ·exact simu_f2i _ _ _
 ·exact simu_unsupported _ (fun _ h=>by cases h)
 ·exact simu_unsupported _ (fun _ h=>by cases h)
theorem simu_convertI (s d:TypeId) (k j:IntKind) (hs:P.underlying s=some (.int k)) (hd:P.underlying d=some (.int j)) (x:Value):Simu P H (convert s d x):=by
 have hu:∀(t:TypeId) (e:TypeDesc),P.underlying t=some e→∀(w:World) (fs:Array Event),(underlying t).runT P w fs=(.ok e w,fs):=by
  intro t e h w fs
  unfold underlying
  simp only[program,Bind.bind,Sem.bind,Sem.runT,h,pure]
 have key:∀(w:World) (fs:Array Event),(convert s d x).runT P w fs=(convI j x).runT P w fs:=by
  intro w fs
  unfold convert
  simp only[Bind.bind]
  rw[Sem.runT_bind',hu _ _ hs]
  simp only
  rw[Sem.runT_bind',hu _ _ hd]
  cases x with
  |pointer p=>cases p<;>rfl
  |_=>rfl
 exact simu_eq key (simu_convI j x)
theorem simu_mapM {γ:Type} {δ:Type} (f:γ→Sem δ) (hf:∀a,Simu P H (f a)) (l:Array γ):Simu P H (l.mapM f):=by
 rw[Array.mapM_eq_mapM_toList]
 refine simu_map ?_
 induction l.toList with
 |nil=>exact simu_pure' _
 |cons a l ih=>
  rw[List.mapM_cons]
  exact simu_bind' (hf _) fun _=>simu_bind' ih fun _=>simu_pure' _
theorem simu_build (t:TypeId) (l:Array (Nat×Value)):Simu P H (Instr.build t l):=by
 unfold Instr.build
 repeat' (first
  |exact simu_pure' _
  |exact simu_pure _
  |exact simu_unsupported _ (fun _ h=>by cases h)
  |exact simu_stuck _
  |exact simu_goPanic _
  |assumption
  |(refine simu_mapM _ (fun _=> ?_) _)
  |dsimp only
  |exact simu_runtimePanic _
  |exact simu_boundsPanic _ _ _ _
  |exact simu_typeInfo _
  |exact simu_underlying _
  |exact simu_sizeOf _
  |exact simu_isAgg _
  |exact simu_zeroValue _
  |exact simu_loadCells _ _
  |exact simu_storeCells _ _ _
  |exact simu_loadVar _ _
  |exact simu_storeVar _ _ _
  |exact simu_newRow _ _
  |exact simu_newVar _ _
  |exact simu_part _ _ _
  |exact simu_asIntOf _
  |exact simu_asInt _
  |exact simu_asBool _
  |exact simu_asString _
  |exact simu_asAgg _
  |exact simu_asAddr _
  |exact simu_sureAddr _
  |exact simu_choose _
  |exact simu_frozen _
  |exact simu_askRoom _
  |exact simu_noRoom
  |exact simu_load _
  |exact simu_store _ _
  |exact simu_numberAt _
  |exact simu_noView _
  |exact simu_byteOf _
  |exact simu_fieldPlace _ _
  |exact simu_behind _
  |exact simu_sameAddr _ _
  |exact simu_samePointer _ _
  |exact simu_elemOf _
  |refine simu_forInA _ _ _ (fun _ _=> ?_)
  |refine simu_forInR _ _ _ (fun _ _=> ?_)
  |exact simu_program
  |refine simu_map ?_
  |refine simu_bind' ?_ (fun _=> ?_)
  |refine simu_ite ?_ ?_
  |split)
theorem simu_buildSlice (t:TypeId) (n:Nat) (l:Array (Nat×Value)):Simu P H (Instr.buildSlice t n l):=by
 unfold Instr.buildSlice
 repeat' (first
  |exact simu_pure' _
  |exact simu_pure _
  |exact simu_unsupported _ (fun _ h=>by cases h)
  |exact simu_stuck _
  |exact simu_goPanic _
  |assumption
  |(refine simu_mapM _ (fun _=> ?_) _)
  |dsimp only
  |exact simu_runtimePanic _
  |exact simu_boundsPanic _ _ _ _
  |exact simu_typeInfo _
  |exact simu_underlying _
  |exact simu_sizeOf _
  |exact simu_isAgg _
  |exact simu_zeroValue _
  |exact simu_loadCells _ _
  |exact simu_storeCells _ _ _
  |exact simu_loadVar _ _
  |exact simu_storeVar _ _ _
  |exact simu_newRow _ _
  |exact simu_newVar _ _
  |exact simu_part _ _ _
  |exact simu_asIntOf _
  |exact simu_asInt _
  |exact simu_asBool _
  |exact simu_asString _
  |exact simu_asAgg _
  |exact simu_asAddr _
  |exact simu_sureAddr _
  |exact simu_choose _
  |exact simu_frozen _
  |exact simu_askRoom _
  |exact simu_noRoom
  |exact simu_load _
  |exact simu_store _ _
  |exact simu_numberAt _
  |exact simu_noView _
  |exact simu_byteOf _
  |exact simu_fieldPlace _ _
  |exact simu_behind _
  |exact simu_sameAddr _ _
  |exact simu_samePointer _ _
  |exact simu_elemOf _
  |refine simu_forInA _ _ _ (fun _ _=> ?_)
  |refine simu_forInR _ _ _ (fun _ _=> ?_)
  |exact simu_program
  |refine simu_map ?_
  |refine simu_bind' ?_ (fun _=> ?_)
  |refine simu_ite ?_ ?_
  |split)
theorem simu_box (t:TypeId) (x:Value):Simu P H (Instr.box t x):=by
 unfold Instr.box
 repeat' (first
  |exact simu_pure' _
  |exact simu_pure _
  |exact simu_unsupported _ (fun _ h=>by cases h)
  |exact simu_stuck _
  |exact simu_goPanic _
  |assumption
  |dsimp only
  |exact simu_runtimePanic _
  |exact simu_boundsPanic _ _ _ _
  |exact simu_typeInfo _
  |exact simu_underlying _
  |exact simu_sizeOf _
  |exact simu_isAgg _
  |exact simu_zeroValue _
  |exact simu_loadCells _ _
  |exact simu_storeCells _ _ _
  |exact simu_loadVar _ _
  |exact simu_storeVar _ _ _
  |exact simu_newRow _ _
  |exact simu_newVar _ _
  |exact simu_part _ _ _
  |exact simu_asIntOf _
  |exact simu_asInt _
  |exact simu_asBool _
  |exact simu_asString _
  |exact simu_asAgg _
  |exact simu_asAddr _
  |exact simu_sureAddr _
  |exact simu_choose _
  |exact simu_frozen _
  |exact simu_askRoom _
  |exact simu_noRoom
  |exact simu_load _
  |exact simu_store _ _
  |exact simu_numberAt _
  |exact simu_noView _
  |exact simu_byteOf _
  |exact simu_fieldPlace _ _
  |exact simu_behind _
  |exact simu_sameAddr _ _
  |exact simu_samePointer _ _
  |exact simu_elemOf _
  |refine simu_forInA _ _ _ (fun _ _=> ?_)
  |refine simu_forInR _ _ _ (fun _ _=> ?_)
  |exact simu_program
  |refine simu_map ?_
  |refine simu_bind' ?_ (fun _=> ?_)
  |refine simu_ite ?_ ?_
  |split)
theorem simu_alloc (t:TypeId) (b:Bool) (x:Value):Simu P H (Instr.alloc t b x):=by
 unfold Instr.alloc
 repeat' (first
  |exact simu_pure' _
  |exact simu_pure _
  |exact simu_unsupported _ (fun _ h=>by cases h)
  |exact simu_stuck _
  |exact simu_goPanic _
  |assumption
  |dsimp only
  |exact simu_runtimePanic _
  |exact simu_boundsPanic _ _ _ _
  |exact simu_typeInfo _
  |exact simu_underlying _
  |exact simu_sizeOf _
  |exact simu_isAgg _
  |exact simu_zeroValue _
  |exact simu_loadCells _ _
  |exact simu_storeCells _ _ _
  |exact simu_loadVar _ _
  |exact simu_storeVar _ _ _
  |exact simu_newRow _ _
  |exact simu_newVar _ _
  |exact simu_part _ _ _
  |exact simu_asIntOf _
  |exact simu_asInt _
  |exact simu_asBool _
  |exact simu_asString _
  |exact simu_asAgg _
  |exact simu_asAddr _
  |exact simu_sureAddr _
  |exact simu_choose _
  |exact simu_frozen _
  |exact simu_askRoom _
  |exact simu_noRoom
  |exact simu_load _
  |exact simu_store _ _
  |exact simu_numberAt _
  |exact simu_noView _
  |exact simu_byteOf _
  |exact simu_fieldPlace _ _
  |exact simu_behind _
  |exact simu_sameAddr _ _
  |exact simu_samePointer _ _
  |exact simu_elemOf _
  |refine simu_forInA _ _ _ (fun _ _=> ?_)
  |refine simu_forInR _ _ _ (fun _ _=> ?_)
  |exact simu_program
  |refine simu_map ?_
  |refine simu_bind' ?_ (fun _=> ?_)
  |refine simu_ite ?_ ?_
  |split)
theorem simu_loadAt (t:TypeId) (x:Value):Simu P H (Instr.loadAt t x):=by
 unfold Instr.loadAt
 repeat' (first
  |exact simu_pure' _
  |exact simu_pure _
  |exact simu_unsupported _ (fun _ h=>by cases h)
  |exact simu_stuck _
  |exact simu_goPanic _
  |assumption
  |dsimp only
  |exact simu_runtimePanic _
  |exact simu_boundsPanic _ _ _ _
  |exact simu_typeInfo _
  |exact simu_underlying _
  |exact simu_sizeOf _
  |exact simu_isAgg _
  |exact simu_zeroValue _
  |exact simu_loadCells _ _
  |exact simu_storeCells _ _ _
  |exact simu_loadVar _ _
  |exact simu_storeVar _ _ _
  |exact simu_newRow _ _
  |exact simu_newVar _ _
  |exact simu_part _ _ _
  |exact simu_asIntOf _
  |exact simu_asInt _
  |exact simu_asBool _
  |exact simu_asString _
  |exact simu_asAgg _
  |exact simu_asAddr _
  |exact simu_sureAddr _
  |exact simu_choose _
  |exact simu_frozen _
  |exact simu_askRoom _
  |exact simu_noRoom
  |exact simu_load _
  |exact simu_store _ _
  |exact simu_numberAt _
  |exact simu_noView _
  |exact simu_byteOf _
  |exact simu_fieldPlace _ _
  |exact simu_behind _
  |exact simu_sameAddr _ _
  |exact simu_samePointer _ _
  |exact simu_elemOf _
  |refine simu_forInA _ _ _ (fun _ _=> ?_)
  |refine simu_forInR _ _ _ (fun _ _=> ?_)
  |exact simu_program
  |refine simu_map ?_
  |refine simu_bind' ?_ (fun _=> ?_)
  |refine simu_ite ?_ ?_
  |split)
theorem simu_storeAt (t:TypeId) (x y:Value):Simu P H (Instr.storeAt t x y):=by
 unfold Instr.storeAt
 repeat' (first
  |exact simu_pure' _
  |exact simu_pure _
  |exact simu_unsupported _ (fun _ h=>by cases h)
  |exact simu_stuck _
  |exact simu_goPanic _
  |assumption
  |dsimp only
  |exact simu_runtimePanic _
  |exact simu_boundsPanic _ _ _ _
  |exact simu_typeInfo _
  |exact simu_underlying _
  |exact simu_sizeOf _
  |exact simu_isAgg _
  |exact simu_zeroValue _
  |exact simu_loadCells _ _
  |exact simu_storeCells _ _ _
  |exact simu_loadVar _ _
  |exact simu_storeVar _ _ _
  |exact simu_newRow _ _
  |exact simu_newVar _ _
  |exact simu_part _ _ _
  |exact simu_asIntOf _
  |exact simu_asInt _
  |exact simu_asBool _
  |exact simu_asString _
  |exact simu_asAgg _
  |exact simu_asAddr _
  |exact simu_sureAddr _
  |exact simu_choose _
  |exact simu_frozen _
  |exact simu_askRoom _
  |exact simu_noRoom
  |exact simu_load _
  |exact simu_store _ _
  |exact simu_numberAt _
  |exact simu_noView _
  |exact simu_byteOf _
  |exact simu_fieldPlace _ _
  |exact simu_behind _
  |exact simu_sameAddr _ _
  |exact simu_samePointer _ _
  |exact simu_elemOf _
  |refine simu_forInA _ _ _ (fun _ _=> ?_)
  |refine simu_forInR _ _ _ (fun _ _=> ?_)
  |exact simu_program
  |refine simu_map ?_
  |refine simu_bind' ?_ (fun _=> ?_)
  |refine simu_ite ?_ ?_
  |split)
theorem simu_fieldAt (t:TypeId) (x:Value) (n:Nat):Simu P H (Instr.fieldAt t x n):=by
 unfold Instr.fieldAt
 repeat' (first
  |exact simu_pure' _
  |exact simu_pure _
  |exact simu_unsupported _ (fun _ h=>by cases h)
  |exact simu_stuck _
  |exact simu_goPanic _
  |assumption
  |dsimp only
  |exact simu_runtimePanic _
  |exact simu_boundsPanic _ _ _ _
  |exact simu_typeInfo _
  |exact simu_underlying _
  |exact simu_sizeOf _
  |exact simu_isAgg _
  |exact simu_zeroValue _
  |exact simu_loadCells _ _
  |exact simu_storeCells _ _ _
  |exact simu_loadVar _ _
  |exact simu_storeVar _ _ _
  |exact simu_newRow _ _
  |exact simu_newVar _ _
  |exact simu_part _ _ _
  |exact simu_asIntOf _
  |exact simu_asInt _
  |exact simu_asBool _
  |exact simu_asString _
  |exact simu_asAgg _
  |exact simu_asAddr _
  |exact simu_sureAddr _
  |exact simu_choose _
  |exact simu_frozen _
  |exact simu_askRoom _
  |exact simu_noRoom
  |exact simu_load _
  |exact simu_store _ _
  |exact simu_numberAt _
  |exact simu_noView _
  |exact simu_byteOf _
  |exact simu_fieldPlace _ _
  |exact simu_behind _
  |exact simu_sameAddr _ _
  |exact simu_samePointer _ _
  |exact simu_elemOf _
  |refine simu_forInA _ _ _ (fun _ _=> ?_)
  |refine simu_forInR _ _ _ (fun _ _=> ?_)
  |exact simu_program
  |refine simu_map ?_
  |refine simu_bind' ?_ (fun _=> ?_)
  |refine simu_ite ?_ ?_
  |split)
theorem simu_indexAt (t:TypeId) (x y:Value):Simu P H (Instr.indexAt t x y):=by
 unfold Instr.indexAt
 repeat' (first
  |exact simu_pure' _
  |exact simu_pure _
  |exact simu_unsupported _ (fun _ h=>by cases h)
  |exact simu_stuck _
  |exact simu_goPanic _
  |assumption
  |dsimp only
  |exact simu_runtimePanic _
  |exact simu_boundsPanic _ _ _ _
  |exact simu_typeInfo _
  |exact simu_underlying _
  |exact simu_sizeOf _
  |exact simu_isAgg _
  |exact simu_zeroValue _
  |exact simu_loadCells _ _
  |exact simu_storeCells _ _ _
  |exact simu_loadVar _ _
  |exact simu_storeVar _ _ _
  |exact simu_newRow _ _
  |exact simu_newVar _ _
  |exact simu_part _ _ _
  |exact simu_asIntOf _
  |exact simu_asInt _
  |exact simu_asBool _
  |exact simu_asString _
  |exact simu_asAgg _
  |exact simu_asAddr _
  |exact simu_sureAddr _
  |exact simu_choose _
  |exact simu_frozen _
  |exact simu_askRoom _
  |exact simu_noRoom
  |exact simu_load _
  |exact simu_store _ _
  |exact simu_numberAt _
  |exact simu_noView _
  |exact simu_byteOf _
  |exact simu_fieldPlace _ _
  |exact simu_behind _
  |exact simu_sameAddr _ _
  |exact simu_samePointer _ _
  |exact simu_elemOf _
  |refine simu_forInA _ _ _ (fun _ _=> ?_)
  |refine simu_forInR _ _ _ (fun _ _=> ?_)
  |exact simu_program
  |refine simu_map ?_
  |refine simu_bind' ?_ (fun _=> ?_)
  |refine simu_ite ?_ ?_
  |split)
theorem simu_sliceBound (v:Value) (n:Nat) (c:BoundsCode):Simu P H (Instr.sliceBound v n c):=by
 unfold Instr.sliceBound
 repeat' (first
  |exact simu_pure' _
  |exact simu_pure _
  |exact simu_unsupported _ (fun _ h=>by cases h)
  |exact simu_stuck _
  |exact simu_goPanic _
  |assumption
  |dsimp only
  |exact simu_runtimePanic _
  |exact simu_boundsPanic _ _ _ _
  |exact simu_typeInfo _
  |exact simu_underlying _
  |exact simu_sizeOf _
  |exact simu_isAgg _
  |exact simu_zeroValue _
  |exact simu_loadCells _ _
  |exact simu_storeCells _ _ _
  |exact simu_loadVar _ _
  |exact simu_storeVar _ _ _
  |exact simu_newRow _ _
  |exact simu_newVar _ _
  |exact simu_part _ _ _
  |exact simu_asIntOf _
  |exact simu_asInt _
  |exact simu_asBool _
  |exact simu_asString _
  |exact simu_asAgg _
  |exact simu_asAddr _
  |exact simu_sureAddr _
  |exact simu_choose _
  |exact simu_frozen _
  |exact simu_askRoom _
  |exact simu_noRoom
  |exact simu_load _
  |exact simu_store _ _
  |exact simu_numberAt _
  |exact simu_noView _
  |exact simu_byteOf _
  |exact simu_fieldPlace _ _
  |exact simu_behind _
  |exact simu_sameAddr _ _
  |exact simu_samePointer _ _
  |exact simu_elemOf _
  |refine simu_forInA _ _ _ (fun _ _=> ?_)
  |refine simu_forInR _ _ _ (fun _ _=> ?_)
  |exact simu_program
  |refine simu_map ?_
  |refine simu_bind' ?_ (fun _=> ?_)
  |refine simu_ite ?_ ?_
  |split)
theorem simu_sliceBounds (b:Bool) (n m:Nat) (x y z:Option Value):Simu P H (Instr.sliceBounds b n m x y z):=by
 unfold Instr.sliceBounds
 repeat' (first
  |exact simu_pure' _
  |exact simu_pure _
  |exact simu_unsupported _ (fun _ h=>by cases h)
  |exact simu_stuck _
  |exact simu_goPanic _
  |assumption
  |exact simu_sliceBound _ _ _
  |dsimp only
  |exact simu_runtimePanic _
  |exact simu_boundsPanic _ _ _ _
  |exact simu_typeInfo _
  |exact simu_underlying _
  |exact simu_sizeOf _
  |exact simu_isAgg _
  |exact simu_zeroValue _
  |exact simu_loadCells _ _
  |exact simu_storeCells _ _ _
  |exact simu_loadVar _ _
  |exact simu_storeVar _ _ _
  |exact simu_newRow _ _
  |exact simu_newVar _ _
  |exact simu_part _ _ _
  |exact simu_asIntOf _
  |exact simu_asInt _
  |exact simu_asBool _
  |exact simu_asString _
  |exact simu_asAgg _
  |exact simu_asAddr _
  |exact simu_sureAddr _
  |exact simu_choose _
  |exact simu_frozen _
  |exact simu_askRoom _
  |exact simu_noRoom
  |exact simu_load _
  |exact simu_store _ _
  |exact simu_numberAt _
  |exact simu_noView _
  |exact simu_byteOf _
  |exact simu_fieldPlace _ _
  |exact simu_behind _
  |exact simu_sameAddr _ _
  |exact simu_samePointer _ _
  |exact simu_elemOf _
  |refine simu_forInA _ _ _ (fun _ _=> ?_)
  |refine simu_forInR _ _ _ (fun _ _=> ?_)
  |exact simu_program
  |refine simu_map ?_
  |refine simu_bind' ?_ (fun _=> ?_)
  |refine simu_ite ?_ ?_
  |split)
theorem simu_slice (t:TypeId) (x:Value) (a b c:Option Value):Simu P H (Instr.slice t x a b c):=by
 unfold Instr.slice
 repeat' (first
  |exact simu_pure' _
  |exact simu_pure _
  |exact simu_unsupported _ (fun _ h=>by cases h)
  |exact simu_stuck _
  |exact simu_goPanic _
  |assumption
  |exact simu_sliceBounds _ _ _ _ _ _
  |dsimp only
  |exact simu_runtimePanic _
  |exact simu_boundsPanic _ _ _ _
  |exact simu_typeInfo _
  |exact simu_underlying _
  |exact simu_sizeOf _
  |exact simu_isAgg _
  |exact simu_zeroValue _
  |exact simu_loadCells _ _
  |exact simu_storeCells _ _ _
  |exact simu_loadVar _ _
  |exact simu_storeVar _ _ _
  |exact simu_newRow _ _
  |exact simu_newVar _ _
  |exact simu_part _ _ _
  |exact simu_asIntOf _
  |exact simu_asInt _
  |exact simu_asBool _
  |exact simu_asString _
  |exact simu_asAgg _
  |exact simu_asAddr _
  |exact simu_sureAddr _
  |exact simu_choose _
  |exact simu_frozen _
  |exact simu_askRoom _
  |exact simu_noRoom
  |exact simu_load _
  |exact simu_store _ _
  |exact simu_numberAt _
  |exact simu_noView _
  |exact simu_byteOf _
  |exact simu_fieldPlace _ _
  |exact simu_behind _
  |exact simu_sameAddr _ _
  |exact simu_samePointer _ _
  |exact simu_elemOf _
  |refine simu_forInA _ _ _ (fun _ _=> ?_)
  |refine simu_forInR _ _ _ (fun _ _=> ?_)
  |exact simu_program
  |refine simu_map ?_
  |refine simu_bind' ?_ (fun _=> ?_)
  |refine simu_ite ?_ ?_
  |split)
theorem simu_sliceAt (t:TypeId) (x:Value) (a b c:Option Value):Simu P H (Instr.sliceAt t x a b c):=by
 unfold Instr.sliceAt
 repeat' (first
  |exact simu_pure' _
  |exact simu_pure _
  |exact simu_unsupported _ (fun _ h=>by cases h)
  |exact simu_stuck _
  |exact simu_goPanic _
  |assumption
  |exact simu_sliceBounds _ _ _ _ _ _
  |exact simu_slice _ _ _ _ _
  |dsimp only
  |exact simu_runtimePanic _
  |exact simu_boundsPanic _ _ _ _
  |exact simu_typeInfo _
  |exact simu_underlying _
  |exact simu_sizeOf _
  |exact simu_isAgg _
  |exact simu_zeroValue _
  |exact simu_loadCells _ _
  |exact simu_storeCells _ _ _
  |exact simu_loadVar _ _
  |exact simu_storeVar _ _ _
  |exact simu_newRow _ _
  |exact simu_newVar _ _
  |exact simu_part _ _ _
  |exact simu_asIntOf _
  |exact simu_asInt _
  |exact simu_asBool _
  |exact simu_asString _
  |exact simu_asAgg _
  |exact simu_asAddr _
  |exact simu_sureAddr _
  |exact simu_choose _
  |exact simu_frozen _
  |exact simu_askRoom _
  |exact simu_noRoom
  |exact simu_load _
  |exact simu_store _ _
  |exact simu_numberAt _
  |exact simu_noView _
  |exact simu_byteOf _
  |exact simu_fieldPlace _ _
  |exact simu_behind _
  |exact simu_sameAddr _ _
  |exact simu_samePointer _ _
  |exact simu_elemOf _
  |refine simu_forInA _ _ _ (fun _ _=> ?_)
  |refine simu_forInR _ _ _ (fun _ _=> ?_)
  |exact simu_program
  |refine simu_map ?_
  |refine simu_bind' ?_ (fun _=> ?_)
  |refine simu_ite ?_ ?_
  |split)
theorem simu_makeInterface (t:TypeId) (x:Value):Simu P H (Instr.makeInterface t x):=by
 unfold Instr.makeInterface
 repeat' (first
  |exact simu_pure' _
  |exact simu_pure _
  |exact simu_unsupported _ (fun _ h=>by cases h)
  |exact simu_stuck _
  |exact simu_goPanic _
  |assumption
  |dsimp only
  |exact simu_runtimePanic _
  |exact simu_boundsPanic _ _ _ _
  |exact simu_typeInfo _
  |exact simu_underlying _
  |exact simu_sizeOf _
  |exact simu_isAgg _
  |exact simu_zeroValue _
  |exact simu_loadCells _ _
  |exact simu_storeCells _ _ _
  |exact simu_loadVar _ _
  |exact simu_storeVar _ _ _
  |exact simu_newRow _ _
  |exact simu_newVar _ _
  |exact simu_part _ _ _
  |exact simu_asIntOf _
  |exact simu_asInt _
  |exact simu_asBool _
  |exact simu_asString _
  |exact simu_asAgg _
  |exact simu_asAddr _
  |exact simu_sureAddr _
  |exact simu_choose _
  |exact simu_frozen _
  |exact simu_askRoom _
  |exact simu_noRoom
  |exact simu_load _
  |exact simu_store _ _
  |exact simu_numberAt _
  |exact simu_noView _
  |exact simu_byteOf _
  |exact simu_fieldPlace _ _
  |exact simu_behind _
  |exact simu_sameAddr _ _
  |exact simu_samePointer _ _
  |exact simu_elemOf _
  |refine simu_forInA _ _ _ (fun _ _=> ?_)
  |refine simu_forInR _ _ _ (fun _ _=> ?_)
  |exact simu_program
  |refine simu_map ?_
  |refine simu_bind' ?_ (fun _=> ?_)
  |refine simu_ite ?_ ?_
  |split)
set_option maxHeartbeats 2000000 in
theorem simu_makeSlice (t:TypeId) (x y:Value):Simu P H (Instr.makeSlice t x y):=by
 unfold Instr.makeSlice
 repeat' (first
  |exact simu_pure' _
  |exact simu_pure _
  |exact simu_unsupported _ (fun _ h=>by cases h)
  |exact simu_stuck _
  |exact simu_goPanic _
  |assumption
  |dsimp only
  |exact simu_runtimePanic _
  |exact simu_boundsPanic _ _ _ _
  |exact simu_typeInfo _
  |exact simu_underlying _
  |exact simu_sizeOf _
  |exact simu_isAgg _
  |exact simu_zeroValue _
  |exact simu_loadCells _ _
  |exact simu_storeCells _ _ _
  |exact simu_loadVar _ _
  |exact simu_storeVar _ _ _
  |exact simu_newRow _ _
  |exact simu_newVar _ _
  |exact simu_part _ _ _
  |exact simu_asIntOf _
  |exact simu_asInt _
  |exact simu_asBool _
  |exact simu_asString _
  |exact simu_asAgg _
  |exact simu_asAddr _
  |exact simu_sureAddr _
  |exact simu_choose _
  |exact simu_frozen _
  |exact simu_askRoom _
  |exact simu_noRoom
  |exact simu_load _
  |exact simu_store _ _
  |exact simu_numberAt _
  |exact simu_noView _
  |exact simu_byteOf _
  |exact simu_fieldPlace _ _
  |exact simu_behind _
  |exact simu_sameAddr _ _
  |exact simu_samePointer _ _
  |exact simu_elemOf _
  |refine simu_forInA _ _ _ (fun _ _=> ?_)
  |refine simu_forInR _ _ _ (fun _ _=> ?_)
  |exact simu_program
  |refine simu_map ?_
  |refine simu_bind' ?_ (fun _=> ?_)
  |refine simu_ite ?_ ?_
  |split)
theorem simu_extract (t:Value) (n:Nat):Simu P H (Instr.extract t n):=by
 unfold Instr.extract
 repeat' (first
  |exact simu_pure' _
  |exact simu_pure _
  |exact simu_unsupported _ (fun _ h=>by cases h)
  |exact simu_stuck _
  |exact simu_goPanic _
  |assumption
  |dsimp only
  |exact simu_runtimePanic _
  |exact simu_boundsPanic _ _ _ _
  |exact simu_typeInfo _
  |exact simu_underlying _
  |exact simu_sizeOf _
  |exact simu_isAgg _
  |exact simu_zeroValue _
  |exact simu_loadCells _ _
  |exact simu_storeCells _ _ _
  |exact simu_loadVar _ _
  |exact simu_storeVar _ _ _
  |exact simu_newRow _ _
  |exact simu_newVar _ _
  |exact simu_part _ _ _
  |exact simu_asIntOf _
  |exact simu_asInt _
  |exact simu_asBool _
  |exact simu_asString _
  |exact simu_asAgg _
  |exact simu_asAddr _
  |exact simu_sureAddr _
  |exact simu_choose _
  |exact simu_frozen _
  |exact simu_askRoom _
  |exact simu_noRoom
  |exact simu_load _
  |exact simu_store _ _
  |exact simu_numberAt _
  |exact simu_noView _
  |exact simu_byteOf _
  |exact simu_fieldPlace _ _
  |exact simu_behind _
  |exact simu_sameAddr _ _
  |exact simu_samePointer _ _
  |exact simu_elemOf _
  |refine simu_forInA _ _ _ (fun _ _=> ?_)
  |refine simu_forInR _ _ _ (fun _ _=> ?_)
  |exact simu_program
  |refine simu_map ?_
  |refine simu_bind' ?_ (fun _=> ?_)
  |refine simu_ite ?_ ?_
  |split)
theorem simu_lenOf (x:Value):Simu P H (Builtin.lenOf x):=by
 unfold Builtin.lenOf
 repeat' (first
  |exact simu_pure' _
  |exact simu_pure _
  |exact simu_unsupported _ (fun _ h=>by cases h)
  |exact simu_stuck _
  |exact simu_goPanic _
  |assumption
  |dsimp only
  |exact simu_runtimePanic _
  |exact simu_boundsPanic _ _ _ _
  |exact simu_typeInfo _
  |exact simu_underlying _
  |exact simu_sizeOf _
  |exact simu_isAgg _
  |exact simu_zeroValue _
  |exact simu_loadCells _ _
  |exact simu_storeCells _ _ _
  |exact simu_loadVar _ _
  |exact simu_storeVar _ _ _
  |exact simu_newRow _ _
  |exact simu_newVar _ _
  |exact simu_part _ _ _
  |exact simu_asIntOf _
  |exact simu_asInt _
  |exact simu_asBool _
  |exact simu_asString _
  |exact simu_asAgg _
  |exact simu_asAddr _
  |exact simu_sureAddr _
  |exact simu_choose _
  |exact simu_frozen _
  |exact simu_askRoom _
  |exact simu_noRoom
  |exact simu_load _
  |exact simu_store _ _
  |exact simu_numberAt _
  |exact simu_noView _
  |exact simu_byteOf _
  |exact simu_fieldPlace _ _
  |exact simu_behind _
  |exact simu_sameAddr _ _
  |exact simu_samePointer _ _
  |exact simu_elemOf _
  |refine simu_forInA _ _ _ (fun _ _=> ?_)
  |refine simu_forInR _ _ _ (fun _ _=> ?_)
  |exact simu_program
  |refine simu_map ?_
  |refine simu_bind' ?_ (fun _=> ?_)
  |refine simu_ite ?_ ?_
  |split)
theorem simu_firstCells (a b:Nat) (x:Value):Simu P H (Builtin.firstCells a b x):=by
 unfold Builtin.firstCells
 repeat' (first
  |exact simu_pure' _
  |exact simu_pure _
  |exact simu_unsupported _ (fun _ h=>by cases h)
  |exact simu_stuck _
  |exact simu_goPanic _
  |assumption
  |dsimp only
  |exact simu_runtimePanic _
  |exact simu_boundsPanic _ _ _ _
  |exact simu_typeInfo _
  |exact simu_underlying _
  |exact simu_sizeOf _
  |exact simu_isAgg _
  |exact simu_zeroValue _
  |exact simu_loadCells _ _
  |exact simu_storeCells _ _ _
  |exact simu_loadVar _ _
  |exact simu_storeVar _ _ _
  |exact simu_newRow _ _
  |exact simu_newVar _ _
  |exact simu_part _ _ _
  |exact simu_asIntOf _
  |exact simu_asInt _
  |exact simu_asBool _
  |exact simu_asString _
  |exact simu_asAgg _
  |exact simu_asAddr _
  |exact simu_sureAddr _
  |exact simu_choose _
  |exact simu_frozen _
  |exact simu_askRoom _
  |exact simu_noRoom
  |exact simu_load _
  |exact simu_store _ _
  |exact simu_numberAt _
  |exact simu_noView _
  |exact simu_byteOf _
  |exact simu_fieldPlace _ _
  |exact simu_behind _
  |exact simu_sameAddr _ _
  |exact simu_samePointer _ _
  |exact simu_elemOf _
  |refine simu_forInA _ _ _ (fun _ _=> ?_)
  |refine simu_forInR _ _ _ (fun _ _=> ?_)
  |exact simu_program
  |refine simu_map ?_
  |refine simu_bind' ?_ (fun _=> ?_)
  |refine simu_ite ?_ ?_
  |split)
theorem never_unsup (u:Unsupported) (v:World) (es:Array Event) (b:α) (v':World) (es':Array Event):(unsupported u:Sem α).runT P v es≠(.ok b v',es'):=by
 simp[unsupported,Sem.runT,-Sem.runT_eq]
theorem run_holds (a:Addr) (n:Nat) (v:World) (es:Array Event):∃b,(Builtin.holdsCells a n).runT P v es=(.ok b v,es):=by
 unfold Builtin.holdsCells
 simp only[shape,Bind.bind,Sem.bind,Sem.runT]
 rcases v.shape? a.block with _|⟨e,k⟩<;>exact⟨_,rfl⟩
theorem run_share (a b n:Nat) (base:Option Addr) (x:Value) (v:World) (es:Array Event):∃c,(Builtin.mayShare a b n base x).runT P v es=(.ok c v,es):=by
 have tail:∀t:Bool,∃c,((if(!t)=true then pure true else match x with
  | .slice (some d) _ _=>Builtin.holdsCells d (n*a)>>=fun z=>pure (!z||base.any (·.block==d.block))
  |_=>pure false:Sem Bool)).runT P v es=(.ok c v,es):=by
  intro t
  cases t
  ·exact⟨_,rfl⟩
  ·simp only[Bool.not_true,Bool.false_eq_true,if_false]
   split
   ·rename_i d _ _
    obtain⟨c,hc⟩:=run_holds (P:=P) d (n*a) v es
    exact⟨_,by simp only[Bind.bind];rw[Sem.runT_bind',hc];rfl⟩
   ·exact⟨_,rfl⟩
 unfold Builtin.mayShare
 cases base with
 |none=>exact tail true
 |some d=>
  obtain⟨c,hc⟩:=run_holds (P:=P) d (b*a) v es
  obtain⟨r,hr⟩:=tail (c&& !v.frozen? (d.add (b/2*a)))
  refine⟨r, ?_⟩
  simp only[Bind.bind]
  rw[Sem.runT_bind',hc]
  exact hr
theorem simu_share (a b n:Nat) (base:Option Addr) (x:Value) (u:Unsupported) (hu:∀g,u≠.initOrder g):Simu P H (Builtin.mayShare a b n base x>>=fun y=>if(!y)=true then(mark .noRoom>>=fun _=>unsupported u) else unsupported u:Sem α):=by
 have key:∀v es,∃gs,((Builtin.mayShare a b n base x>>=fun y=>if(!y)=true then(mark .noRoom>>=fun _=>unsupported u) else unsupported u:Sem α)).runT P v es=(.halt (.unsupported u) v,gs):=by
  intro v es
  obtain⟨c,hc⟩:=run_share (P:=P) a b n base x v es
  simp only[Bind.bind]
  rw[Sem.runT_bind',hc]
  cases c<;>exact⟨_,rfl⟩
 refine⟨fun H v r v' es es' _ _ h=> ?_,fun v es y v' es' _ h=> ?_⟩
 ·obtain⟨gs,e⟩:=key v es
  rw[e] at h;simp at h
 ·obtain⟨gs,e⟩:=key v es
  rw[e] at h
  simp only[Prod.mk.injEq,Result.halt.injEq] at h
  rw[←h.1.1]
  exact⟨hu,0,fun u fs _ _=>⟨u,key u fs⟩⟩
set_option maxHeartbeats 2000000 in
theorem simu_append (a:Array TypeId) (t:TypeId) (args:Array Value):Simu P H (Builtin.append_ a t args):=by
 unfold Builtin.append_
 split
 ·refine simu_bind' (simu_underlying _) fun _=> ?_
  split
  ·split
   ·refine simu_bind' (simu_sizeOf _) fun _=> ?_
    extract_lets u0 jp
    have hjp:∀x,Simu P H (jp x):=by
     intro zeros
     unfold jp
     extract_lets jq
     have hjq:∀x,Simu P H (jq x):=by
      intro n
      unfold jq
      extract_lets app need jr js jt
      have happ:Simu P H app:=by
       unfold app
       refine simu_ite (simu_firstCells _ _ _) ?_
       exact simu_ite (simu_pure' _) (simu_bind' (simu_zeroValue _) fun _=>simu_pure' _)
      have hjr:∀x,Simu P H (jr x):=fun _=>simu_pure' _
      clear_value jr
      refine simu_ite ?_ ?_
      ·refine simu_bind' happ fun new=> ?_
       split
       ·exact simu_bind' (simu_storeCells _ _ _) fun r=>hjr r
       ·exact hjr ()
      ·refine simu_bind' (simu_typeInfo _) fun _=> ?_
       have hjs:∀x,Simu P H (js x):=by
        intro _
        unfold js
        refine simu_bind' (simu_choose _) fun _=>simu_bind' (simu_typeInfo _) fun _=>simu_bind' (simu_askRoom _) fun _=>simu_bind' (simu_firstCells _ _ _) fun _=>simu_bind' happ fun _=>simu_bind' (simu_zeroValue _) fun _=> ?_
        exact simu_bind' (simu_newRow _ _) fun _=>simu_pure' _
       have hjt:∀x,Simu P H (jt x):=by
        intro _
        unfold jt
        refine simu_bind' (simu_typeInfo _) fun _=> ?_
        refine simu_ite ?_ (hjs ())
        refine simu_bind' (simu_ite (simu_runtimePanic _) ?_) fun r=>hjs r
        exact simu_share _ _ _ _ _ _ (fun _ h=>by cases h)
       clear_value jt
       refine simu_ite ?_ (hjt ())
       exact simu_bind' (simu_runtimePanic _) fun r=>hjt r
     clear_value jq
     refine simu_ite ?_ ?_
     ·refine simu_bind' (simu_asInt _) fun _=> ?_
      extract_lets l js jr
      have hjs:∀x,Simu P H (js x):=fun _=>simu_bind' (simu_pure' _) fun r=>hjq r
      have hjr:∀x,Simu P H (jr x):=by
       intro _
       unfold jr
       refine simu_bind' (simu_typeInfo _) fun _=> ?_
       refine simu_ite ?_ (hjs ())
       exact simu_bind' (simu_choose _) fun _=>simu_bind' (simu_runtimePanic _) fun r=>hjs r
      clear_value jr
      refine simu_ite ?_ (hjr ())
      exact simu_bind' (simu_runtimePanic _) fun r=>hjr r
     ·exact simu_bind' (simu_lenOf _) fun r=>hjq r
    clear_value jp
    split
    ·exact simu_bind' (simu_underlying _) fun _=>simu_bind' (simu_pure' _) fun r=>hjp r
    ·exact simu_bind' (simu_pure' _) fun r=>hjp r
   ·exact simu_stuck _
  ·exact simu_stuck _
 ·exact simu_stuck _
theorem simu_len (a:Array TypeId) (t:TypeId) (args:Array Value):Simu P H (Builtin.len_ a t args):=by
 unfold Builtin.len_
 repeat' (first
  |exact simu_pure' _
  |exact simu_pure _
  |exact simu_unsupported _ (fun _ h=>by cases h)
  |exact simu_stuck _
  |exact simu_goPanic _
  |assumption
  |(refine simu_getObj_bind (fun o _ _=> ?_) (simu_stuck _) (.inr (by simp[oddV,stuck,Sem.runT,-Sem.runT_eq])) (.inr (by simp[stuck,Sem.runT,-Sem.runT_eq])))
  |dsimp only
  |exact simu_runtimePanic _
  |exact simu_boundsPanic _ _ _ _
  |exact simu_typeInfo _
  |exact simu_underlying _
  |exact simu_sizeOf _
  |exact simu_isAgg _
  |exact simu_zeroValue _
  |exact simu_loadCells _ _
  |exact simu_storeCells _ _ _
  |exact simu_loadVar _ _
  |exact simu_storeVar _ _ _
  |exact simu_newRow _ _
  |exact simu_newVar _ _
  |exact simu_part _ _ _
  |exact simu_asIntOf _
  |exact simu_asInt _
  |exact simu_asBool _
  |exact simu_asString _
  |exact simu_asAgg _
  |exact simu_asAddr _
  |exact simu_sureAddr _
  |exact simu_choose _
  |exact simu_frozen _
  |exact simu_askRoom _
  |exact simu_noRoom
  |exact simu_load _
  |exact simu_store _ _
  |exact simu_numberAt _
  |exact simu_noView _
  |exact simu_byteOf _
  |exact simu_fieldPlace _ _
  |exact simu_behind _
  |exact simu_sameAddr _ _
  |exact simu_samePointer _ _
  |exact simu_elemOf _
  |refine simu_forInA _ _ _ (fun _ _=> ?_)
  |refine simu_forInR _ _ _ (fun _ _=> ?_)
  |exact simu_program
  |refine simu_map ?_
  |refine simu_bind' ?_ (fun _=> ?_)
  |refine simu_ite ?_ ?_
  |split)
theorem simu_min2 (x y:Value):Simu P H (Builtin.min2 x y):=by
 unfold Builtin.min2
 repeat' (first
  |exact simu_pure' _
  |exact simu_pure _
  |exact simu_unsupported _ (fun _ h=>by cases h)
  |exact simu_stuck _
  |exact simu_goPanic _
  |assumption
  |exact simu_stringOp _ _ _
  |dsimp only
  |exact simu_runtimePanic _
  |exact simu_boundsPanic _ _ _ _
  |exact simu_typeInfo _
  |exact simu_underlying _
  |exact simu_sizeOf _
  |exact simu_isAgg _
  |exact simu_zeroValue _
  |exact simu_loadCells _ _
  |exact simu_storeCells _ _ _
  |exact simu_loadVar _ _
  |exact simu_storeVar _ _ _
  |exact simu_newRow _ _
  |exact simu_newVar _ _
  |exact simu_part _ _ _
  |exact simu_asIntOf _
  |exact simu_asInt _
  |exact simu_asBool _
  |exact simu_asString _
  |exact simu_asAgg _
  |exact simu_asAddr _
  |exact simu_sureAddr _
  |exact simu_choose _
  |exact simu_frozen _
  |exact simu_askRoom _
  |exact simu_noRoom
  |exact simu_load _
  |exact simu_store _ _
  |exact simu_numberAt _
  |exact simu_noView _
  |exact simu_byteOf _
  |exact simu_fieldPlace _ _
  |exact simu_behind _
  |exact simu_sameAddr _ _
  |exact simu_samePointer _ _
  |exact simu_elemOf _
  |refine simu_forInA _ _ _ (fun _ _=> ?_)
  |refine simu_forInR _ _ _ (fun _ _=> ?_)
  |exact simu_program
  |refine simu_map ?_
  |refine simu_bind' ?_ (fun _=> ?_)
  |refine simu_ite ?_ ?_
  |split)
theorem simu_minL:∀(l:List Value) (x:Value),Simu P H (l.foldlM Builtin.min2 x)
 |[],_=>simu_pure' _
 |y::l,x=>by
  rw[List.foldlM_cons]
  exact simu_bind' (simu_min2 _ _) fun z=>simu_minL l z
theorem simu_min (a:Array TypeId) (t:TypeId) (args:Array Value):Simu P H (Builtin.min_ a t args):=by
 unfold Builtin.min_
 split
 ·exact simu_stuck _
 ·exact simu_minL _ _
end
end Co
end Go.Proofs.Ytlngbdggehghgaa
