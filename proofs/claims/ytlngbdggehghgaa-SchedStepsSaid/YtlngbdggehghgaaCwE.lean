/-
  Main waits for the workers: WaitGroup.Wait, in company. Conditions: as each theorem says.
-/
import Derived.Test.YtlngbdggehghgaaCwD
namespace Go.Proofs.Ytlngbdggehghgaa
set_option linter.unusedSimpArgs false
set_option linter.unusedVariables false
namespace Co
open Go.Conc Go.RowKit
noncomputable def body34:Code:=Try.f34.body.getD .skip
structure Hd (p:Prop):Prop where
 out:p
noncomputable def lb34:Code:=inC (inC (sndC body34))
section
variable {Z:Goal} {g:Gh} {v:World} {b:Frame} {a:Act} {k:List Item} {cs:List Frame} {ops:Array Oper} {i:Nat} {rest:List Nat} {o:Oper} {y:Operand}
theorem co_conv2 (hZ:Z.Ok Try.prog) (ha:g.All) {src:TypeId} {t:TypeId} (hs:Try.prog.underlying src=some (.pointer t)) (hsz:(Try.prog.info? t).map (fun i=>decide (i.size=0))=some false)
 (ho:ops[i]?=some o) (hw:Region.wanted o (yielded ops a.tmps)=true) (hk:b.kind≠.early) (hop:o.op=.convert src 120 y)
 (hy:a.eval y=.pointer (some (c6 g.s))) (h:Co Try.prog Z 0 (g.fx2 Try.prog κL) (G (b.at (a.put o.dst (.pointer (some (c6 g.s)))) (.inRegion ops rest::k)) cs) v):Co Try.prog Z 0 (g.fx2 Try.prog κL) (G (b.at a (.inRegion ops (i::rest)::k)) cs) v:=by
 intro T T0 gs w sl q ht hi hga
 obtain⟨N,gs₁,w₀,w₁,sl₀,sl₁,U,U0,q₁,h1,h2,h3,h4,h5,h6⟩:=one_step (sl:=sl) (ha.fx2 κL_ok) rfl ht hi hga
 obtain⟨A,C⟩:=h5.comp
 have E:g.Ex2 Try.prog κL w₁.heap.size A (T0++U0) gs₁ w₁ q₁:=C.ex
 obtain⟨x,hc⟩:∃x,w₁.cell? (c6 g.s)=some x:=by
  cases E.late with
  |run _ _ h6 _=>exact⟨_,h6⟩
  |tail _ _ _ _ _ _ _ h6=>exact⟨_,h6⟩
  |done _ _ h6=>exact⟨_,h6⟩
 have hr:(execOp a.eval o).run Try.prog w₁=.ok (.value (.pointer (some (c6 g.s)))) w₁:=by
  have h1:=run_convert_to_unsafe (P:=Try.prog) (w:=w₁) hs Try.underlying120 hsz hc
  unfold execOp
  simp only[hop,hy]
  simp[h1]
 have he:(execOp a.eval o).events Try.prog w₁ #[]=#[]:=by
  have h1:=events_convert_to_unsafe (P:=Try.prog) (w:=w₁) hs Try.underlying120 hsz hc #[]
  unfold execOp
  simp only[hop,hy]
  simp[go_sem,h1]
 have hst:stepG Try.prog (0==0) (G (b.at a (.inRegion ops (i::rest)::k)) cs) w₁=.go (G (b.at (a.put o.dst (.pointer (some (c6 g.s)))) (.inRegion ops rest::k)) cs) w₁ #[]:=by
  rw[stepG_value ho hw hk hr]
  unfold listed
  rw[he,seen_none]
 obtain⟨gs₂,U₂,k1,k2,k3,k4⟩:=h5.own (sl:=sl₁) (ha.fx2 κL_ok) h4 h3 hst (by simp) (Hs.refl _ _) (Nat.le_refl _) h5.vis h5.nv
 refine hZ.back (N+1) _ _ (U++(U₂++#[])) T (h1.trans (RunsBy.head (h2.trans k1) (RunsBy.refl _))) ?_
 have e1:T++(U++(U₂++#[]))=T++U++U₂:=by simp[Array.append_assoc]
 rw[e1]
 exact h _ _ gs₂ w₁ sl₁ q₁ k3 k4 k2
end
set_option maxRecDepth 100000 in
set_option maxHeartbeats 16000000 in
theorem wait_loop {Z:Goal} {v:World} (hZ:Z.Ok Try.prog) {b₀:Frame} {a₀:Act} {ops₀:Array Oper} {i₀:Nat} {rest₀:List Nat} {k₀:List Item} {cs:List Frame}:
 ∀(l:Nat) {g:Gh} (_:g.All) (_:g.lim≤l) (_:l<1000) (_:Co Try.prog Z 0 (g.away.fx Try.prog κL 0) (G (b₀.at (a₀.put ((ops₀[i₀]?).bind (·.dst)) (.tuple #[])) (.inRegion ops₀ rest₀::k₀)) cs) v) (Yd Jj Jc Yg Y9 Qi Yt Je Yl Yz Jw Jn Yq Jm J1 J8 Jp Jb Js Qd Yc Jt Yu Jk Yi Qc J5 Qk Ja Yf Jd Yx Y8 Ju J6 Yb Jg Y7 Jy Yh Qe Y4 Yy Ye J0 Ya Y6 Jq J2 Ji Yr Yp J9 Y5 Jx Yn Jl Yw Jv Jh J4 Qf Y2 Yv Jr Qj J3 Yj Jf Yk Qb Y1 Ym Jz Qa Yo J7 Y3 Qh Y0 Ys Qg Jo:Value),
 Co Try.prog Z 0 (g.fx Try.prog κL 0) (G ((Go.Conc.base 34).at ⟨#[.pointer (some ⟨g.s,5,none⟩),Yd,Jj,Jc,Yg,Y9,Qi,Yt,Je,Yl,Yz,Jw,Jn,Yq,Jm,J1,J8,Jp,Jb,Js,Qd,Yc,Jt,Yu,Jk,Yi,Qc,J5,Qk,Ja,Yf,Jd,Yx,Y8,Ju,J6,Yb,Jg,Y7,Jy,Yh,Qe,Y4,Yy,Ye,J0,Ya,Y6,Jq,J2,Ji,Yr,Yp,J9,Y5,Jx,Yn,Jl,Yw,Jv,Jh,J4,Qf,Y2,Yv,Jr,Qj,J3,Yj,Jf,Yk,Qb,Y1,Ym,Jz,Qa,Yo,J7,Y3,Qh,Y0,Ys,Qg,Jo],[]⟩ [.code lb34,.inLoop lb34,.inBlock 0]) (b₀.at a₀ (.inRegion ops₀ (i₀::rest₀)::k₀)::cs)) v:=by
 intro l
 induction l using Nat.strongRecOn with
 |_ l ih=>
 intro g ha hlim hl hT Yd Jj Jc Yg Y9 Qi Yt Je Yl Yz Jw Jn Yq Jm J1 J8 Jp Jb Js Qd Yc Jt Yu Jk Yi Qc J5 Qk Ja Yf Jd Yx Y8 Ju J6 Yb Jg Y7 Jy Yh Qe Y4 Yy Ye J0 Ya Y6 Jq J2 Ji Yr Yp J9 Y5 Jx Yn Jl Yw Jv Jh J4 Qf Y2 Yv Jr Qj J3 Yj Jf Yk Qb Y1 Ym Jz Qa Yo J7 Y3 Qh Y0 Ys Qg Jo
 have hg:=ha.ok
 have hon:=ha.on
 have hm0:=ha.m0
 have hJ1:=Co.calmly (v:=v) hZ (hg.fx κL_ok)
 simp only[lb34,body34,Try.f34,Option.getD_some,sndC,inC] at ih⊢
 replace ih:=Hd.mk ih
 refine c_block (n:=0) (J:=fun _ a=>Co Try.prog Z 0 (g.fx Try.prog κL 0) a v) hJ1 ?_
 refine c_seq (n:=0) (J:=fun _ a=>Co Try.prog Z 0 (g.fx Try.prog κL 0) a v) hJ1 ?_
 refine c_region (n:=0) (J:=fun _ a=>Co Try.prog Z 0 (g.fx Try.prog κL 0) a v) hJ1 [0,1,2,3,4] rfl ?_
 refine c_value (n:=0) (J:=fun _ a=>Co Try.prog Z 0 (g.fx Try.prog κL 0) a v) hJ1 (.pointer (some ⟨g.s,5,none⟩)) rfl rfl (by decide) (fun _=>by go_simp;try (first|decide|assumption|omega|(simp only[*];done)|simp[*])) (fun _=>by simp[go_sem, *]) ?_
 walk_nrm
 refine c_value (n:=0) (J:=fun _ a=>Co Try.prog Z 0 (g.fx Try.prog κL 0) a v) hJ1 (.pointer (some ⟨g.s,5,none⟩)) rfl rfl (by decide) (fun _=>by go_simp;try (first|decide|assumption|omega|(simp only[*];done)|simp[*])) (fun _=>by simp[go_sem, *]) ?_
 walk_nrm
 refine c_value (n:=0) (J:=fun _ a=>Co Try.prog Z 0 (g.fx Try.prog κL 0) a v) hJ1 (.pointer (some ⟨g.s,5,none⟩)) rfl rfl (by decide) (fun _=>by go_simp;try (first|decide|assumption|omega|(simp only[*];done)|simp[*])) (fun _=>by simp[go_sem, *]) ?_
 walk_nrm
 refine c_call (n:=0) (J:=fun _ a=>Co Try.prog Z 0 (g.fx Try.prog κL 0) a v) hJ1 rfl rfl (by decide) rfl Try.func52 (by kernel_rfl) rfl ?_
 simp only[Try.f52]
 walk_nrm
 refine c_seq (n:=0) (J:=fun _ a=>Co Try.prog Z 0 (g.fx Try.prog κL 0) a v) hJ1 ?_
 refine c_region (n:=0) (J:=fun _ a=>Co Try.prog Z 0 (g.fx Try.prog κL 0) a v) hJ1 [0] rfl ?_
 refine c_value (n:=0) (J:=fun _ a=>Co Try.prog Z 0 (g.fx Try.prog κL 0) a v) hJ1 (.int .u64 0) rfl rfl (by decide) (fun _=>by go_simp;try (first|decide|assumption|omega|(simp only[*];done)|simp[*])) (fun _=>by simp[go_sem, *]) ?_
 walk_nrm
 refine c_region_end (n:=0) (J:=fun _ a=>Co Try.prog Z 0 (g.fx Try.prog κL 0) a v) hJ1 ?_
 refine c_seq (n:=0) (J:=fun _ a=>Co Try.prog Z 0 (g.fx Try.prog κL 0) a v) hJ1 ?_
 refine c_region (n:=0) (J:=fun _ a=>Co Try.prog Z 0 (g.fx Try.prog κL 0) a v) hJ1 [0,1,2,3,4] rfl ?_
 refine c_value (n:=0) (J:=fun _ a=>Co Try.prog Z 0 (g.fx Try.prog κL 0) a v) hJ1 (.pointer (some ⟨g.s,5,none⟩)) rfl rfl (by decide) (fun _=>by go_simp;try (first|decide|assumption|omega|(simp only[*];done)|simp[*])) (fun _=>by simp[go_sem, *]) ?_
 walk_nrm
 refine c_value (n:=0) (J:=fun _ a=>Co Try.prog Z 0 (g.fx Try.prog κL 0) a v) hJ1 (.pointer (some ⟨g.s,5,none⟩)) rfl rfl (by decide) (fun _=>by go_simp;try (first|decide|assumption|omega|(simp only[*];done)|simp[*])) (fun _=>by simp[go_sem, *]) ?_
 walk_nrm
 refine c_value (n:=0) (J:=fun _ a=>Co Try.prog Z 0 (g.fx Try.prog κL 0) a v) hJ1 (.pointer (some ⟨g.s,5,none⟩)) rfl rfl (by decide) (fun _=>by go_simp;try (first|decide|assumption|omega|(simp only[*];done)|simp[*])) (fun _=>by simp[go_sem, *]) ?_
 walk_nrm
 refine co_group hZ κL_ok hg hm0 hon rfl (fun w k hk hc h6 hz=> ?_)
 rw[ha.cnt] at hc
 replace hc:w.cell? (c5 g.s)=some (.int .u64 ((k:Int)*KK+((0:Nat):Int))):=by rw[hc];simp
 have hk1:k<1000:=by omega
 generalize hx:(k:Int)*KK+((0:Nat):Int)=x at hc
 obtain⟨hA,hB,hC⟩:=facts_x k 0 (by omega) hk1 hx
 have hW:=wrapI k hk1
 have hx1:IntKind.u64.wrap (x+1)=x+1:=by rw[←hx];simp only[wrapU,KK];omega
 refine⟨_,w,_,0,k,Nat.le_refl _,stepG_load_atomic rfl rfl (by decide) rfl Try.func69 (by kernel_rfl) (by kernel_rfl) (by kernel_rfl) .u64 (by kernel_rfl) rfl hc, ?_,.inl rfl,by rw[hc,←hx];simp, ?_⟩
 ·intro e he;simp only[List.mem_toArray,List.mem_cons,List.not_mem_nil,or_false] at he;subst he;exact⟨5,.inl rfl,.inl ⟨_,rfl⟩⟩
 clear hc h6 hz
 have hear:=ha.ear
 replace hear:g.set 0 k g.ear=g.set 0 k false:=by rw[hear]
 rw[hear]
 have hak:(g.set 0 k false).All:=⟨hg.set _ _ _ (by have:=hg.few;omega),hon,ha.off,hm0,rfl,rfl⟩
 have hgz:=hak.ok
 have hJ2:=Co.calmly (v:=v) hZ (hgz.fx κL_ok)
 walk_nrm
 refine c_value (n:=0) (J:=fun _ a=>Co Try.prog Z 0 ((g.set 0 k false).fx Try.prog κL 0) a v) hJ2 (.int .u64 x) rfl rfl (by decide) (fun _=>by go_simp;try (first|decide|assumption|omega|(simp only[*];done)|simp[*])) (fun _=>by simp[go_sem, *]) ?_
 walk_nrm
 refine c_region_end (n:=0) (J:=fun _ a=>Co Try.prog Z 0 ((g.set 0 k false).fx Try.prog κL 0) a v) hJ2 ?_
 refine c_ret (n:=0) (J:=fun _ a=>Co Try.prog Z 0 ((g.set 0 k false).fx Try.prog κL 0) a v) hJ2 ?_
 refine c_leave1 (n:=0) (J:=fun _ a=>Co Try.prog Z 0 ((g.set 0 k false).fx Try.prog κL 0) a v) hJ2 rfl rfl Try.func52 rfl ?_
 walk_nrm
 refine c_value (n:=0) (J:=fun _ a=>Co Try.prog Z 0 ((g.set 0 k false).fx Try.prog κL 0) a v) hJ2 (.int .u64 x) rfl rfl (by decide) (fun _=>by go_simp;try (first|decide|assumption|omega|(simp only[*];done)|simp[*])) (fun _=>by simp[go_sem, *]) ?_
 walk_nrm
 refine c_region_end (n:=0) (J:=fun _ a=>Co Try.prog Z 0 ((g.set 0 k false).fx Try.prog κL 0) a v) hJ2 ?_
 refine c_seq (n:=0) (J:=fun _ a=>Co Try.prog Z 0 ((g.set 0 k false).fx Try.prog κL 0) a v) hJ2 ?_
 refine c_region (n:=0) (J:=fun _ a=>Co Try.prog Z 0 ((g.set 0 k false).fx Try.prog κL 0) a v) hJ2 [0,1,2,3] rfl ?_
 refine c_value (n:=0) (J:=fun _ a=>Co Try.prog Z 0 ((g.set 0 k false).fx Try.prog κL 0) a v) hJ2 (.int .u64 x) rfl rfl (by decide) (fun _=>by go_simp;try (first|decide|assumption|omega|(simp only[*];done)|simp[*])) (fun _=>by simp[go_sem, *]) ?_
 walk_nrm
 refine c_value (n:=0) (J:=fun _ a=>Co Try.prog Z 0 ((g.set 0 k false).fx Try.prog κL 0) a v) hJ2 (.int .u64 (k:Int)) rfl rfl (by decide) (fun _=>by go_simp;try (first|decide|assumption|omega|(simp only[*];done)|simp[*])) (fun _=>by simp[go_sem, *]) ?_
 walk_nrm
 refine c_value (n:=0) (J:=fun _ a=>Co Try.prog Z 0 ((g.set 0 k false).fx Try.prog κL 0) a v) hJ2 (.int .i32 (k:Int)) rfl rfl (by decide) (fun _=>by go_simp;try (first|decide|assumption|omega|(simp only[*];done)|simp[*])) (fun _=>by simp[go_sem, *]) ?_
 walk_nrm
 refine c_value (n:=0) (J:=fun _ a=>Co Try.prog Z 0 ((g.set 0 k false).fx Try.prog κL 0) a v) hJ2 (.int .i32 (k:Int)) rfl rfl (by decide) (fun _=>by go_simp;try (first|decide|assumption|omega|(simp only[*];done)|simp[*])) (fun _=>by simp[go_sem, *]) ?_
 walk_nrm
 refine c_region_end (n:=0) (J:=fun _ a=>Co Try.prog Z 0 ((g.set 0 k false).fx Try.prog κL 0) a v) hJ2 ?_
 refine c_seq (n:=0) (J:=fun _ a=>Co Try.prog Z 0 ((g.set 0 k false).fx Try.prog κL 0) a v) hJ2 ?_
 refine c_region (n:=0) (J:=fun _ a=>Co Try.prog Z 0 ((g.set 0 k false).fx Try.prog κL 0) a v) hJ2 [0,1,2,3] rfl ?_
 refine c_value (n:=0) (J:=fun _ a=>Co Try.prog Z 0 ((g.set 0 k false).fx Try.prog κL 0) a v) hJ2 (.int .u64 x) rfl rfl (by decide) (fun _=>by go_simp;try (first|decide|assumption|omega|(simp only[*];done)|simp[*])) (fun _=>by simp[go_sem, *]) ?_
 walk_nrm
 refine c_value (n:=0) (J:=fun _ a=>Co Try.prog Z 0 ((g.set 0 k false).fx Try.prog κL 0) a v) hJ2 (.int .u64 0) rfl rfl (by decide) (fun _=>by go_simp;try (first|decide|assumption|omega|(simp only[*];done)|simp[*])) (fun _=>by simp[go_sem, *]) ?_
 walk_nrm
 refine c_value (n:=0) (J:=fun _ a=>Co Try.prog Z 0 ((g.set 0 k false).fx Try.prog κL 0) a v) hJ2 (.int .u32 0) rfl rfl (by decide) (fun _=>by go_simp;try (first|decide|assumption|omega|(simp only[*];done)|simp[*])) (fun _=>by simp[go_sem, *]) ?_
 walk_nrm
 refine c_value (n:=0) (J:=fun _ a=>Co Try.prog Z 0 ((g.set 0 k false).fx Try.prog κL 0) a v) hJ2 (.int .u32 0) rfl rfl (by decide) (fun _=>by go_simp;try (first|decide|assumption|omega|(simp only[*];done)|simp[*])) (fun _=>by simp[go_sem, *]) ?_
 walk_nrm
 refine c_region_end (n:=0) (J:=fun _ a=>Co Try.prog Z 0 ((g.set 0 k false).fx Try.prog κL 0) a v) hJ2 ?_
 refine c_seq (n:=0) (J:=fun _ a=>Co Try.prog Z 0 ((g.set 0 k false).fx Try.prog κL 0) a v) hJ2 ?_
 refine c_seq (n:=0) (J:=fun _ a=>Co Try.prog Z 0 ((g.set 0 k false).fx Try.prog κL 0) a v) hJ2 ?_
 refine c_region (n:=0) (J:=fun _ a=>Co Try.prog Z 0 ((g.set 0 k false).fx Try.prog κL 0) a v) hJ2 [0,1] rfl ?_
 refine c_value (n:=0) (J:=fun _ a=>Co Try.prog Z 0 ((g.set 0 k false).fx Try.prog κL 0) a v) hJ2 (.int .i32 (k:Int)) rfl rfl (by decide) (fun _=>by go_simp;try (first|decide|assumption|omega|(simp only[*];done)|simp[*])) (fun _=>by simp[go_sem, *]) ?_
 walk_nrm
 rcases Nat.eq_zero_or_pos k with hk0|hk0
 ·subst hk0
  have hge:(g.set 0 0 true).Ok 0:=hg.set _ _ _ (by have:=hg.few;omega)
  refine c_value (n:=0) (J:=fun _ a=>Co Try.prog Z 0 ((g.set 0 0 false).fx Try.prog κL 0) a v) hJ2 (.bool true) rfl rfl (by decide) (fun _=>by go_simp;try (first|decide|assumption|omega|(simp only[*];done)|simp[*])) (fun _=>by simp[go_sem, *]) ?_
  walk_nrm
  refine c_region_end (n:=0) (J:=fun _ a=>Co Try.prog Z 0 ((g.set 0 0 false).fx Try.prog κL 0) a v) hJ2 ?_
  refine c_cond (n:=0) (J:=fun _ a=>Co Try.prog Z 0 ((g.set 0 0 false).fx Try.prog κL 0) a v) hJ2 true (by first|rfl|(simp[Act.eval, *])) ?_
  simp only[↓reduceIte]
  refine c_seq (n:=0) (J:=fun _ a=>Co Try.prog Z 0 ((g.set 0 0 false).fx Try.prog κL 0) a v) hJ2 ?_
  refine c_cond (n:=0) (J:=fun _ a=>Co Try.prog Z 0 ((g.set 0 0 false).fx Try.prog κL 0) a v) hJ2 true (by first|rfl|(simp[Act.eval, *])) ?_
  simp only[↓reduceIte]
  refine c_seq (n:=0) (J:=fun _ a=>Co Try.prog Z 0 ((g.set 0 0 false).fx Try.prog κL 0) a v) hJ2 ?_
  refine c_region (n:=0) (J:=fun _ a=>Co Try.prog Z 0 ((g.set 0 0 false).fx Try.prog κL 0) a v) hJ2 [0] rfl ?_
  refine co_ear (e:=true) hZ κL_ok hgz hm0 hon rfl rfl (fun _=>stepG_mark0 .enable (by simp) rfl rfl (by decide) rfl Try.func53 (by kernel_rfl) (by kernel_rfl) (by kernel_rfl) (by kernel_rfl)) ?_
  walk_nrm
  have hJe:=Co.calmly (v:=v) hZ (hge.fx κL_ok)
  refine c_region_end (n:=0) (J:=fun _ a=>Co Try.prog Z 0 ((g.set 0 0 true).fx Try.prog κL 0) a v) hJe ?_
  refine c_region (n:=0) (J:=fun _ a=>Co Try.prog Z 0 ((g.set 0 0 true).fx Try.prog κL 0) a v) hJe [0,1,2] rfl ?_
  refine c_value (n:=0) (J:=fun _ a=>Co Try.prog Z 0 ((g.set 0 0 true).fx Try.prog κL 0) a v) hJe (.pointer (some ⟨g.s,5,none⟩)) rfl rfl (by decide) (fun _=>by go_simp;try (first|decide|assumption|omega|(simp only[*];done)|simp[*])) (fun _=>by simp[go_sem, *]) ?_
  walk_nrm
  refine co_conv hZ hge hon (.inl rfl) Try.underlying116 (by kernel_rfl) rfl rfl (by decide) rfl rfl ?_
  walk_nrm
  refine co_acquire hZ κL_ok ha rfl (fun _=>stepG_markAt .acquire (by simp) rfl rfl (by decide) rfl Try.func54 (by kernel_rfl) (by kernel_rfl) (by kernel_rfl) (by kernel_rfl) (by first|(simp[Act.eval,c5];done)|(simp[Act.eval,c5];rfl))) ?_
  walk_nrm
  have hJw:=Co.calmly (v:=v) hZ ((Gh.Ok.away g).fx κL_ok)
  refine c_region_end (n:=0) (J:=fun _ a=>Co Try.prog Z 0 (g.away.fx Try.prog κL 0) a v) hJw ?_
  refine c_seq (n:=0) (J:=fun _ a=>Co Try.prog Z 0 (g.away.fx Try.prog κL 0) a v) hJw ?_
  refine c_seq (n:=0) (J:=fun _ a=>Co Try.prog Z 0 (g.away.fx Try.prog κL 0) a v) hJw ?_
  refine c_region (n:=0) (J:=fun _ a=>Co Try.prog Z 0 (g.away.fx Try.prog κL 0) a v) hJw [0,1,2,3,4,5,6,7,8,9,10] rfl ?_
  refine c_value (n:=0) (J:=fun _ a=>Co Try.prog Z 0 (g.away.fx Try.prog κL 0) a v) hJw (.int .u32 0) rfl rfl (by decide) (fun _=>by go_simp;try (first|decide|assumption|omega|(simp only[*];done)|simp[*])) (fun _=>by simp[go_sem, *]) ?_
  walk_nrm
  refine c_value (n:=0) (J:=fun _ a=>Co Try.prog Z 0 (g.away.fx Try.prog κL 0) a v) hJw (.bool true) rfl rfl (by decide) (fun _=>by go_simp;try (first|decide|assumption|omega|(simp only[*];done)|simp[*])) (fun _=>by simp[go_sem, *]) ?_
  walk_nrm
  refine c_value (n:=0) (J:=fun _ a=>Co Try.prog Z 0 (g.away.fx Try.prog κL 0) a v) hJw (.bool true) rfl rfl (by decide) (fun _=>by go_simp;try (first|decide|assumption|omega|(simp only[*];done)|simp[*])) (fun _=>by simp[go_sem, *]) ?_
  walk_nrm
  refine c_value (n:=0) (J:=fun _ a=>Co Try.prog Z 0 (g.away.fx Try.prog κL 0) a v) hJw (.int .u64 x) rfl rfl (by decide) (fun _=>by go_simp;try (first|decide|assumption|omega|(simp only[*];done)|simp[*])) (fun _=>by simp[go_sem, *]) ?_
  walk_nrm
  refine c_value (n:=0) (J:=fun _ a=>Co Try.prog Z 0 (g.away.fx Try.prog κL 0) a v) hJw (.int .u64 0) rfl rfl (by decide) (fun _=>by go_simp;try (first|decide|assumption|omega|(simp only[*];done)|simp[*])) (fun _=>by simp[go_sem, *]) ?_
  walk_nrm
  refine c_value (n:=0) (J:=fun _ a=>Co Try.prog Z 0 (g.away.fx Try.prog κL 0) a v) hJw (.bool false) rfl rfl (by decide) (fun _=>by go_simp;try (first|decide|assumption|omega|(simp only[*];done)|simp[*])) (fun _=>by simp[go_sem, *]) ?_
  walk_nrm
  refine c_value (n:=0) (J:=fun _ a=>Co Try.prog Z 0 (g.away.fx Try.prog κL 0) a v) hJw (.bool false) rfl rfl (by decide) (fun _=>by go_simp;try (first|decide|assumption|omega|(simp only[*];done)|simp[*])) (fun _=>by simp[go_sem, *]) ?_
  walk_nrm
  refine c_value (n:=0) (J:=fun _ a=>Co Try.prog Z 0 (g.away.fx Try.prog κL 0) a v) hJw (.bool false) rfl rfl (by decide) (fun _=>by go_simp;try (first|decide|assumption|omega|(simp only[*];done)|simp[*])) (fun _=>by simp[go_sem, *]) ?_
  walk_nrm
  refine c_unwanted (n:=0) (J:=fun _ a=>Co Try.prog Z 0 (g.away.fx Try.prog κL 0) a v) hJw rfl rfl ?_
  walk_nrm
  refine c_unwanted (n:=0) (J:=fun _ a=>Co Try.prog Z 0 (g.away.fx Try.prog κL 0) a v) hJw rfl rfl ?_
  walk_nrm
  refine c_value (n:=0) (J:=fun _ a=>Co Try.prog Z 0 (g.away.fx Try.prog κL 0) a v) hJw (.bool false) rfl rfl (by decide) (fun _=>by go_simp;try (first|decide|assumption|omega|(simp only[*];done)|simp[*])) (fun _=>by simp[go_sem, *]) ?_
  walk_nrm
  refine c_region_end (n:=0) (J:=fun _ a=>Co Try.prog Z 0 (g.away.fx Try.prog κL 0) a v) hJw ?_
  refine c_cond (n:=0) (J:=fun _ a=>Co Try.prog Z 0 (g.away.fx Try.prog κL 0) a v) hJw false (by first|rfl|(simp[Act.eval, *])) ?_
  simp only[Bool.false_eq_true,↓reduceIte]
  refine c_skip (n:=0) (J:=fun _ a=>Co Try.prog Z 0 (g.away.fx Try.prog κL 0) a v) hJw ?_
  refine c_ret (n:=0) (J:=fun _ a=>Co Try.prog Z 0 (g.away.fx Try.prog κL 0) a v) hJw ?_
  refine c_leave0 (n:=0) (J:=fun _ a=>Co Try.prog Z 0 (g.away.fx Try.prog κL 0) a v) hJw rfl rfl Try.func34 rfl ?_
  walk_nrm
  exact hT
 ·have hq2:¬((k:Int)=0):=by omega
  refine c_value (n:=0) (J:=fun _ a=>Co Try.prog Z 0 ((g.set 0 k false).fx Try.prog κL 0) a v) hJ2 (.bool false) rfl rfl (by decide) (fun _=>by go_simp;try (first|decide|assumption|omega|(simp only[*];done)|simp[*])) (fun _=>by simp[go_sem, *]) ?_
  walk_nrm
  refine c_region_end (n:=0) (J:=fun _ a=>Co Try.prog Z 0 ((g.set 0 k false).fx Try.prog κL 0) a v) hJ2 ?_
  refine c_cond (n:=0) (J:=fun _ a=>Co Try.prog Z 0 ((g.set 0 k false).fx Try.prog κL 0) a v) hJ2 false (by first|rfl|(simp[Act.eval, *])) ?_
  simp only[Bool.false_eq_true,↓reduceIte]
  refine c_skip (n:=0) (J:=fun _ a=>Co Try.prog Z 0 ((g.set 0 k false).fx Try.prog κL 0) a v) hJ2 ?_
  refine c_seq (n:=0) (J:=fun _ a=>Co Try.prog Z 0 ((g.set 0 k false).fx Try.prog κL 0) a v) hJ2 ?_
  refine c_region (n:=0) (J:=fun _ a=>Co Try.prog Z 0 ((g.set 0 k false).fx Try.prog κL 0) a v) hJ2 [0,1,2,3,4,5,6] rfl ?_
  refine c_value (n:=0) (J:=fun _ a=>Co Try.prog Z 0 ((g.set 0 k false).fx Try.prog κL 0) a v) hJ2 (.pointer (some ⟨g.s,5,none⟩)) rfl rfl (by decide) (fun _=>by go_simp;try (first|decide|assumption|omega|(simp only[*];done)|simp[*])) (fun _=>by simp[go_sem, *]) ?_
  walk_nrm
  refine c_value (n:=0) (J:=fun _ a=>Co Try.prog Z 0 ((g.set 0 k false).fx Try.prog κL 0) a v) hJ2 (.pointer (some ⟨g.s,5,none⟩)) rfl rfl (by decide) (fun _=>by go_simp;try (first|decide|assumption|omega|(simp only[*];done)|simp[*])) (fun _=>by simp[go_sem, *]) ?_
  walk_nrm
  refine c_value (n:=0) (J:=fun _ a=>Co Try.prog Z 0 ((g.set 0 k false).fx Try.prog κL 0) a v) hJ2 (.pointer (some ⟨g.s,5,none⟩)) rfl rfl (by decide) (fun _=>by go_simp;try (first|decide|assumption|omega|(simp only[*];done)|simp[*])) (fun _=>by simp[go_sem, *]) ?_
  walk_nrm
  refine c_value (n:=0) (J:=fun _ a=>Co Try.prog Z 0 ((g.set 0 k false).fx Try.prog κL 0) a v) hJ2 (.int .u64 x) rfl rfl (by decide) (fun _=>by go_simp;try (first|decide|assumption|omega|(simp only[*];done)|simp[*])) (fun _=>by simp[go_sem, *]) ?_
  walk_nrm
  refine c_value (n:=0) (J:=fun _ a=>Co Try.prog Z 0 ((g.set 0 k false).fx Try.prog κL 0) a v) hJ2 (.int .u64 x) rfl rfl (by decide) (fun _=>by go_simp;try (first|decide|assumption|omega|(simp only[*];done)|simp[*])) (fun _=>by simp[go_sem, *]) ?_
  walk_nrm
  refine c_value (n:=0) (J:=fun _ a=>Co Try.prog Z 0 ((g.set 0 k false).fx Try.prog κL 0) a v) hJ2 (.int .u64 (x+1)) rfl rfl (by decide) (fun _=>by go_simp;try (first|decide|assumption|omega|(simp only[*];done)|simp[*])) (fun _=>by simp[go_sem, *]) ?_
  walk_nrm
  refine c_call (n:=0) (J:=fun _ a=>Co Try.prog Z 0 ((g.set 0 k false).fx Try.prog κL 0) a v) hJ2 rfl rfl (by decide) rfl Try.func56 (by kernel_rfl) rfl ?_
  simp only[Try.f56]
  walk_nrm
  refine c_seq (n:=0) (J:=fun _ a=>Co Try.prog Z 0 ((g.set 0 k false).fx Try.prog κL 0) a v) hJ2 ?_
  refine c_region (n:=0) (J:=fun _ a=>Co Try.prog Z 0 ((g.set 0 k false).fx Try.prog κL 0) a v) hJ2 [0] rfl ?_
  refine c_value (n:=0) (J:=fun _ a=>Co Try.prog Z 0 ((g.set 0 k false).fx Try.prog κL 0) a v) hJ2 (.bool false) rfl rfl (by decide) (fun _=>by go_simp;try (first|decide|assumption|omega|(simp only[*];done)|simp[*])) (fun _=>by simp[go_sem, *]) ?_
  walk_nrm
  refine c_region_end (n:=0) (J:=fun _ a=>Co Try.prog Z 0 ((g.set 0 k false).fx Try.prog κL 0) a v) hJ2 ?_
  refine c_seq (n:=0) (J:=fun _ a=>Co Try.prog Z 0 ((g.set 0 k false).fx Try.prog κL 0) a v) hJ2 ?_
  refine c_region (n:=0) (J:=fun _ a=>Co Try.prog Z 0 ((g.set 0 k false).fx Try.prog κL 0) a v) hJ2 [0,1,2,3,4,5,6] rfl ?_
  refine c_value (n:=0) (J:=fun _ a=>Co Try.prog Z 0 ((g.set 0 k false).fx Try.prog κL 0) a v) hJ2 (.pointer (some ⟨g.s,5,none⟩)) rfl rfl (by decide) (fun _=>by go_simp;try (first|decide|assumption|omega|(simp only[*];done)|simp[*])) (fun _=>by simp[go_sem, *]) ?_
  walk_nrm
  refine c_value (n:=0) (J:=fun _ a=>Co Try.prog Z 0 ((g.set 0 k false).fx Try.prog κL 0) a v) hJ2 (.pointer (some ⟨g.s,5,none⟩)) rfl rfl (by decide) (fun _=>by go_simp;try (first|decide|assumption|omega|(simp only[*];done)|simp[*])) (fun _=>by simp[go_sem, *]) ?_
  walk_nrm
  refine c_value (n:=0) (J:=fun _ a=>Co Try.prog Z 0 ((g.set 0 k false).fx Try.prog κL 0) a v) hJ2 (.pointer (some ⟨g.s,5,none⟩)) rfl rfl (by decide) (fun _=>by go_simp;try (first|decide|assumption|omega|(simp only[*];done)|simp[*])) (fun _=>by simp[go_sem, *]) ?_
  walk_nrm
  refine c_value (n:=0) (J:=fun _ a=>Co Try.prog Z 0 ((g.set 0 k false).fx Try.prog κL 0) a v) hJ2 (.int .u64 x) rfl rfl (by decide) (fun _=>by go_simp;try (first|decide|assumption|omega|(simp only[*];done)|simp[*])) (fun _=>by simp[go_sem, *]) ?_
  walk_nrm
  refine c_value (n:=0) (J:=fun _ a=>Co Try.prog Z 0 ((g.set 0 k false).fx Try.prog κL 0) a v) hJ2 (.int .u64 (x+1)) rfl rfl (by decide) (fun _=>by go_simp;try (first|decide|assumption|omega|(simp only[*];done)|simp[*])) (fun _=>by simp[go_sem, *]) ?_
  walk_nrm
  refine co_cas hZ κL_ok hak rfl (fun w k2 hk2 hc hz=> ?_)
  replace hk2:k2≤k:=hk2
  by_cases hkk:k2=k
  ·obtain rfl:=hkk.symm
   have hcx:(k:Int)*KK=x:=by rw[←hx];simp
   rw[hcx] at hc⊢
   refine .inl ⟨_,_,hk0,stepG_cas_hit rfl rfl (by decide) rfl Try.func70 (by kernel_rfl) (by kernel_rfl) (by kernel_rfl) .u64 (by kernel_rfl) rfl rfl rfl hc hz, ?_, ?_⟩
   ·intro e he;simp only[List.mem_toArray,List.mem_cons,List.not_mem_nil,or_false] at he;rcases he with rfl|rfl<;>exact⟨5,_,.inl rfl,rfl⟩
   clear hc hz hcx
   have hJ3:=Co.calmly (v:=v) hZ (hak.fx2 κL_ok)
   walk_nrm
   refine c_value (n:=0) (J:=fun _ a=>Co Try.prog Z 0 ((g.set 0 k false).fx2 Try.prog κL) a v) hJ3 (.bool true) rfl rfl (by decide) (fun _=>by go_simp;try (first|decide|assumption|omega|(simp only[*];done)|simp[*])) (fun _=>by simp[go_sem, *]) ?_
   walk_nrm
   refine c_region_end (n:=0) (J:=fun _ a=>Co Try.prog Z 0 ((g.set 0 k false).fx2 Try.prog κL) a v) hJ3 ?_
   refine c_ret (n:=0) (J:=fun _ a=>Co Try.prog Z 0 ((g.set 0 k false).fx2 Try.prog κL) a v) hJ3 ?_
   refine c_leave1 (n:=0) (J:=fun _ a=>Co Try.prog Z 0 ((g.set 0 k false).fx2 Try.prog κL) a v) hJ3 rfl rfl Try.func56 rfl ?_
   walk_nrm
   refine c_region_end (n:=0) (J:=fun _ a=>Co Try.prog Z 0 ((g.set 0 k false).fx2 Try.prog κL) a v) hJ3 ?_
   refine c_cond (n:=0) (J:=fun _ a=>Co Try.prog Z 0 ((g.set 0 k false).fx2 Try.prog κL) a v) hJ3 true (by first|rfl|(simp[Act.eval, *])) ?_
   simp only[↓reduceIte]
   refine c_seq (n:=0) (J:=fun _ a=>Co Try.prog Z 0 ((g.set 0 k false).fx2 Try.prog κL) a v) hJ3 ?_
   refine c_seq (n:=0) (J:=fun _ a=>Co Try.prog Z 0 ((g.set 0 k false).fx2 Try.prog κL) a v) hJ3 ?_
   refine c_region (n:=0) (J:=fun _ a=>Co Try.prog Z 0 ((g.set 0 k false).fx2 Try.prog κL) a v) hJ3 [0,1,2,3] rfl ?_
   refine c_value (n:=0) (J:=fun _ a=>Co Try.prog Z 0 ((g.set 0 k false).fx2 Try.prog κL) a v) hJ3 (.bool true) rfl rfl (by decide) (fun _=>by go_simp;try (first|decide|assumption|omega|(simp only[*];done)|simp[*])) (fun _=>by simp[go_sem, *]) ?_
   walk_nrm
   refine c_value (n:=0) (J:=fun _ a=>Co Try.prog Z 0 ((g.set 0 k false).fx2 Try.prog κL) a v) hJ3 (.int .u32 0) rfl rfl (by decide) (fun _=>by go_simp;try (first|decide|assumption|omega|(simp only[*];done)|simp[*])) (fun _=>by simp[go_sem, *]) ?_
   walk_nrm
   refine c_value (n:=0) (J:=fun _ a=>Co Try.prog Z 0 ((g.set 0 k false).fx2 Try.prog κL) a v) hJ3 (.bool true) rfl rfl (by decide) (fun _=>by go_simp;try (first|decide|assumption|omega|(simp only[*];done)|simp[*])) (fun _=>by simp[go_sem, *]) ?_
   walk_nrm
   refine c_value (n:=0) (J:=fun _ a=>Co Try.prog Z 0 ((g.set 0 k false).fx2 Try.prog κL) a v) hJ3 (.bool true) rfl rfl (by decide) (fun _=>by go_simp;try (first|decide|assumption|omega|(simp only[*];done)|simp[*])) (fun _=>by simp[go_sem, *]) ?_
   walk_nrm
   refine c_region_end (n:=0) (J:=fun _ a=>Co Try.prog Z 0 ((g.set 0 k false).fx2 Try.prog κL) a v) hJ3 ?_
   refine c_cond (n:=0) (J:=fun _ a=>Co Try.prog Z 0 ((g.set 0 k false).fx2 Try.prog κL) a v) hJ3 true (by first|rfl|(simp[Act.eval, *])) ?_
   simp only[↓reduceIte]
   refine c_region (n:=0) (J:=fun _ a=>Co Try.prog Z 0 ((g.set 0 k false).fx2 Try.prog κL) a v) hJ3 [0,1,2,3,4] rfl ?_
   refine c_value (n:=0) (J:=fun _ a=>Co Try.prog Z 0 ((g.set 0 k false).fx2 Try.prog κL) a v) hJ3 (.pointer (some ⟨g.s,5,none⟩)) rfl rfl (by decide) (fun _=>by go_simp;try (first|decide|assumption|omega|(simp only[*];done)|simp[*])) (fun _=>by simp[go_sem, *]) ?_
   walk_nrm
   refine c_value (n:=0) (J:=fun _ a=>Co Try.prog Z 0 ((g.set 0 k false).fx2 Try.prog κL) a v) hJ3 (.pointer (some ⟨g.s,5,none⟩)) rfl rfl (by decide) (fun _=>by go_simp;try (first|decide|assumption|omega|(simp only[*];done)|simp[*])) (fun _=>by simp[go_sem, *]) ?_
   walk_nrm
   refine c_value (n:=0) (J:=fun _ a=>Co Try.prog Z 0 ((g.set 0 k false).fx2 Try.prog κL) a v) hJ3 (.pointer (some ⟨g.s,6,none⟩)) rfl rfl (by decide) (fun _=>by go_simp;try (first|decide|assumption|omega|(simp only[*];done)|simp[*])) (fun _=>by simp[go_sem, *]) ?_
   walk_nrm
   refine co_conv2 hZ hak Try.underlying124 (by kernel_rfl) rfl rfl (by decide) rfl rfl ?_
   walk_nrm
   refine co_say hZ κL_ok hak rfl (fun w=>⟨_, ?_,stepG_markAt .write (by simp) rfl rfl (by decide) rfl Try.func58 (by kernel_rfl) (by kernel_rfl) (by kernel_rfl) (by kernel_rfl) (by simp[Act.eval];rfl)⟩) ?_
   ·intro e he;simp only[List.mem_toArray,List.mem_cons,List.not_mem_nil,or_false] at he;subst he;exact⟨6,.inr rfl,.inr (.inr rfl)⟩
   walk_nrm
   refine c_region_end (n:=0) (J:=fun _ a=>Co Try.prog Z 0 ((g.set 0 k false).fx2 Try.prog κL) a v) hJ3 ?_
   refine c_seq (n:=0) (J:=fun _ a=>Co Try.prog Z 0 ((g.set 0 k false).fx2 Try.prog κL) a v) hJ3 ?_
   refine c_region (n:=0) (J:=fun _ a=>Co Try.prog Z 0 ((g.set 0 k false).fx2 Try.prog κL) a v) hJ3 [0] rfl ?_
   refine c_value (n:=0) (J:=fun _ a=>Co Try.prog Z 0 ((g.set 0 k false).fx2 Try.prog κL) a v) hJ3 (.bool false) rfl rfl (by decide) (fun _=>by go_simp;try (first|decide|assumption|omega|(simp only[*];done)|simp[*])) (fun _=>by simp[go_sem, *]) ?_
   walk_nrm
   refine c_region_end (n:=0) (J:=fun _ a=>Co Try.prog Z 0 ((g.set 0 k false).fx2 Try.prog κL) a v) hJ3 ?_
   refine c_seq (n:=0) (J:=fun _ a=>Co Try.prog Z 0 ((g.set 0 k false).fx2 Try.prog κL) a v) hJ3 ?_
   refine c_seq (n:=0) (J:=fun _ a=>Co Try.prog Z 0 ((g.set 0 k false).fx2 Try.prog κL) a v) hJ3 ?_
   refine c_region (n:=0) (J:=fun _ a=>Co Try.prog Z 0 ((g.set 0 k false).fx2 Try.prog κL) a v) hJ3 [0,1,2,3,4,5] rfl ?_
   refine c_value (n:=0) (J:=fun _ a=>Co Try.prog Z 0 ((g.set 0 k false).fx2 Try.prog κL) a v) hJ3 (.int .u64 x) rfl rfl (by decide) (fun _=>by go_simp;try (first|decide|assumption|omega|(simp only[*];done)|simp[*])) (fun _=>by simp[go_sem, *]) ?_
   walk_nrm
   refine c_value (n:=0) (J:=fun _ a=>Co Try.prog Z 0 ((g.set 0 k false).fx2 Try.prog κL) a v) hJ3 (.int .u64 0) rfl rfl (by decide) (fun _=>by go_simp;try (first|decide|assumption|omega|(simp only[*];done)|simp[*])) (fun _=>by simp[go_sem, *]) ?_
   walk_nrm
   refine c_value (n:=0) (J:=fun _ a=>Co Try.prog Z 0 ((g.set 0 k false).fx2 Try.prog κL) a v) hJ3 (.bool false) rfl rfl (by decide) (fun _=>by go_simp;try (first|decide|assumption|omega|(simp only[*];done)|simp[*])) (fun _=>by simp[go_sem, *]) ?_
   walk_nrm
   refine c_value (n:=0) (J:=fun _ a=>Co Try.prog Z 0 ((g.set 0 k false).fx2 Try.prog κL) a v) hJ3 (.bool false) rfl rfl (by decide) (fun _=>by go_simp;try (first|decide|assumption|omega|(simp only[*];done)|simp[*])) (fun _=>by simp[go_sem, *]) ?_
   walk_nrm
   refine c_unwanted (n:=0) (J:=fun _ a=>Co Try.prog Z 0 ((g.set 0 k false).fx2 Try.prog κL) a v) hJ3 rfl rfl ?_
   walk_nrm
   refine c_value (n:=0) (J:=fun _ a=>Co Try.prog Z 0 ((g.set 0 k false).fx2 Try.prog κL) a v) hJ3 (.bool false) rfl rfl (by decide) (fun _=>by go_simp;try (first|decide|assumption|omega|(simp only[*];done)|simp[*])) (fun _=>by simp[go_sem, *]) ?_
   walk_nrm
   refine c_region_end (n:=0) (J:=fun _ a=>Co Try.prog Z 0 ((g.set 0 k false).fx2 Try.prog κL) a v) hJ3 ?_
   refine c_cond (n:=0) (J:=fun _ a=>Co Try.prog Z 0 ((g.set 0 k false).fx2 Try.prog κL) a v) hJ3 false (by first|rfl|(simp[Act.eval, *])) ?_
   simp only[Bool.false_eq_true,↓reduceIte]
   refine c_skip (n:=0) (J:=fun _ a=>Co Try.prog Z 0 ((g.set 0 k false).fx2 Try.prog κL) a v) hJ3 ?_
   refine c_seq (n:=0) (J:=fun _ a=>Co Try.prog Z 0 ((g.set 0 k false).fx2 Try.prog κL) a v) hJ3 ?_
   refine c_region (n:=0) (J:=fun _ a=>Co Try.prog Z 0 ((g.set 0 k false).fx2 Try.prog κL) a v) hJ3 [0,1,2,3,4] rfl ?_
   refine c_value (n:=0) (J:=fun _ a=>Co Try.prog Z 0 ((g.set 0 k false).fx2 Try.prog κL) a v) hJ3 (.pointer (some ⟨g.s,5,none⟩)) rfl rfl (by decide) (fun _=>by go_simp;try (first|decide|assumption|omega|(simp only[*];done)|simp[*])) (fun _=>by simp[go_sem, *]) ?_
   walk_nrm
   refine c_value (n:=0) (J:=fun _ a=>Co Try.prog Z 0 ((g.set 0 k false).fx2 Try.prog κL) a v) hJ3 (.pointer (some ⟨g.s,5,none⟩)) rfl rfl (by decide) (fun _=>by go_simp;try (first|decide|assumption|omega|(simp only[*];done)|simp[*])) (fun _=>by simp[go_sem, *]) ?_
   walk_nrm
   refine c_value (n:=0) (J:=fun _ a=>Co Try.prog Z 0 ((g.set 0 k false).fx2 Try.prog κL) a v) hJ3 (.pointer (some ⟨g.s,6,none⟩)) rfl rfl (by decide) (fun _=>by go_simp;try (first|decide|assumption|omega|(simp only[*];done)|simp[*])) (fun _=>by simp[go_sem, *]) ?_
   walk_nrm
   refine c_value (n:=0) (J:=fun _ a=>Co Try.prog Z 0 ((g.set 0 k false).fx2 Try.prog κL) a v) hJ3 (.bool false) rfl rfl (by decide) (fun _=>by go_simp;try (first|decide|assumption|omega|(simp only[*];done)|simp[*])) (fun _=>by simp[go_sem, *]) ?_
   walk_nrm
   refine co_sema hZ κL_ok hak rfl rfl (fun w hc=>stepG_semacquire_wait rfl rfl rfl Try.func60 (by kernel_rfl) (by kernel_rfl) (by kernel_rfl) (by kernel_rfl) (by simp[Act.eval];rfl) hc) (fun w hc hz=>(stepG_semacquire rfl rfl (by decide) rfl Try.func60 (by kernel_rfl) (by kernel_rfl) (by kernel_rfl) (by kernel_rfl) (by simp[Act.eval];rfl) hc (by decide) hz).trans (by rfl)) ?_
   have hgz:(g.set 0 0 false).Ok 0:=hg.set _ _ _ (by have:=hg.few;omega)
   have hge:(g.set 0 0 true).Ok 0:=hg.set _ _ _ (by have:=hg.few;omega)
   have hJ4:=Co.calmly (v:=v) hZ (hgz.fx κL_ok)
   walk_nrm
   refine c_region_end (n:=0) (J:=fun _ a=>Co Try.prog Z 0 ((g.set 0 0 false).fx Try.prog κL 0) a v) hJ4 ?_
   refine c_seq (n:=0) (J:=fun _ a=>Co Try.prog Z 0 ((g.set 0 0 false).fx Try.prog κL 0) a v) hJ4 ?_
   refine c_region (n:=0) (J:=fun _ a=>Co Try.prog Z 0 ((g.set 0 0 false).fx Try.prog κL 0) a v) hJ4 [0,1,2,3,4,5] rfl ?_
   refine c_value (n:=0) (J:=fun _ a=>Co Try.prog Z 0 ((g.set 0 0 false).fx Try.prog κL 0) a v) hJ4 (.pointer (some ⟨g.s,5,none⟩)) rfl rfl (by decide) (fun _=>by go_simp;try (first|decide|assumption|omega|(simp only[*];done)|simp[*])) (fun _=>by simp[go_sem, *]) ?_
   walk_nrm
   refine c_value (n:=0) (J:=fun _ a=>Co Try.prog Z 0 ((g.set 0 0 false).fx Try.prog κL 0) a v) hJ4 (.pointer (some ⟨g.s,5,none⟩)) rfl rfl (by decide) (fun _=>by go_simp;try (first|decide|assumption|omega|(simp only[*];done)|simp[*])) (fun _=>by simp[go_sem, *]) ?_
   walk_nrm
   refine c_value (n:=0) (J:=fun _ a=>Co Try.prog Z 0 ((g.set 0 0 false).fx Try.prog κL 0) a v) hJ4 (.pointer (some ⟨g.s,5,none⟩)) rfl rfl (by decide) (fun _=>by go_simp;try (first|decide|assumption|omega|(simp only[*];done)|simp[*])) (fun _=>by simp[go_sem, *]) ?_
   walk_nrm
   refine c_call (n:=0) (J:=fun _ a=>Co Try.prog Z 0 ((g.set 0 0 false).fx Try.prog κL 0) a v) hJ4 rfl rfl (by decide) rfl Try.func52 (by kernel_rfl) rfl ?_
   simp only[Try.f52]
   walk_nrm
   refine c_seq (n:=0) (J:=fun _ a=>Co Try.prog Z 0 ((g.set 0 0 false).fx Try.prog κL 0) a v) hJ4 ?_
   refine c_region (n:=0) (J:=fun _ a=>Co Try.prog Z 0 ((g.set 0 0 false).fx Try.prog κL 0) a v) hJ4 [0] rfl ?_
   refine c_value (n:=0) (J:=fun _ a=>Co Try.prog Z 0 ((g.set 0 0 false).fx Try.prog κL 0) a v) hJ4 (.int .u64 0) rfl rfl (by decide) (fun _=>by go_simp;try (first|decide|assumption|omega|(simp only[*];done)|simp[*])) (fun _=>by simp[go_sem, *]) ?_
   walk_nrm
   refine c_region_end (n:=0) (J:=fun _ a=>Co Try.prog Z 0 ((g.set 0 0 false).fx Try.prog κL 0) a v) hJ4 ?_
   refine c_seq (n:=0) (J:=fun _ a=>Co Try.prog Z 0 ((g.set 0 0 false).fx Try.prog κL 0) a v) hJ4 ?_
   refine c_region (n:=0) (J:=fun _ a=>Co Try.prog Z 0 ((g.set 0 0 false).fx Try.prog κL 0) a v) hJ4 [0,1,2,3,4] rfl ?_
   refine c_value (n:=0) (J:=fun _ a=>Co Try.prog Z 0 ((g.set 0 0 false).fx Try.prog κL 0) a v) hJ4 (.pointer (some ⟨g.s,5,none⟩)) rfl rfl (by decide) (fun _=>by go_simp;try (first|decide|assumption|omega|(simp only[*];done)|simp[*])) (fun _=>by simp[go_sem, *]) ?_
   walk_nrm
   refine c_value (n:=0) (J:=fun _ a=>Co Try.prog Z 0 ((g.set 0 0 false).fx Try.prog κL 0) a v) hJ4 (.pointer (some ⟨g.s,5,none⟩)) rfl rfl (by decide) (fun _=>by go_simp;try (first|decide|assumption|omega|(simp only[*];done)|simp[*])) (fun _=>by simp[go_sem, *]) ?_
   walk_nrm
   refine c_value (n:=0) (J:=fun _ a=>Co Try.prog Z 0 ((g.set 0 0 false).fx Try.prog κL 0) a v) hJ4 (.pointer (some ⟨g.s,5,none⟩)) rfl rfl (by decide) (fun _=>by go_simp;try (first|decide|assumption|omega|(simp only[*];done)|simp[*])) (fun _=>by simp[go_sem, *]) ?_
   walk_nrm
   refine co_group hZ κL_ok hgz hm0 hon rfl (fun w k3 hk3 hc h6 hz=> ?_)
   obtain rfl:k3=0:=by have h1:k3≤0:=hk3;omega
   replace hc:w.cell? (c5 g.s)=some (.int .u64 0):=by rw[show c5 g.s=c5 (g.set 0 0 false).s from rfl,hc];simp[Gh.set]
   refine⟨_,w,_,0,0,Nat.le_refl _,stepG_load_atomic rfl rfl (by decide) rfl Try.func69 (by kernel_rfl) (by kernel_rfl) (by kernel_rfl) .u64 (by kernel_rfl) rfl hc, ?_,.inl rfl,by rw[show c5 (g.set 0 0 false).s=c5 g.s from rfl,hc];simp, ?_⟩
   ·intro e he;simp only[List.mem_toArray,List.mem_cons,List.not_mem_nil,or_false] at he;subst he;exact⟨5,.inl rfl,.inl ⟨_,rfl⟩⟩
   clear hc h6 hz
   walk_nrm
   refine c_value (n:=0) (J:=fun _ a=>Co Try.prog Z 0 ((g.set 0 0 false).fx Try.prog κL 0) a v) hJ4 (.int .u64 0) rfl rfl (by decide) (fun _=>by go_simp;try (first|decide|assumption|omega|(simp only[*];done)|simp[*])) (fun _=>by simp[go_sem, *]) ?_
   walk_nrm
   refine c_region_end (n:=0) (J:=fun _ a=>Co Try.prog Z 0 ((g.set 0 0 false).fx Try.prog κL 0) a v) hJ4 ?_
   refine c_ret (n:=0) (J:=fun _ a=>Co Try.prog Z 0 ((g.set 0 0 false).fx Try.prog κL 0) a v) hJ4 ?_
   refine c_leave1 (n:=0) (J:=fun _ a=>Co Try.prog Z 0 ((g.set 0 0 false).fx Try.prog κL 0) a v) hJ4 rfl rfl Try.func52 rfl ?_
   walk_nrm
   refine c_value (n:=0) (J:=fun _ a=>Co Try.prog Z 0 ((g.set 0 0 false).fx Try.prog κL 0) a v) hJ4 (.bool false) rfl rfl (by decide) (fun _=>by go_simp;try (first|decide|assumption|omega|(simp only[*];done)|simp[*])) (fun _=>by simp[go_sem, *]) ?_
   walk_nrm
   refine c_value (n:=0) (J:=fun _ a=>Co Try.prog Z 0 ((g.set 0 0 false).fx Try.prog κL 0) a v) hJ4 (.bool false) rfl rfl (by decide) (fun _=>by go_simp;try (first|decide|assumption|omega|(simp only[*];done)|simp[*])) (fun _=>by simp[go_sem, *]) ?_
   walk_nrm
   refine c_region_end (n:=0) (J:=fun _ a=>Co Try.prog Z 0 ((g.set 0 0 false).fx Try.prog κL 0) a v) hJ4 ?_
   refine c_seq (n:=0) (J:=fun _ a=>Co Try.prog Z 0 ((g.set 0 0 false).fx Try.prog κL 0) a v) hJ4 ?_
   refine c_cond (n:=0) (J:=fun _ a=>Co Try.prog Z 0 ((g.set 0 0 false).fx Try.prog κL 0) a v) hJ4 true (by first|rfl|(simp[Act.eval, *])) ?_
   simp only[↓reduceIte]
   refine c_seq (n:=0) (J:=fun _ a=>Co Try.prog Z 0 ((g.set 0 0 false).fx Try.prog κL 0) a v) hJ4 ?_
   refine c_region (n:=0) (J:=fun _ a=>Co Try.prog Z 0 ((g.set 0 0 false).fx Try.prog κL 0) a v) hJ4 [0] rfl ?_
   refine co_ear (e:=true) hZ κL_ok hgz hm0 hon rfl rfl (fun _=>stepG_mark0 .enable (by simp) rfl rfl (by decide) rfl Try.func53 (by kernel_rfl) (by kernel_rfl) (by kernel_rfl) (by kernel_rfl)) ?_
   walk_nrm
   have hJe:=Co.calmly (v:=v) hZ (hge.fx κL_ok)
   refine c_region_end (n:=0) (J:=fun _ a=>Co Try.prog Z 0 ((g.set 0 0 true).fx Try.prog κL 0) a v) hJe ?_
   refine c_region (n:=0) (J:=fun _ a=>Co Try.prog Z 0 ((g.set 0 0 true).fx Try.prog κL 0) a v) hJe [0,1,2] rfl ?_
   refine c_value (n:=0) (J:=fun _ a=>Co Try.prog Z 0 ((g.set 0 0 true).fx Try.prog κL 0) a v) hJe (.pointer (some ⟨g.s,5,none⟩)) rfl rfl (by decide) (fun _=>by go_simp;try (first|decide|assumption|omega|(simp only[*];done)|simp[*])) (fun _=>by simp[go_sem, *]) ?_
   walk_nrm
   refine co_conv hZ hge hon (.inl rfl) Try.underlying116 (by kernel_rfl) rfl rfl (by decide) rfl rfl ?_
   walk_nrm
   refine co_acquire hZ κL_ok ha rfl (fun _=>stepG_markAt .acquire (by simp) rfl rfl (by decide) rfl Try.func54 (by kernel_rfl) (by kernel_rfl) (by kernel_rfl) (by kernel_rfl) (by first|(simp[Act.eval,c5];done)|(simp[Act.eval,c5];rfl))) ?_
   walk_nrm
   have hJw:=Co.calmly (v:=v) hZ ((Gh.Ok.away g).fx κL_ok)
   refine c_region_end (n:=0) (J:=fun _ a=>Co Try.prog Z 0 (g.away.fx Try.prog κL 0) a v) hJw ?_
   refine c_seq (n:=0) (J:=fun _ a=>Co Try.prog Z 0 (g.away.fx Try.prog κL 0) a v) hJw ?_
   refine c_seq (n:=0) (J:=fun _ a=>Co Try.prog Z 0 (g.away.fx Try.prog κL 0) a v) hJw ?_
   refine c_region (n:=0) (J:=fun _ a=>Co Try.prog Z 0 (g.away.fx Try.prog κL 0) a v) hJw [0] rfl ?_
   refine c_value (n:=0) (J:=fun _ a=>Co Try.prog Z 0 (g.away.fx Try.prog κL 0) a v) hJw (.bool false) rfl rfl (by decide) (fun _=>by go_simp;try (first|decide|assumption|omega|(simp only[*];done)|simp[*])) (fun _=>by simp[go_sem, *]) ?_
   walk_nrm
   refine c_region_end (n:=0) (J:=fun _ a=>Co Try.prog Z 0 (g.away.fx Try.prog κL 0) a v) hJw ?_
   refine c_cond (n:=0) (J:=fun _ a=>Co Try.prog Z 0 (g.away.fx Try.prog κL 0) a v) hJw false (by first|rfl|(simp[Act.eval, *])) ?_
   simp only[Bool.false_eq_true,↓reduceIte]
   refine c_skip (n:=0) (J:=fun _ a=>Co Try.prog Z 0 (g.away.fx Try.prog κL 0) a v) hJw ?_
   refine c_ret (n:=0) (J:=fun _ a=>Co Try.prog Z 0 (g.away.fx Try.prog κL 0) a v) hJw ?_
   refine c_leave0 (n:=0) (J:=fun _ a=>Co Try.prog Z 0 (g.away.fx Try.prog κL 0) a v) hJw rfl rfl Try.func34 rfl ?_
   walk_nrm
   exact hT
  ·have hne:((k2:Int)*KK)≠x:=by rw[←hx];simp only[KK];omega
   refine .inr ⟨_,_,k2,Nat.le_refl _,stepG_cas_miss rfl rfl (by decide) rfl Try.func70 (by kernel_rfl) (by kernel_rfl) (by kernel_rfl) .u64 (by kernel_rfl) rfl rfl rfl hc hz (by simpa using hne), ?_, ?_⟩
   ·intro e he;simp only[List.mem_toArray,List.mem_cons,List.not_mem_nil,or_false] at he;subst he;exact⟨5,_,.inl rfl,rfl⟩
   clear hc hz
   have hak2:(g.set 0 k2 false).All:=⟨hg.set _ _ _ (by have:=hg.few;omega),hon,ha.off,hm0,rfl,rfl⟩
   have hJ5:=Co.calmly (v:=v) hZ (hak2.ok.fx κL_ok)
   walk_nrm
   refine c_value (n:=0) (J:=fun _ a=>Co Try.prog Z 0 ((g.set 0 k2 false).fx Try.prog κL 0) a v) hJ5 (.bool false) rfl rfl (by decide) (fun _=>by go_simp;try (first|decide|assumption|omega|(simp only[*];done)|simp[*])) (fun _=>by simp[go_sem, *]) ?_
   walk_nrm
   refine c_region_end (n:=0) (J:=fun _ a=>Co Try.prog Z 0 ((g.set 0 k2 false).fx Try.prog κL 0) a v) hJ5 ?_
   refine c_ret (n:=0) (J:=fun _ a=>Co Try.prog Z 0 ((g.set 0 k2 false).fx Try.prog κL 0) a v) hJ5 ?_
   refine c_leave1 (n:=0) (J:=fun _ a=>Co Try.prog Z 0 ((g.set 0 k2 false).fx Try.prog κL 0) a v) hJ5 rfl rfl Try.func56 rfl ?_
   walk_nrm
   refine c_region_end (n:=0) (J:=fun _ a=>Co Try.prog Z 0 ((g.set 0 k2 false).fx Try.prog κL 0) a v) hJ5 ?_
   refine c_cond (n:=0) (J:=fun _ a=>Co Try.prog Z 0 ((g.set 0 k2 false).fx Try.prog κL 0) a v) hJ5 false (by first|rfl|(simp[Act.eval, *])) ?_
   simp only[Bool.false_eq_true,↓reduceIte]
   refine c_skip (n:=0) (J:=fun _ a=>Co Try.prog Z 0 ((g.set 0 k2 false).fx Try.prog κL 0) a v) hJ5 ?_
   refine c_inBlock (n:=0) (J:=fun _ a=>Co Try.prog Z 0 ((g.set 0 k2 false).fx Try.prog κL 0) a v) hJ5 ?_
   refine c_inLoop (n:=0) (J:=fun _ a=>Co Try.prog Z 0 ((g.set 0 k2 false).fx Try.prog κL 0) a v) hJ5 ?_
   exact ih.out k2 (by omega) (g:=g.set 0 k2 false) hak2 (Nat.le_refl _) (by omega) hT _ _ _ _ _ _ _ _ _ _ _ _ _ _ _ _ _ _ _ _ _ _ _ _ _ _ _ _ _ _ _ _ _ _ _ _ _ _ _ _ _ _ _ _ _ _ _ _ _ _ _ _ _ _ _ _ _ _ _ _ _ _ _ _ _ _ _ _ _ _ _ _ _ _ _ _ _ _ _ _ _ _ _
set_option maxRecDepth 100000 in
theorem wait_co {Z:Goal} {g:Gh} {v:World} (hZ:Z.Ok Try.prog) (hg:g.Ok 0) (hm0:g.m0=none) (hon:g.on=true) (hear:g.ear=true) (hoff:g.off=g.rs.length) (hcnt:g.cnt=0) (hlim:g.lim<1000)
 {b₀:Frame} {a₀:Act} {ops₀:Array Oper} {i₀:Nat} {rest₀:List Nat} {k₀:List Item} {cs:List Frame}
 (hT:Co Try.prog Z 0 (g.away.fx Try.prog κL 0) (G (b₀.at (a₀.put ((ops₀[i₀]?).bind (·.dst)) (.tuple #[])) (.inRegion ops₀ rest₀::k₀)) cs) v):
 Co Try.prog Z 0 (g.fx Try.prog κL 0) (G ((Go.Conc.base 34).at ⟨#[.pointer (some ⟨g.s,5,none⟩),undef,undef,undef,undef,undef,undef,undef,undef,undef,undef,undef,undef,undef,undef,undef,undef,undef,undef,undef,undef,undef,undef,undef,undef,undef,undef,undef,undef,undef,undef,undef,undef,undef,undef,undef,undef,undef,undef,undef,undef,undef,undef,undef,undef,undef,undef,undef,undef,undef,undef,undef,undef,undef,undef,undef,undef,undef,undef,undef,undef,undef,undef,undef,undef,undef,undef,undef,undef,undef,undef,undef,undef,undef,undef,undef,undef,undef,undef,undef,undef,undef,undef,undef],[]⟩ [.code body34]) (b₀.at a₀ (.inRegion ops₀ (i₀::rest₀)::k₀)::cs)) v:=by
 have hJ0:=Co.calmly (v:=v) hZ (hg.fx κL_ok)
 simp only[body34,Try.f34,Option.getD_some]
 refine c_seq (n:=0) (J:=fun _ a=>Co Try.prog Z 0 (g.fx Try.prog κL 0) a v) hJ0 ?_
 refine c_cond (n:=0) (J:=fun _ a=>Co Try.prog Z 0 (g.fx Try.prog κL 0) a v) hJ0 true (by first|rfl|(simp[Act.eval, *])) ?_
 simp only[↓reduceIte]
 refine c_region (n:=0) (J:=fun _ a=>Co Try.prog Z 0 (g.fx Try.prog κL 0) a v) hJ0 [0] rfl ?_
 refine co_ear (e:=false) hZ κL_ok hg hm0 hon rfl (by simpa using hear) (fun _=>stepG_mark0 .disable (by simp) rfl rfl (by decide) rfl Try.func51 (by kernel_rfl) (by kernel_rfl) (by kernel_rfl) (by kernel_rfl)) ?_
 walk_nrm
 have hak:(g.set g.cnt g.lim false).All:=⟨hg.set _ _ _ hg.few,hon,hoff,hm0,rfl,hcnt⟩
 have hJ1:=Co.calmly (v:=v) hZ (hak.ok.fx κL_ok)
 refine c_region_end (n:=0) (J:=fun _ a=>Co Try.prog Z 0 ((g.set g.cnt g.lim false).fx Try.prog κL 0) a v) hJ1 ?_
 refine c_block (n:=0) (J:=fun _ a=>Co Try.prog Z 0 ((g.set g.cnt g.lim false).fx Try.prog κL 0) a v) hJ1 ?_
 refine c_loop (n:=0) (J:=fun _ a=>Co Try.prog Z 0 ((g.set g.cnt g.lim false).fx Try.prog κL 0) a v) hJ1 ?_
 have h:=wait_loop (v:=v) hZ g.lim (g:=g.set g.cnt g.lim false) hak (Nat.le_refl _) hlim hT undef undef undef undef undef undef undef undef undef undef undef undef undef undef undef undef undef undef undef undef undef undef undef undef undef undef undef undef undef undef undef undef undef undef undef undef undef undef undef undef undef undef undef undef undef undef undef undef undef undef undef undef undef undef undef undef undef undef undef undef undef undef undef undef undef undef undef undef undef undef undef undef undef undef undef undef undef undef undef undef undef undef undef
 simp only[lb34,body34,Try.f34,Option.getD_some,sndC,inC] at h
 exact h
end Co
end Go.Proofs.Ytlngbdggehghgaa
