/-
  Main counts a worker: WaitGroup.Add(1), in company. Conditions: as each theorem says.
-/
import Derived.Test.YtlngbdggehghgaaCwC
namespace Go.Proofs.Ytlngbdggehghgaa
set_option linter.unusedSimpArgs false
set_option linter.unusedVariables false
namespace Co
open Go.Conc Go.RowKit
section
variable {Z:Goal} {g:Gh} {v:World} {b:Frame} {a:Act} {k:List Item} {cs:List Frame} {ops:Array Oper} {i:Nat} {rest:List Nat} {o:Oper} {y:Operand}
theorem cell5_of (hon:g.on=true) {w:World} (hI:g.I w):∃x,w.cell? (c5 g.s)=some x:=by
 obtain⟨c,t,e⟩:=hI.fz hon
 have h6:=hI.sm hon
 unfold World.cell? at h6⊢
 rw[show(c6 g.s).block=g.s from rfl,e] at h6
 rw[show(c5 g.s).block=g.s from rfl,e]
 have h7:c[6]?=some (.int .u32 0):=by simpa[c6] using h6
 have hlt:6<c.size:=(Array.getElem?_eq_some_iff.1 h7).1
 exact⟨c[5],by simp[c5]⟩
theorem co_conv (hZ:Z.Ok Try.prog) (hg:g.Ok 0) (hon:g.on=true) {j:Nat} (hj:j=5∨j=6) {src:TypeId} {t:TypeId} (hs:Try.prog.underlying src=some (.pointer t)) (hsz:(Try.prog.info? t).map (fun i=>decide (i.size=0))=some false)
 (ho:ops[i]?=some o) (hw:Region.wanted o (yielded ops a.tmps)=true) (hk:b.kind≠.early) (hop:o.op=.convert src 120 y)
 (hy:a.eval y=.pointer (some ⟨g.s,j,none⟩)) (h:Co Try.prog Z 0 (g.fx Try.prog κL 0) (G (b.at (a.put o.dst (.pointer (some ⟨g.s,j,none⟩))) (.inRegion ops rest::k)) cs) v):Co Try.prog Z 0 (g.fx Try.prog κL 0) (G (b.at a (.inRegion ops (i::rest)::k)) cs) v:=by
 intro T T0 gs w sl q ht hi hga
 refine co_step (v:=v) hZ (hg.fx κL_ok) rfl (fun w hv hK hI=> ?_) T T0 gs w sl q ht hi hga
 obtain⟨x,hc⟩:∃x,w.cell? ⟨g.s,j,none⟩=some x:=by
  rcases hj with rfl|rfl
  ·exact cell5_of hon hI
  ·exact⟨_,Gh.I.sm hI hon⟩
 have hr:(execOp a.eval o).run Try.prog w=.ok (.value (.pointer (some ⟨g.s,j,none⟩))) w:=by
  have h1:=run_convert_to_unsafe (P:=Try.prog) (w:=w) hs Try.underlying120 hsz hc
  unfold execOp
  simp only[hop,hy]
  simp[h1]
 have he:(execOp a.eval o).events Try.prog w #[]=#[]:=by
  have h1:=events_convert_to_unsafe (P:=Try.prog) (w:=w) hs Try.underlying120 hsz hc #[]
  unfold execOp
  simp only[hop,hy]
  simp[go_sem,h1]
 refine⟨_,w,v,#[],by simp, ?_,Hs.refl _ _,Nat.le_refl _,hv,hi.nv,h⟩
 rw[stepG_value ho hw hk hr]
 unfold listed
 rw[he,seen_none]
end
theorem unwind_enable {m:Bool} {b:Frame} {a:Act} {todo:List Item} {cs:List Frame} {ds:List Deferred} {w:World} (hd:a.defers=dcall 53 #[]::ds):
 stepG Try.prog m (G {b.at a todo with mode:=.returning} cs) w=.go (G {b.at ⟨a.tmps,ds⟩ todo with mode:=.returning} cs) w #[mk .enable]:=by
 have he:Extern.find Try.f53=some (fun _=>do mark .enable;pure Extern.Race.none_):=by kernel_rfl
 exact stepG_unwind_entry (v:=.tuple #[]) hd Try.func53 (by kernel_rfl) (by kernel_rfl) (by kernel_rfl) he (by simp[Extern.Race.none_]) (by simp[mk]) (by
  intro x hx'
  simp only[List.mem_toArray,List.mem_cons,List.not_mem_nil,or_false] at hx'
  subst hx'
  exact⟨rfl,by simp[mk]⟩)
set_option maxRecDepth 100000 in
set_option maxHeartbeats 8000000 in
theorem add_pos {Z:Goal} {g:Gh} {v:World} (hZ:Z.Ok Try.prog) (hg:g.Ok 0) (hm0:g.m0=none) (hon:g.on=true) (hear:g.ear=true) (hoff:g.off=0) (hlim:g.lim=0) (hcnt:g.cnt<400)
 {b₀:Frame} {a₀:Act} {ops₀:Array Oper} {i₀:Nat} {rest₀:List Nat} {k₀:List Item} {cs:List Frame}
 (hT:Co Try.prog Z 0 ((g.set (g.cnt+1) 0 true).fx Try.prog κL 0) (G (b₀.at (a₀.put ((ops₀[i₀]?).bind (·.dst)) (.tuple #[])) (.inRegion ops₀ rest₀::k₀)) cs) v):
 Co Try.prog Z 0 (g.fx Try.prog κL 0) (G ((Go.Conc.base 62).at ⟨#[.pointer (some ⟨g.s,5,none⟩),.int .i64 1,undef,undef,undef,undef,undef,undef,undef,undef,undef,undef,undef,undef,undef,undef,undef,undef,undef,undef,undef,undef,undef,undef,undef,undef,undef,undef,undef,undef,undef,undef,undef,undef,undef,undef,undef,undef,undef,undef,undef,undef,undef,undef,undef,undef,undef,undef,undef,undef,undef,undef,undef,undef,undef,undef,undef,undef,undef,undef,undef,undef,undef,undef,undef,undef,undef,undef,undef,undef,undef,undef,undef,undef,undef,undef,undef,undef,undef,undef,undef,undef,undef,undef,undef,undef,undef,undef,undef,undef,undef,undef,undef,undef,undef,undef,undef,undef,undef,undef,undef,undef,undef,undef,undef,undef,undef,undef,undef,undef,undef,undef,undef,undef,undef,undef,undef],[]⟩ [.code body62]) (b₀.at a₀ (.inRegion ops₀ (i₀::rest₀)::k₀)::cs)) v:=by
 have hJ0:=Co.calmly (v:=v) hZ (hg.fx κL_ok)
 simp only[body62,Try.f62,Option.getD_some]
 refine c_seq (n:=0) (J:=fun _ a=>Co Try.prog Z 0 (g.fx Try.prog κL 0) a v) hJ0 ?_
 refine c_cond (n:=0) (J:=fun _ a=>Co Try.prog Z 0 (g.fx Try.prog κL 0) a v) hJ0 true (by first|rfl|(simp[Act.eval, *])) ?_
 simp only[↓reduceIte]
 refine c_seq (n:=0) (J:=fun _ a=>Co Try.prog Z 0 (g.fx Try.prog κL 0) a v) hJ0 ?_
 refine c_seq (n:=0) (J:=fun _ a=>Co Try.prog Z 0 (g.fx Try.prog κL 0) a v) hJ0 ?_
 refine c_region (n:=0) (J:=fun _ a=>Co Try.prog Z 0 (g.fx Try.prog κL 0) a v) hJ0 [0,1] rfl ?_
 refine c_value (n:=0) (J:=fun _ a=>Co Try.prog Z 0 (g.fx Try.prog κL 0) a v) hJ0 (.int .i64 1) rfl rfl (by decide) (fun _=>by go_simp;try (first|decide|assumption|omega|(simp only[*];done)|simp[*])) (fun _=>by simp[go_sem, *]) ?_
 walk_nrm
 refine c_value (n:=0) (J:=fun _ a=>Co Try.prog Z 0 (g.fx Try.prog κL 0) a v) hJ0 (.bool false) rfl rfl (by decide) (fun _=>by go_simp;try (first|decide|assumption|omega|(simp only[*];done)|simp[*])) (fun _=>by simp[go_sem, *]) ?_
 walk_nrm
 refine c_region_end (n:=0) (J:=fun _ a=>Co Try.prog Z 0 (g.fx Try.prog κL 0) a v) hJ0 ?_
 refine c_cond (n:=0) (J:=fun _ a=>Co Try.prog Z 0 (g.fx Try.prog κL 0) a v) hJ0 false (by first|rfl|(simp[Act.eval, *])) ?_
 simp only[Bool.false_eq_true,↓reduceIte]
 refine c_skip (n:=0) (J:=fun _ a=>Co Try.prog Z 0 (g.fx Try.prog κL 0) a v) hJ0 ?_
 refine c_seq (n:=0) (J:=fun _ a=>Co Try.prog Z 0 (g.fx Try.prog κL 0) a v) hJ0 ?_
 refine c_region (n:=0) (J:=fun _ a=>Co Try.prog Z 0 (g.fx Try.prog κL 0) a v) hJ0 [0] rfl ?_
 refine co_ear (e:=false) hZ κL_ok hg hm0 hon rfl (by simpa using hear) (fun _=>stepG_mark0 .disable (by simp) rfl rfl (by decide) rfl Try.func51 (by kernel_rfl) (by kernel_rfl) (by kernel_rfl) (by kernel_rfl)) ?_
 walk_nrm
 have hg1:(g.set g.cnt g.lim false).Ok 0:=hg.set _ _ _ hg.few
 have hJ1:=Co.calmly (v:=v) hZ (hg1.fx κL_ok)
 refine c_region_end (n:=0) (J:=fun _ a=>Co Try.prog Z 0 ((g.set g.cnt g.lim false).fx Try.prog κL 0) a v) hJ1 ?_
 refine c_region (n:=0) (J:=fun _ a=>Co Try.prog Z 0 ((g.set g.cnt g.lim false).fx Try.prog κL 0) a v) hJ1 [0] rfl ?_
 refine c_defer (n:=0) (J:=fun _ a=>Co Try.prog Z 0 ((g.set g.cnt g.lim false).fx Try.prog κL 0) a v) hJ1 rfl rfl (by decide) rfl ?_
 walk_nrm
 refine c_region_end (n:=0) (J:=fun _ a=>Co Try.prog Z 0 ((g.set g.cnt g.lim false).fx Try.prog κL 0) a v) hJ1 ?_
 refine c_seq (n:=0) (J:=fun _ a=>Co Try.prog Z 0 ((g.set g.cnt g.lim false).fx Try.prog κL 0) a v) hJ1 ?_
 refine c_region (n:=0) (J:=fun _ a=>Co Try.prog Z 0 ((g.set g.cnt g.lim false).fx Try.prog κL 0) a v) hJ1 [0] rfl ?_
 refine c_value (n:=0) (J:=fun _ a=>Co Try.prog Z 0 ((g.set g.cnt g.lim false).fx Try.prog κL 0) a v) hJ1 (.bool false) rfl rfl (by decide) (fun _=>by go_simp;try (first|decide|assumption|omega|(simp only[*];done)|simp[*])) (fun _=>by simp[go_sem, *]) ?_
 walk_nrm
 refine c_region_end (n:=0) (J:=fun _ a=>Co Try.prog Z 0 ((g.set g.cnt g.lim false).fx Try.prog κL 0) a v) hJ1 ?_
 refine c_seq (n:=0) (J:=fun _ a=>Co Try.prog Z 0 ((g.set g.cnt g.lim false).fx Try.prog κL 0) a v) hJ1 ?_
 refine c_seq (n:=0) (J:=fun _ a=>Co Try.prog Z 0 ((g.set g.cnt g.lim false).fx Try.prog κL 0) a v) hJ1 ?_
 refine c_region (n:=0) (J:=fun _ a=>Co Try.prog Z 0 ((g.set g.cnt g.lim false).fx Try.prog κL 0) a v) hJ1 [0] rfl ?_
 refine c_pure (n:=0) (J:=fun _ a=>Co Try.prog Z 0 ((g.set g.cnt g.lim false).fx Try.prog κL 0) a v) hJ1 (.bool false) rfl rfl (by decide) rfl Try.func59 (by kernel_rfl) (by kernel_rfl) (by kernel_rfl) (by kernel_rfl) ?_
 walk_nrm
 refine c_region_end (n:=0) (J:=fun _ a=>Co Try.prog Z 0 ((g.set g.cnt g.lim false).fx Try.prog κL 0) a v) hJ1 ?_
 refine c_cond (n:=0) (J:=fun _ a=>Co Try.prog Z 0 ((g.set g.cnt g.lim false).fx Try.prog κL 0) a v) hJ1 false (by first|rfl|(simp[Act.eval, *])) ?_
 simp only[Bool.false_eq_true,↓reduceIte]
 refine c_skip (n:=0) (J:=fun _ a=>Co Try.prog Z 0 ((g.set g.cnt g.lim false).fx Try.prog κL 0) a v) hJ1 ?_
 refine c_seq (n:=0) (J:=fun _ a=>Co Try.prog Z 0 ((g.set g.cnt g.lim false).fx Try.prog κL 0) a v) hJ1 ?_
 refine c_region (n:=0) (J:=fun _ a=>Co Try.prog Z 0 ((g.set g.cnt g.lim false).fx Try.prog κL 0) a v) hJ1 [0,1,2,3,4,5,6,7] rfl ?_
 refine c_value (n:=0) (J:=fun _ a=>Co Try.prog Z 0 ((g.set g.cnt g.lim false).fx Try.prog κL 0) a v) hJ1 (.pointer (some ⟨g.s,5,none⟩)) rfl rfl (by decide) (fun _=>by go_simp;try (first|decide|assumption|omega|(simp only[*];done)|simp[*])) (fun _=>by simp[go_sem, *]) ?_
 walk_nrm
 refine c_value (n:=0) (J:=fun _ a=>Co Try.prog Z 0 ((g.set g.cnt g.lim false).fx Try.prog κL 0) a v) hJ1 (.pointer (some ⟨g.s,5,none⟩)) rfl rfl (by decide) (fun _=>by go_simp;try (first|decide|assumption|omega|(simp only[*];done)|simp[*])) (fun _=>by simp[go_sem, *]) ?_
 walk_nrm
 refine c_value (n:=0) (J:=fun _ a=>Co Try.prog Z 0 ((g.set g.cnt g.lim false).fx Try.prog κL 0) a v) hJ1 (.pointer (some ⟨g.s,5,none⟩)) rfl rfl (by decide) (fun _=>by go_simp;try (first|decide|assumption|omega|(simp only[*];done)|simp[*])) (fun _=>by simp[go_sem, *]) ?_
 walk_nrm
 refine c_value (n:=0) (J:=fun _ a=>Co Try.prog Z 0 ((g.set g.cnt g.lim false).fx Try.prog κL 0) a v) hJ1 (.int .i64 1) rfl rfl (by decide) (fun _=>by go_simp;try (first|decide|assumption|omega|(simp only[*];done)|simp[*])) (fun _=>by simp[go_sem, *]) ?_
 walk_nrm
 refine c_value (n:=0) (J:=fun _ a=>Co Try.prog Z 0 ((g.set g.cnt g.lim false).fx Try.prog κL 0) a v) hJ1 (.int .u64 1) rfl rfl (by decide) (fun _=>by go_simp;try (first|decide|assumption|omega|(simp only[*];done)|simp[*])) (fun _=>by simp[go_sem, *]) ?_
 walk_nrm
 refine c_value (n:=0) (J:=fun _ a=>Co Try.prog Z 0 ((g.set g.cnt g.lim false).fx Try.prog κL 0) a v) hJ1 (.int .u64 4294967296) rfl rfl (by decide) (fun _=>by go_simp;try (first|decide|assumption|omega|(simp only[*];done)|simp[*])) (fun _=>by simp[go_sem, *]) ?_
 walk_nrm
 refine c_call (n:=0) (J:=fun _ a=>Co Try.prog Z 0 ((g.set g.cnt g.lim false).fx Try.prog κL 0) a v) hJ1 rfl rfl (by decide) rfl Try.func76 (by kernel_rfl) rfl ?_
 simp only[Try.f76]
 walk_nrm
 refine c_seq (n:=0) (J:=fun _ a=>Co Try.prog Z 0 ((g.set g.cnt g.lim false).fx Try.prog κL 0) a v) hJ1 ?_
 refine c_region (n:=0) (J:=fun _ a=>Co Try.prog Z 0 ((g.set g.cnt g.lim false).fx Try.prog κL 0) a v) hJ1 [0] rfl ?_
 refine c_value (n:=0) (J:=fun _ a=>Co Try.prog Z 0 ((g.set g.cnt g.lim false).fx Try.prog κL 0) a v) hJ1 (.int .u64 0) rfl rfl (by decide) (fun _=>by go_simp;try (first|decide|assumption|omega|(simp only[*];done)|simp[*])) (fun _=>by simp[go_sem, *]) ?_
 walk_nrm
 refine c_region_end (n:=0) (J:=fun _ a=>Co Try.prog Z 0 ((g.set g.cnt g.lim false).fx Try.prog κL 0) a v) hJ1 ?_
 refine c_seq (n:=0) (J:=fun _ a=>Co Try.prog Z 0 ((g.set g.cnt g.lim false).fx Try.prog κL 0) a v) hJ1 ?_
 refine c_region (n:=0) (J:=fun _ a=>Co Try.prog Z 0 ((g.set g.cnt g.lim false).fx Try.prog κL 0) a v) hJ1 [0,1,2,3,4,5] rfl ?_
 refine c_value (n:=0) (J:=fun _ a=>Co Try.prog Z 0 ((g.set g.cnt g.lim false).fx Try.prog κL 0) a v) hJ1 (.pointer (some ⟨g.s,5,none⟩)) rfl rfl (by decide) (fun _=>by go_simp;try (first|decide|assumption|omega|(simp only[*];done)|simp[*])) (fun _=>by simp[go_sem, *]) ?_
 walk_nrm
 refine c_value (n:=0) (J:=fun _ a=>Co Try.prog Z 0 ((g.set g.cnt g.lim false).fx Try.prog κL 0) a v) hJ1 (.pointer (some ⟨g.s,5,none⟩)) rfl rfl (by decide) (fun _=>by go_simp;try (first|decide|assumption|omega|(simp only[*];done)|simp[*])) (fun _=>by simp[go_sem, *]) ?_
 walk_nrm
 refine c_value (n:=0) (J:=fun _ a=>Co Try.prog Z 0 ((g.set g.cnt g.lim false).fx Try.prog κL 0) a v) hJ1 (.pointer (some ⟨g.s,5,none⟩)) rfl rfl (by decide) (fun _=>by go_simp;try (first|decide|assumption|omega|(simp only[*];done)|simp[*])) (fun _=>by simp[go_sem, *]) ?_
 walk_nrm
 refine c_value (n:=0) (J:=fun _ a=>Co Try.prog Z 0 ((g.set g.cnt g.lim false).fx Try.prog κL 0) a v) hJ1 (.int .u64 4294967296) rfl rfl (by decide) (fun _=>by go_simp;try (first|decide|assumption|omega|(simp only[*];done)|simp[*])) (fun _=>by simp[go_sem, *]) ?_
 walk_nrm
 refine co_group hZ κL_ok hg1 hm0 hon rfl (fun w k hk hc h6 hz=> ?_)
 obtain rfl:k=0:=by have h1:k≤g.lim:=hk;omega
 replace hc:w.cell? (c5 g.s)=some (.int .u64 (((g.cnt+0:Nat):Int)*KK)):=hc
 have e:IntKind.u64.wrap (((g.cnt+0:Nat):Int)*KK+4294967296)=((g.cnt+1:Nat):Int)*KK+((0:Nat):Int):=by simp only[wrapU,KK];omega
 generalize hN:g.cnt+1=N at e
 have hN1:N<1000:=by omega
 generalize hx:(N:Int)*KK+((0:Nat):Int)=x at e
 obtain⟨hA,hB,hC⟩:=facts_x N 0 (by omega) hN1 hx
 have hW:=wrapI N hN1
 refine⟨_,_,_,g.cnt+1,0,Nat.le_refl _,(stepG_add_atomic rfl rfl (by decide) rfl Try.func84 (by kernel_rfl) (by kernel_rfl) (by kernel_rfl) .u64 (by kernel_rfl) rfl rfl hc hz), ?_,.inr ⟨_,rfl⟩, ?_, ?_⟩
 ·intro e he;simp only[List.mem_toArray,List.mem_cons,List.not_mem_nil,or_false] at he;rcases he with rfl|rfl<;>exact⟨5,.inl rfl,.inl ⟨_,rfl⟩⟩
 ·refine(cell_set hc _).trans ?_
  rw[e,←hx,←hN]
  simp
 rw[e]
 clear hc h6 hz e
 have hg2:(g.set (g.cnt+1) 0 false).Ok 0:=hg.set _ _ _ (by omega)
 have hJ2:=Co.calmly (v:=v) hZ (hg2.fx κL_ok)
 have hp:(0:Int)<N:=by omega
 walk_nrm
 refine c_value (n:=0) (J:=fun _ a=>Co Try.prog Z 0 ((g.set (g.cnt+1) 0 false).fx Try.prog κL 0) a v) hJ2 (.int .u64 x) rfl rfl (by decide) (fun _=>by go_simp;try (first|decide|assumption|omega|(simp only[*];done)|simp[*])) (fun _=>by simp[go_sem, *]) ?_
 walk_nrm
 refine c_region_end (n:=0) (J:=fun _ a=>Co Try.prog Z 0 ((g.set (g.cnt+1) 0 false).fx Try.prog κL 0) a v) hJ2 ?_
 refine c_ret (n:=0) (J:=fun _ a=>Co Try.prog Z 0 ((g.set (g.cnt+1) 0 false).fx Try.prog κL 0) a v) hJ2 ?_
 refine c_leave1 (n:=0) (J:=fun _ a=>Co Try.prog Z 0 ((g.set (g.cnt+1) 0 false).fx Try.prog κL 0) a v) hJ2 rfl rfl Try.func76 rfl ?_
 walk_nrm
 refine c_value (n:=0) (J:=fun _ a=>Co Try.prog Z 0 ((g.set (g.cnt+1) 0 false).fx Try.prog κL 0) a v) hJ2 (.int .u64 x) rfl rfl (by decide) (fun _=>by go_simp;try (first|decide|assumption|omega|(simp only[*];done)|simp[*])) (fun _=>by simp[go_sem, *]) ?_
 walk_nrm
 refine c_region_end (n:=0) (J:=fun _ a=>Co Try.prog Z 0 ((g.set (g.cnt+1) 0 false).fx Try.prog κL 0) a v) hJ2 ?_
 refine c_seq (n:=0) (J:=fun _ a=>Co Try.prog Z 0 ((g.set (g.cnt+1) 0 false).fx Try.prog κL 0) a v) hJ2 ?_
 refine c_seq (n:=0) (J:=fun _ a=>Co Try.prog Z 0 ((g.set (g.cnt+1) 0 false).fx Try.prog κL 0) a v) hJ2 ?_
 refine c_region (n:=0) (J:=fun _ a=>Co Try.prog Z 0 ((g.set (g.cnt+1) 0 false).fx Try.prog κL 0) a v) hJ2 [0,1,2,3,4,5,6] rfl ?_
 refine c_value (n:=0) (J:=fun _ a=>Co Try.prog Z 0 ((g.set (g.cnt+1) 0 false).fx Try.prog κL 0) a v) hJ2 (.int .u64 x) rfl rfl (by decide) (fun _=>by go_simp;try (first|decide|assumption|omega|(simp only[*];done)|simp[*])) (fun _=>by simp[go_sem, *]) ?_
 walk_nrm
 refine c_value (n:=0) (J:=fun _ a=>Co Try.prog Z 0 ((g.set (g.cnt+1) 0 false).fx Try.prog κL 0) a v) hJ2 (.int .u64 0) rfl rfl (by decide) (fun _=>by go_simp;try (first|decide|assumption|omega|(simp only[*];done)|simp[*])) (fun _=>by simp[go_sem, *]) ?_
 walk_nrm
 refine c_value (n:=0) (J:=fun _ a=>Co Try.prog Z 0 ((g.set (g.cnt+1) 0 false).fx Try.prog κL 0) a v) hJ2 (.bool false) rfl rfl (by decide) (fun _=>by go_simp;try (first|decide|assumption|omega|(simp only[*];done)|simp[*])) (fun _=>by simp[go_sem, *]) ?_
 walk_nrm
 refine c_value (n:=0) (J:=fun _ a=>Co Try.prog Z 0 ((g.set (g.cnt+1) 0 false).fx Try.prog κL 0) a v) hJ2 (.bool false) rfl rfl (by decide) (fun _=>by go_simp;try (first|decide|assumption|omega|(simp only[*];done)|simp[*])) (fun _=>by simp[go_sem, *]) ?_
 walk_nrm
 refine c_unwanted (n:=0) (J:=fun _ a=>Co Try.prog Z 0 ((g.set (g.cnt+1) 0 false).fx Try.prog κL 0) a v) hJ2 rfl rfl ?_
 walk_nrm
 refine c_unwanted (n:=0) (J:=fun _ a=>Co Try.prog Z 0 ((g.set (g.cnt+1) 0 false).fx Try.prog κL 0) a v) hJ2 rfl rfl ?_
 walk_nrm
 refine c_value (n:=0) (J:=fun _ a=>Co Try.prog Z 0 ((g.set (g.cnt+1) 0 false).fx Try.prog κL 0) a v) hJ2 (.bool false) rfl rfl (by decide) (fun _=>by go_simp;try (first|decide|assumption|omega|(simp only[*];done)|simp[*])) (fun _=>by simp[go_sem, *]) ?_
 walk_nrm
 refine c_region_end (n:=0) (J:=fun _ a=>Co Try.prog Z 0 ((g.set (g.cnt+1) 0 false).fx Try.prog κL 0) a v) hJ2 ?_
 refine c_cond (n:=0) (J:=fun _ a=>Co Try.prog Z 0 ((g.set (g.cnt+1) 0 false).fx Try.prog κL 0) a v) hJ2 false (by first|rfl|(simp[Act.eval, *])) ?_
 simp only[Bool.false_eq_true,↓reduceIte]
 refine c_skip (n:=0) (J:=fun _ a=>Co Try.prog Z 0 ((g.set (g.cnt+1) 0 false).fx Try.prog κL 0) a v) hJ2 ?_
 refine c_seq (n:=0) (J:=fun _ a=>Co Try.prog Z 0 ((g.set (g.cnt+1) 0 false).fx Try.prog κL 0) a v) hJ2 ?_
 refine c_region (n:=0) (J:=fun _ a=>Co Try.prog Z 0 ((g.set (g.cnt+1) 0 false).fx Try.prog κL 0) a v) hJ2 [0,1,2,3] rfl ?_
 refine c_value (n:=0) (J:=fun _ a=>Co Try.prog Z 0 ((g.set (g.cnt+1) 0 false).fx Try.prog κL 0) a v) hJ2 (.int .u64 x) rfl rfl (by decide) (fun _=>by go_simp;try (first|decide|assumption|omega|(simp only[*];done)|simp[*])) (fun _=>by simp[go_sem, *]) ?_
 walk_nrm
 refine c_value (n:=0) (J:=fun _ a=>Co Try.prog Z 0 ((g.set (g.cnt+1) 0 false).fx Try.prog κL 0) a v) hJ2 (.int .u64 (N:Int)) rfl rfl (by decide) (fun _=>by go_simp;try (first|decide|assumption|omega|(simp only[*];done)|simp[*])) (fun _=>by simp[go_sem, *]) ?_
 walk_nrm
 refine c_value (n:=0) (J:=fun _ a=>Co Try.prog Z 0 ((g.set (g.cnt+1) 0 false).fx Try.prog κL 0) a v) hJ2 (.int .i32 (N:Int)) rfl rfl (by decide) (fun _=>by go_simp;try (first|decide|assumption|omega|(simp only[*];done)|simp[*])) (fun _=>by simp[go_sem, *]) ?_
 walk_nrm
 refine c_value (n:=0) (J:=fun _ a=>Co Try.prog Z 0 ((g.set (g.cnt+1) 0 false).fx Try.prog κL 0) a v) hJ2 (.int .i32 (N:Int)) rfl rfl (by decide) (fun _=>by go_simp;try (first|decide|assumption|omega|(simp only[*];done)|simp[*])) (fun _=>by simp[go_sem, *]) ?_
 walk_nrm
 refine c_region_end (n:=0) (J:=fun _ a=>Co Try.prog Z 0 ((g.set (g.cnt+1) 0 false).fx Try.prog κL 0) a v) hJ2 ?_
 refine c_seq (n:=0) (J:=fun _ a=>Co Try.prog Z 0 ((g.set (g.cnt+1) 0 false).fx Try.prog κL 0) a v) hJ2 ?_
 refine c_region (n:=0) (J:=fun _ a=>Co Try.prog Z 0 ((g.set (g.cnt+1) 0 false).fx Try.prog κL 0) a v) hJ2 [0,1,2,3] rfl ?_
 refine c_value (n:=0) (J:=fun _ a=>Co Try.prog Z 0 ((g.set (g.cnt+1) 0 false).fx Try.prog κL 0) a v) hJ2 (.int .u64 x) rfl rfl (by decide) (fun _=>by go_simp;try (first|decide|assumption|omega|(simp only[*];done)|simp[*])) (fun _=>by simp[go_sem, *]) ?_
 walk_nrm
 refine c_value (n:=0) (J:=fun _ a=>Co Try.prog Z 0 ((g.set (g.cnt+1) 0 false).fx Try.prog κL 0) a v) hJ2 (.int .u64 0) rfl rfl (by decide) (fun _=>by go_simp;try (first|decide|assumption|omega|(simp only[*];done)|simp[*])) (fun _=>by simp[go_sem, *]) ?_
 walk_nrm
 refine c_value (n:=0) (J:=fun _ a=>Co Try.prog Z 0 ((g.set (g.cnt+1) 0 false).fx Try.prog κL 0) a v) hJ2 (.int .u32 0) rfl rfl (by decide) (fun _=>by go_simp;try (first|decide|assumption|omega|(simp only[*];done)|simp[*])) (fun _=>by simp[go_sem, *]) ?_
 walk_nrm
 refine c_value (n:=0) (J:=fun _ a=>Co Try.prog Z 0 ((g.set (g.cnt+1) 0 false).fx Try.prog κL 0) a v) hJ2 (.int .u32 0) rfl rfl (by decide) (fun _=>by go_simp;try (first|decide|assumption|omega|(simp only[*];done)|simp[*])) (fun _=>by simp[go_sem, *]) ?_
 walk_nrm
 refine c_region_end (n:=0) (J:=fun _ a=>Co Try.prog Z 0 ((g.set (g.cnt+1) 0 false).fx Try.prog κL 0) a v) hJ2 ?_
 refine c_seq (n:=0) (J:=fun _ a=>Co Try.prog Z 0 ((g.set (g.cnt+1) 0 false).fx Try.prog κL 0) a v) hJ2 ?_
 refine c_seq (n:=0) (J:=fun _ a=>Co Try.prog Z 0 ((g.set (g.cnt+1) 0 false).fx Try.prog κL 0) a v) hJ2 ?_
 refine c_region (n:=0) (J:=fun _ a=>Co Try.prog Z 0 ((g.set (g.cnt+1) 0 false).fx Try.prog κL 0) a v) hJ2 [0,1,2,3,4,5,6,7,8,9] rfl ?_
 refine c_value (n:=0) (J:=fun _ a=>Co Try.prog Z 0 ((g.set (g.cnt+1) 0 false).fx Try.prog κL 0) a v) hJ2 (.bool true) rfl rfl (by decide) (fun _=>by go_simp;try (first|decide|assumption|omega|(simp only[*];done)|simp[*])) (fun _=>by simp[go_sem, *]) ?_
 walk_nrm
 refine c_value (n:=0) (J:=fun _ a=>Co Try.prog Z 0 ((g.set (g.cnt+1) 0 false).fx Try.prog κL 0) a v) hJ2 (.int .i64 1) rfl rfl (by decide) (fun _=>by go_simp;try (first|decide|assumption|omega|(simp only[*];done)|simp[*])) (fun _=>by simp[go_sem, *]) ?_
 walk_nrm
 refine c_value (n:=0) (J:=fun _ a=>Co Try.prog Z 0 ((g.set (g.cnt+1) 0 false).fx Try.prog κL 0) a v) hJ2 (.bool true) rfl rfl (by decide) (fun _=>by go_simp;try (first|decide|assumption|omega|(simp only[*];done)|simp[*])) (fun _=>by simp[go_sem, *]) ?_
 walk_nrm
 refine c_value (n:=0) (J:=fun _ a=>Co Try.prog Z 0 ((g.set (g.cnt+1) 0 false).fx Try.prog κL 0) a v) hJ2 (.bool true) rfl rfl (by decide) (fun _=>by go_simp;try (first|decide|assumption|omega|(simp only[*];done)|simp[*])) (fun _=>by simp[go_sem, *]) ?_
 walk_nrm
 refine c_value (n:=0) (J:=fun _ a=>Co Try.prog Z 0 ((g.set (g.cnt+1) 0 false).fx Try.prog κL 0) a v) hJ2 (.bool true) rfl rfl (by decide) (fun _=>by go_simp;try (first|decide|assumption|omega|(simp only[*];done)|simp[*])) (fun _=>by simp[go_sem, *]) ?_
 walk_nrm
 refine c_value (n:=0) (J:=fun _ a=>Co Try.prog Z 0 ((g.set (g.cnt+1) 0 false).fx Try.prog κL 0) a v) hJ2 (.int .i32 (N:Int)) rfl rfl (by decide) (fun _=>by go_simp;try (first|decide|assumption|omega|(simp only[*];done)|simp[*])) (fun _=>by simp[go_sem, *]) ?_
 walk_nrm
 refine c_value (n:=0) (J:=fun _ a=>Co Try.prog Z 0 ((g.set (g.cnt+1) 0 false).fx Try.prog κL 0) a v) hJ2 (.int .i64 1) rfl rfl (by decide) (fun _=>by go_simp;try (first|decide|assumption|omega|(simp only[*];done)|simp[*])) (fun _=>by simp[go_sem, *]) ?_
 walk_nrm
 refine c_value (n:=0) (J:=fun _ a=>Co Try.prog Z 0 ((g.set (g.cnt+1) 0 false).fx Try.prog κL 0) a v) hJ2 (.int .i32 1) rfl rfl (by decide) (fun _=>by go_simp;try (first|decide|assumption|omega|(simp only[*];done)|simp[*])) (fun _=>by simp[go_sem, *]) ?_
 walk_nrm
 rcases Nat.lt_or_ge N 2 with h1|h1
 ·obtain rfl:N=1:=by omega
  refine c_value (n:=0) (J:=fun _ a=>Co Try.prog Z 0 ((g.set (g.cnt+1) 0 false).fx Try.prog κL 0) a v) hJ2 (.bool true) rfl rfl (by decide) (fun _=>by go_simp;try (first|decide|assumption|omega|(simp only[*];done)|simp[*])) (fun _=>by simp[go_sem, *]) ?_
  walk_nrm
  refine c_value (n:=0) (J:=fun _ a=>Co Try.prog Z 0 ((g.set (g.cnt+1) 0 false).fx Try.prog κL 0) a v) hJ2 (.bool true) rfl rfl (by decide) (fun _=>by go_simp;try (first|decide|assumption|omega|(simp only[*];done)|simp[*])) (fun _=>by simp[go_sem, *]) ?_
  walk_nrm
  refine c_region_end (n:=0) (J:=fun _ a=>Co Try.prog Z 0 ((g.set (g.cnt+1) 0 false).fx Try.prog κL 0) a v) hJ2 ?_
  refine c_cond (n:=0) (J:=fun _ a=>Co Try.prog Z 0 ((g.set (g.cnt+1) 0 false).fx Try.prog κL 0) a v) hJ2 true (by first|rfl|(simp[Act.eval, *])) ?_
  simp only[↓reduceIte]
  refine c_region (n:=0) (J:=fun _ a=>Co Try.prog Z 0 ((g.set (g.cnt+1) 0 false).fx Try.prog κL 0) a v) hJ2 [0,1,2,3,4] rfl ?_
  refine c_value (n:=0) (J:=fun _ a=>Co Try.prog Z 0 ((g.set (g.cnt+1) 0 false).fx Try.prog κL 0) a v) hJ2 (.pointer (some ⟨g.s,5,none⟩)) rfl rfl (by decide) (fun _=>by go_simp;try (first|decide|assumption|omega|(simp only[*];done)|simp[*])) (fun _=>by simp[go_sem, *]) ?_
  walk_nrm
  refine c_value (n:=0) (J:=fun _ a=>Co Try.prog Z 0 ((g.set (g.cnt+1) 0 false).fx Try.prog κL 0) a v) hJ2 (.pointer (some ⟨g.s,5,none⟩)) rfl rfl (by decide) (fun _=>by go_simp;try (first|decide|assumption|omega|(simp only[*];done)|simp[*])) (fun _=>by simp[go_sem, *]) ?_
  walk_nrm
  refine c_value (n:=0) (J:=fun _ a=>Co Try.prog Z 0 ((g.set (g.cnt+1) 0 false).fx Try.prog κL 0) a v) hJ2 (.pointer (some ⟨g.s,6,none⟩)) rfl rfl (by decide) (fun _=>by go_simp;try (first|decide|assumption|omega|(simp only[*];done)|simp[*])) (fun _=>by simp[go_sem, *]) ?_
  walk_nrm
  refine co_conv hZ hg2 hon (.inr rfl) Try.underlying124 (by kernel_rfl) rfl rfl (by decide) rfl rfl ?_
  walk_nrm
  refine co_group hZ κL_ok hg2 hm0 hon rfl (fun w k hk hc h6 hz=> ?_)
  obtain rfl:k=0:=by have h1:k≤0:=hk;omega
  refine⟨_,w,_,g.cnt+1,0,Nat.le_refl _,stepG_markAt .read (by simp) rfl rfl (by decide) rfl Try.func77 (by kernel_rfl) (by kernel_rfl) (by kernel_rfl) (by kernel_rfl) (by simp[Act.eval];rfl), ?_,.inl rfl,hc, ?_⟩
  ·intro e he;simp only[List.mem_toArray,List.mem_cons,List.not_mem_nil,or_false] at he;subst he;exact⟨6,.inr rfl,.inr (.inl rfl)⟩
  walk_nrm
  refine c_region_end (n:=0) (J:=fun _ a=>Co Try.prog Z 0 ((g.set (g.cnt+1) 0 false).fx Try.prog κL 0) a v) hJ2 ?_
  refine c_seq (n:=0) (J:=fun _ a=>Co Try.prog Z 0 ((g.set (g.cnt+1) 0 false).fx Try.prog κL 0) a v) hJ2 ?_
  refine c_seq (n:=0) (J:=fun _ a=>Co Try.prog Z 0 ((g.set (g.cnt+1) 0 false).fx Try.prog κL 0) a v) hJ2 ?_
  refine c_region (n:=0) (J:=fun _ a=>Co Try.prog Z 0 ((g.set (g.cnt+1) 0 false).fx Try.prog κL 0) a v) hJ2 [0,1] rfl ?_
  refine c_value (n:=0) (J:=fun _ a=>Co Try.prog Z 0 ((g.set (g.cnt+1) 0 false).fx Try.prog κL 0) a v) hJ2 (.int .i32 1) rfl rfl (by decide) (fun _=>by go_simp;try (first|decide|assumption|omega|(simp only[*];done)|simp[*])) (fun _=>by simp[go_sem, *]) ?_
  walk_nrm
  refine c_value (n:=0) (J:=fun _ a=>Co Try.prog Z 0 ((g.set (g.cnt+1) 0 false).fx Try.prog κL 0) a v) hJ2 (.bool false) rfl rfl (by decide) (fun _=>by go_simp;try (first|decide|assumption|omega|(simp only[*];done)|simp[*])) (fun _=>by simp[go_sem, *]) ?_
  walk_nrm
  refine c_region_end (n:=0) (J:=fun _ a=>Co Try.prog Z 0 ((g.set (g.cnt+1) 0 false).fx Try.prog κL 0) a v) hJ2 ?_
  refine c_cond (n:=0) (J:=fun _ a=>Co Try.prog Z 0 ((g.set (g.cnt+1) 0 false).fx Try.prog κL 0) a v) hJ2 false (by first|rfl|(simp[Act.eval, *])) ?_
  simp only[Bool.false_eq_true,↓reduceIte]
  refine c_skip (n:=0) (J:=fun _ a=>Co Try.prog Z 0 ((g.set (g.cnt+1) 0 false).fx Try.prog κL 0) a v) hJ2 ?_
  refine c_seq (n:=0) (J:=fun _ a=>Co Try.prog Z 0 ((g.set (g.cnt+1) 0 false).fx Try.prog κL 0) a v) hJ2 ?_
  refine c_seq (n:=0) (J:=fun _ a=>Co Try.prog Z 0 ((g.set (g.cnt+1) 0 false).fx Try.prog κL 0) a v) hJ2 ?_
  refine c_region (n:=0) (J:=fun _ a=>Co Try.prog Z 0 ((g.set (g.cnt+1) 0 false).fx Try.prog κL 0) a v) hJ2 [0,1,2,3,4,5,6,7,8,9,10,11] rfl ?_
  refine c_value (n:=0) (J:=fun _ a=>Co Try.prog Z 0 ((g.set (g.cnt+1) 0 false).fx Try.prog κL 0) a v) hJ2 (.int .u32 0) rfl rfl (by decide) (fun _=>by go_simp;try (first|decide|assumption|omega|(simp only[*];done)|simp[*])) (fun _=>by simp[go_sem, *]) ?_
  walk_nrm
  refine c_value (n:=0) (J:=fun _ a=>Co Try.prog Z 0 ((g.set (g.cnt+1) 0 false).fx Try.prog κL 0) a v) hJ2 (.bool false) rfl rfl (by decide) (fun _=>by go_simp;try (first|decide|assumption|omega|(simp only[*];done)|simp[*])) (fun _=>by simp[go_sem, *]) ?_
  walk_nrm
  refine c_value (n:=0) (J:=fun _ a=>Co Try.prog Z 0 ((g.set (g.cnt+1) 0 false).fx Try.prog κL 0) a v) hJ2 (.bool false) rfl rfl (by decide) (fun _=>by go_simp;try (first|decide|assumption|omega|(simp only[*];done)|simp[*])) (fun _=>by simp[go_sem, *]) ?_
  walk_nrm
  refine c_unwanted (n:=0) (J:=fun _ a=>Co Try.prog Z 0 ((g.set (g.cnt+1) 0 false).fx Try.prog κL 0) a v) hJ2 rfl rfl ?_
  walk_nrm
  refine c_unwanted (n:=0) (J:=fun _ a=>Co Try.prog Z 0 ((g.set (g.cnt+1) 0 false).fx Try.prog κL 0) a v) hJ2 rfl rfl ?_
  walk_nrm
  refine c_value (n:=0) (J:=fun _ a=>Co Try.prog Z 0 ((g.set (g.cnt+1) 0 false).fx Try.prog κL 0) a v) hJ2 (.bool false) rfl rfl (by decide) (fun _=>by go_simp;try (first|decide|assumption|omega|(simp only[*];done)|simp[*])) (fun _=>by simp[go_sem, *]) ?_
  walk_nrm
  refine c_value (n:=0) (J:=fun _ a=>Co Try.prog Z 0 ((g.set (g.cnt+1) 0 false).fx Try.prog κL 0) a v) hJ2 (.bool false) rfl rfl (by decide) (fun _=>by go_simp;try (first|decide|assumption|omega|(simp only[*];done)|simp[*])) (fun _=>by simp[go_sem, *]) ?_
  walk_nrm
  refine c_unwanted (n:=0) (J:=fun _ a=>Co Try.prog Z 0 ((g.set (g.cnt+1) 0 false).fx Try.prog κL 0) a v) hJ2 rfl rfl ?_
  walk_nrm
  refine c_unwanted (n:=0) (J:=fun _ a=>Co Try.prog Z 0 ((g.set (g.cnt+1) 0 false).fx Try.prog κL 0) a v) hJ2 rfl rfl ?_
  walk_nrm
  refine c_unwanted (n:=0) (J:=fun _ a=>Co Try.prog Z 0 ((g.set (g.cnt+1) 0 false).fx Try.prog κL 0) a v) hJ2 rfl rfl ?_
  walk_nrm
  refine c_unwanted (n:=0) (J:=fun _ a=>Co Try.prog Z 0 ((g.set (g.cnt+1) 0 false).fx Try.prog κL 0) a v) hJ2 rfl rfl ?_
  walk_nrm
  refine c_value (n:=0) (J:=fun _ a=>Co Try.prog Z 0 ((g.set (g.cnt+1) 0 false).fx Try.prog κL 0) a v) hJ2 (.bool false) rfl rfl (by decide) (fun _=>by go_simp;try (first|decide|assumption|omega|(simp only[*];done)|simp[*])) (fun _=>by simp[go_sem, *]) ?_
  walk_nrm
  refine c_region_end (n:=0) (J:=fun _ a=>Co Try.prog Z 0 ((g.set (g.cnt+1) 0 false).fx Try.prog κL 0) a v) hJ2 ?_
  refine c_cond (n:=0) (J:=fun _ a=>Co Try.prog Z 0 ((g.set (g.cnt+1) 0 false).fx Try.prog κL 0) a v) hJ2 false (by first|rfl|(simp[Act.eval, *])) ?_
  simp only[Bool.false_eq_true,↓reduceIte]
  refine c_skip (n:=0) (J:=fun _ a=>Co Try.prog Z 0 ((g.set (g.cnt+1) 0 false).fx Try.prog κL 0) a v) hJ2 ?_
  refine c_seq (n:=0) (J:=fun _ a=>Co Try.prog Z 0 ((g.set (g.cnt+1) 0 false).fx Try.prog κL 0) a v) hJ2 ?_
  refine c_seq (n:=0) (J:=fun _ a=>Co Try.prog Z 0 ((g.set (g.cnt+1) 0 false).fx Try.prog κL 0) a v) hJ2 ?_
  refine c_region (n:=0) (J:=fun _ a=>Co Try.prog Z 0 ((g.set (g.cnt+1) 0 false).fx Try.prog κL 0) a v) hJ2 [0,1,2,3,4,5] rfl ?_
  refine c_value (n:=0) (J:=fun _ a=>Co Try.prog Z 0 ((g.set (g.cnt+1) 0 false).fx Try.prog κL 0) a v) hJ2 (.int .i32 1) rfl rfl (by decide) (fun _=>by go_simp;try (first|decide|assumption|omega|(simp only[*];done)|simp[*])) (fun _=>by simp[go_sem, *]) ?_
  walk_nrm
  refine c_value (n:=0) (J:=fun _ a=>Co Try.prog Z 0 ((g.set (g.cnt+1) 0 false).fx Try.prog κL 0) a v) hJ2 (.bool true) rfl rfl (by decide) (fun _=>by go_simp;try (first|decide|assumption|omega|(simp only[*];done)|simp[*])) (fun _=>by simp[go_sem, *]) ?_
  walk_nrm
  refine c_value (n:=0) (J:=fun _ a=>Co Try.prog Z 0 ((g.set (g.cnt+1) 0 false).fx Try.prog κL 0) a v) hJ2 (.bool true) rfl rfl (by decide) (fun _=>by go_simp;try (first|decide|assumption|omega|(simp only[*];done)|simp[*])) (fun _=>by simp[go_sem, *]) ?_
  walk_nrm
  refine c_unwanted (n:=0) (J:=fun _ a=>Co Try.prog Z 0 ((g.set (g.cnt+1) 0 false).fx Try.prog κL 0) a v) hJ2 rfl rfl ?_
  walk_nrm
  refine c_unwanted (n:=0) (J:=fun _ a=>Co Try.prog Z 0 ((g.set (g.cnt+1) 0 false).fx Try.prog κL 0) a v) hJ2 rfl rfl ?_
  walk_nrm
  refine c_value (n:=0) (J:=fun _ a=>Co Try.prog Z 0 ((g.set (g.cnt+1) 0 false).fx Try.prog κL 0) a v) hJ2 (.bool true) rfl rfl (by decide) (fun _=>by go_simp;try (first|decide|assumption|omega|(simp only[*];done)|simp[*])) (fun _=>by simp[go_sem, *]) ?_
  walk_nrm
  refine c_region_end (n:=0) (J:=fun _ a=>Co Try.prog Z 0 ((g.set (g.cnt+1) 0 false).fx Try.prog κL 0) a v) hJ2 ?_
  refine c_cond (n:=0) (J:=fun _ a=>Co Try.prog Z 0 ((g.set (g.cnt+1) 0 false).fx Try.prog κL 0) a v) hJ2 true (by first|rfl|(simp[Act.eval, *])) ?_
  simp only[↓reduceIte]
  refine c_ret (n:=0) (J:=fun _ a=>Co Try.prog Z 0 ((g.set (g.cnt+1) 0 false).fx Try.prog κL 0) a v) hJ2 ?_
  refine co_ear (e:=true) hZ κL_ok hg2 hm0 hon rfl rfl (fun w=>unwind_enable rfl) ?_
  have hg3:(g.set (g.cnt+1) 0 true).Ok 0:=hg.set _ _ _ (by omega)
  have hJ3:=Co.calmly (v:=v) hZ (hg3.fx κL_ok)
  refine c_leave0 (n:=0) (J:=fun _ a=>Co Try.prog Z 0 ((g.set (g.cnt+1) 0 true).fx Try.prog κL 0) a v) hJ3 rfl rfl Try.func62 rfl ?_
  walk_nrm
  exact hT
 ·have hq:((N:Int)==1)=false:=by simp;omega
  have hq2:¬((N:Int)=1):=by omega
  refine c_value (n:=0) (J:=fun _ a=>Co Try.prog Z 0 ((g.set (g.cnt+1) 0 false).fx Try.prog κL 0) a v) hJ2 (.bool false) rfl rfl (by decide) (fun _=>by go_simp;try (first|decide|assumption|omega|(simp only[*];done)|simp[*])) (fun _=>by simp[go_sem, *]) ?_
  walk_nrm
  refine c_value (n:=0) (J:=fun _ a=>Co Try.prog Z 0 ((g.set (g.cnt+1) 0 false).fx Try.prog κL 0) a v) hJ2 (.bool false) rfl rfl (by decide) (fun _=>by go_simp;try (first|decide|assumption|omega|(simp only[*];done)|simp[*])) (fun _=>by simp[go_sem, *]) ?_
  walk_nrm
  refine c_region_end (n:=0) (J:=fun _ a=>Co Try.prog Z 0 ((g.set (g.cnt+1) 0 false).fx Try.prog κL 0) a v) hJ2 ?_
  refine c_cond (n:=0) (J:=fun _ a=>Co Try.prog Z 0 ((g.set (g.cnt+1) 0 false).fx Try.prog κL 0) a v) hJ2 false (by first|rfl|(simp[Act.eval, *])) ?_
  simp only[Bool.false_eq_true,↓reduceIte]
  refine c_skip (n:=0) (J:=fun _ a=>Co Try.prog Z 0 ((g.set (g.cnt+1) 0 false).fx Try.prog κL 0) a v) hJ2 ?_
  refine c_seq (n:=0) (J:=fun _ a=>Co Try.prog Z 0 ((g.set (g.cnt+1) 0 false).fx Try.prog κL 0) a v) hJ2 ?_
  refine c_seq (n:=0) (J:=fun _ a=>Co Try.prog Z 0 ((g.set (g.cnt+1) 0 false).fx Try.prog κL 0) a v) hJ2 ?_
  refine c_region (n:=0) (J:=fun _ a=>Co Try.prog Z 0 ((g.set (g.cnt+1) 0 false).fx Try.prog κL 0) a v) hJ2 [0,1] rfl ?_
  refine c_value (n:=0) (J:=fun _ a=>Co Try.prog Z 0 ((g.set (g.cnt+1) 0 false).fx Try.prog κL 0) a v) hJ2 (.int .i32 (N:Int)) rfl rfl (by decide) (fun _=>by go_simp;try (first|decide|assumption|omega|(simp only[*];done)|simp[*])) (fun _=>by simp[go_sem, *]) ?_
  walk_nrm
  refine c_value (n:=0) (J:=fun _ a=>Co Try.prog Z 0 ((g.set (g.cnt+1) 0 false).fx Try.prog κL 0) a v) hJ2 (.bool false) rfl rfl (by decide) (fun _=>by go_simp;try (first|decide|assumption|omega|(simp only[*];done)|simp[*])) (fun _=>by simp[go_sem, *]) ?_
  walk_nrm
  refine c_region_end (n:=0) (J:=fun _ a=>Co Try.prog Z 0 ((g.set (g.cnt+1) 0 false).fx Try.prog κL 0) a v) hJ2 ?_
  refine c_cond (n:=0) (J:=fun _ a=>Co Try.prog Z 0 ((g.set (g.cnt+1) 0 false).fx Try.prog κL 0) a v) hJ2 false (by first|rfl|(simp[Act.eval, *])) ?_
  simp only[Bool.false_eq_true,↓reduceIte]
  refine c_skip (n:=0) (J:=fun _ a=>Co Try.prog Z 0 ((g.set (g.cnt+1) 0 false).fx Try.prog κL 0) a v) hJ2 ?_
  refine c_seq (n:=0) (J:=fun _ a=>Co Try.prog Z 0 ((g.set (g.cnt+1) 0 false).fx Try.prog κL 0) a v) hJ2 ?_
  refine c_seq (n:=0) (J:=fun _ a=>Co Try.prog Z 0 ((g.set (g.cnt+1) 0 false).fx Try.prog κL 0) a v) hJ2 ?_
  refine c_region (n:=0) (J:=fun _ a=>Co Try.prog Z 0 ((g.set (g.cnt+1) 0 false).fx Try.prog κL 0) a v) hJ2 [0,1,2,3,4,5,6,7,8,9,10,11] rfl ?_
  refine c_value (n:=0) (J:=fun _ a=>Co Try.prog Z 0 ((g.set (g.cnt+1) 0 false).fx Try.prog κL 0) a v) hJ2 (.int .u32 0) rfl rfl (by decide) (fun _=>by go_simp;try (first|decide|assumption|omega|(simp only[*];done)|simp[*])) (fun _=>by simp[go_sem, *]) ?_
  walk_nrm
  refine c_value (n:=0) (J:=fun _ a=>Co Try.prog Z 0 ((g.set (g.cnt+1) 0 false).fx Try.prog κL 0) a v) hJ2 (.bool false) rfl rfl (by decide) (fun _=>by go_simp;try (first|decide|assumption|omega|(simp only[*];done)|simp[*])) (fun _=>by simp[go_sem, *]) ?_
  walk_nrm
  refine c_value (n:=0) (J:=fun _ a=>Co Try.prog Z 0 ((g.set (g.cnt+1) 0 false).fx Try.prog κL 0) a v) hJ2 (.bool false) rfl rfl (by decide) (fun _=>by go_simp;try (first|decide|assumption|omega|(simp only[*];done)|simp[*])) (fun _=>by simp[go_sem, *]) ?_
  walk_nrm
  refine c_unwanted (n:=0) (J:=fun _ a=>Co Try.prog Z 0 ((g.set (g.cnt+1) 0 false).fx Try.prog κL 0) a v) hJ2 rfl rfl ?_
  walk_nrm
  refine c_unwanted (n:=0) (J:=fun _ a=>Co Try.prog Z 0 ((g.set (g.cnt+1) 0 false).fx Try.prog κL 0) a v) hJ2 rfl rfl ?_
  walk_nrm
  refine c_value (n:=0) (J:=fun _ a=>Co Try.prog Z 0 ((g.set (g.cnt+1) 0 false).fx Try.prog κL 0) a v) hJ2 (.bool false) rfl rfl (by decide) (fun _=>by go_simp;try (first|decide|assumption|omega|(simp only[*];done)|simp[*])) (fun _=>by simp[go_sem, *]) ?_
  walk_nrm
  refine c_value (n:=0) (J:=fun _ a=>Co Try.prog Z 0 ((g.set (g.cnt+1) 0 false).fx Try.prog κL 0) a v) hJ2 (.bool false) rfl rfl (by decide) (fun _=>by go_simp;try (first|decide|assumption|omega|(simp only[*];done)|simp[*])) (fun _=>by simp[go_sem, *]) ?_
  walk_nrm
  refine c_unwanted (n:=0) (J:=fun _ a=>Co Try.prog Z 0 ((g.set (g.cnt+1) 0 false).fx Try.prog κL 0) a v) hJ2 rfl rfl ?_
  walk_nrm
  refine c_unwanted (n:=0) (J:=fun _ a=>Co Try.prog Z 0 ((g.set (g.cnt+1) 0 false).fx Try.prog κL 0) a v) hJ2 rfl rfl ?_
  walk_nrm
  refine c_unwanted (n:=0) (J:=fun _ a=>Co Try.prog Z 0 ((g.set (g.cnt+1) 0 false).fx Try.prog κL 0) a v) hJ2 rfl rfl ?_
  walk_nrm
  refine c_unwanted (n:=0) (J:=fun _ a=>Co Try.prog Z 0 ((g.set (g.cnt+1) 0 false).fx Try.prog κL 0) a v) hJ2 rfl rfl ?_
  walk_nrm
  refine c_value (n:=0) (J:=fun _ a=>Co Try.prog Z 0 ((g.set (g.cnt+1) 0 false).fx Try.prog κL 0) a v) hJ2 (.bool false) rfl rfl (by decide) (fun _=>by go_simp;try (first|decide|assumption|omega|(simp only[*];done)|simp[*])) (fun _=>by simp[go_sem, *]) ?_
  walk_nrm
  refine c_region_end (n:=0) (J:=fun _ a=>Co Try.prog Z 0 ((g.set (g.cnt+1) 0 false).fx Try.prog κL 0) a v) hJ2 ?_
  refine c_cond (n:=0) (J:=fun _ a=>Co Try.prog Z 0 ((g.set (g.cnt+1) 0 false).fx Try.prog κL 0) a v) hJ2 false (by first|rfl|(simp[Act.eval, *])) ?_
  simp only[Bool.false_eq_true,↓reduceIte]
  refine c_skip (n:=0) (J:=fun _ a=>Co Try.prog Z 0 ((g.set (g.cnt+1) 0 false).fx Try.prog κL 0) a v) hJ2 ?_
  refine c_seq (n:=0) (J:=fun _ a=>Co Try.prog Z 0 ((g.set (g.cnt+1) 0 false).fx Try.prog κL 0) a v) hJ2 ?_
  refine c_seq (n:=0) (J:=fun _ a=>Co Try.prog Z 0 ((g.set (g.cnt+1) 0 false).fx Try.prog κL 0) a v) hJ2 ?_
  refine c_region (n:=0) (J:=fun _ a=>Co Try.prog Z 0 ((g.set (g.cnt+1) 0 false).fx Try.prog κL 0) a v) hJ2 [0,1,2,3,4,5] rfl ?_
  refine c_value (n:=0) (J:=fun _ a=>Co Try.prog Z 0 ((g.set (g.cnt+1) 0 false).fx Try.prog κL 0) a v) hJ2 (.int .i32 (N:Int)) rfl rfl (by decide) (fun _=>by go_simp;try (first|decide|assumption|omega|(simp only[*];done)|simp[*])) (fun _=>by simp[go_sem, *]) ?_
  walk_nrm
  refine c_value (n:=0) (J:=fun _ a=>Co Try.prog Z 0 ((g.set (g.cnt+1) 0 false).fx Try.prog κL 0) a v) hJ2 (.bool true) rfl rfl (by decide) (fun _=>by go_simp;try (first|decide|assumption|omega|(simp only[*];done)|simp[*])) (fun _=>by simp[go_sem, *]) ?_
  walk_nrm
  refine c_value (n:=0) (J:=fun _ a=>Co Try.prog Z 0 ((g.set (g.cnt+1) 0 false).fx Try.prog κL 0) a v) hJ2 (.bool true) rfl rfl (by decide) (fun _=>by go_simp;try (first|decide|assumption|omega|(simp only[*];done)|simp[*])) (fun _=>by simp[go_sem, *]) ?_
  walk_nrm
  refine c_unwanted (n:=0) (J:=fun _ a=>Co Try.prog Z 0 ((g.set (g.cnt+1) 0 false).fx Try.prog κL 0) a v) hJ2 rfl rfl ?_
  walk_nrm
  refine c_unwanted (n:=0) (J:=fun _ a=>Co Try.prog Z 0 ((g.set (g.cnt+1) 0 false).fx Try.prog κL 0) a v) hJ2 rfl rfl ?_
  walk_nrm
  refine c_value (n:=0) (J:=fun _ a=>Co Try.prog Z 0 ((g.set (g.cnt+1) 0 false).fx Try.prog κL 0) a v) hJ2 (.bool true) rfl rfl (by decide) (fun _=>by go_simp;try (first|decide|assumption|omega|(simp only[*];done)|simp[*])) (fun _=>by simp[go_sem, *]) ?_
  walk_nrm
  refine c_region_end (n:=0) (J:=fun _ a=>Co Try.prog Z 0 ((g.set (g.cnt+1) 0 false).fx Try.prog κL 0) a v) hJ2 ?_
  refine c_cond (n:=0) (J:=fun _ a=>Co Try.prog Z 0 ((g.set (g.cnt+1) 0 false).fx Try.prog κL 0) a v) hJ2 true (by first|rfl|(simp[Act.eval, *])) ?_
  simp only[↓reduceIte]
  refine c_ret (n:=0) (J:=fun _ a=>Co Try.prog Z 0 ((g.set (g.cnt+1) 0 false).fx Try.prog κL 0) a v) hJ2 ?_
  refine co_ear (e:=true) hZ κL_ok hg2 hm0 hon rfl rfl (fun w=>unwind_enable rfl) ?_
  have hg3:(g.set (g.cnt+1) 0 true).Ok 0:=hg.set _ _ _ (by omega)
  have hJ3:=Co.calmly (v:=v) hZ (hg3.fx κL_ok)
  refine c_leave0 (n:=0) (J:=fun _ a=>Co Try.prog Z 0 ((g.set (g.cnt+1) 0 true).fx Try.prog κL 0) a v) hJ3 rfl rfl Try.func62 rfl ?_
  walk_nrm
  exact hT
end Co
end Go.Proofs.Ytlngbdggehghgaa
