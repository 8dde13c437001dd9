/-
  Words for the walk of SchedSteps: structs compared, lists of waits made, one number of a task written. Conditions: as each theorem says.
-/
import Derived.Test.YtlngbdggehghgaaCyW
namespace Go.Proofs.Ytlngbdggehghgaa
set_option linter.unusedSimpArgs false
set_option linter.unusedVariables false
open Go.RowKit
theorem setCell_self {w:World} {b i:Nat} {x:Value} (h:w.cell? ⟨b,i,none⟩=some x):w.setCell ⟨b,i,none⟩ x=w:=by
 unfold World.cell? at h
 cases ho:w.heap[b]? with
 |none=>rw[ho] at h;cases h
 |some o=>
  rw[ho] at h
  cases o<;>try (cases h;done)
  rename_i c e f
  have hb:b<w.heap.size:=(Array.getElem?_eq_some_iff.1 ho).1
  have hc:c[i]?=some x:=by simpa using h
  have hx:c.setIfInBounds i x=c:=by
   apply Array.ext_getElem?
   intro j
   rw[Array.getElem?_setIfInBounds]
   split
   ·rename_i e2
    subst e2
    rw[hc,if_pos (Array.getElem?_eq_some_iff.1 hc).1]
   ·rfl
  unfold World.setCell
  cases w
  simp only[World.mk.injEq,and_true,true_and]
  apply Array.ext_getElem?
  intro j
  rw[Array.getElem?_modify]
  split
  ·rename_i e2
   subst e2
   simp only at ho
   rw[ho]
   simp[hx]
  ·rfl
theorem putAt_self {g:Nat}:∀(us:List Value) {w:World} {off:Nat},(∀j u,us[j]?=some u→w.cell? ⟨g,off+j,none⟩=some u)→putAt w g off us=w
 |[],_,_,_=>rfl
 |u::us,w,off,h=>by
  have h0:=h 0 u rfl
  rw[putAt,setCell_self (by simpa using h0)]
  exact putAt_self us fun j v hv=>by have:=h (j+1) v hv;rwa[show off+(j+1)=off+1+j by omega] at this
theorem setCell_cell {w:World} {g i j:Nat} {x:Value} (h:i≠j):(w.setCell ⟨g,i,none⟩ x).cell? ⟨g,j,none⟩=w.cell? ⟨g,j,none⟩:=
 World.cell?_setCell_other w _ _ _ (fun e=>by injection e with e1 e2;omega)
def Tk.num (t:Tk) (z:Int):Tk:=⟨z,t.kind,t.pc,t.a,t.b,t.c,t.d⟩
theorem Own.num {e B g cap n k:Nat} {w:World} {ys:List Tk} (h:Own tkR e B w (.slice (some ⟨g,0,none⟩) n cap) ys) (hk:k<ys.length) (z:Int):
 Own tkR e B (w.setCell ⟨g,k*7,none⟩ (.int .i64 z)) (.slice (some ⟨g,0,none⟩) n cap) (ys.set k (ys[k].num z))∧w.grownBy (w.setCell ⟨g,k*7,none⟩ (.int .i64 z)) (some g):=by
 obtain⟨cs,h1,h2,_⟩:=h.cell_ hk
 have h1:cs=ys[k].cells:=h1
 generalize ys[k]=t at h1
 subst h1
 have hp:=h.put hk (x:=t.num z) (cs:=(t.num z).cells) rfl (fun _ _ _ _ h=>h)
 have e':putAt w g (k*tkR.size) (t.num z).cells=w.setCell ⟨g,k*7,none⟩ (.int .i64 z):=by
  have e7:tkR.size=7:=rfl
  rw[e7] at h2⊢
  generalize k*7=q at h2⊢
  rw[show(t.num z).cells=.int .i64 z::[.int .i64 t.kind,.int .i64 t.pc,.int .i64 t.a,.int .i64 t.b,.int .i64 t.c,.int .i64 t.d] from rfl,putAt]
  refine putAt_self _ fun j u hu=> ?_
  rw[setCell_cell (by omega)]
  have h3:=h2 (j+1) u (by rw[Tk.cells,List.getElem?_cons_succ];exact hu)
  rw[show q+(j+1)=q+1+j by omega] at h3
  exact h3
 rw[e'] at hp
 exact hp
theorem neq_wa (a d:Wa) (w:World):(binOp .neq 37 (.agg #[.int .i64 a.kind,.int .i64 a.obj,.int .i64 a.til]) (.agg #[.int .i64 d.kind,.int .i64 d.obj,.int .i64 d.til])).run Try.prog w=.ok (.bool (!decide (a=d))) w:=by
 rw[run_neq_struct]
 go_simp
 obtain⟨k,o,u⟩:=a
 obtain⟨k',o',u'⟩:=d
 simp only[Wa.mk.injEq]
 by_cases h2:k=k'
 ·by_cases h3:o=o'
  ·by_cases h4:u=u'
   ·simp[h2,h3,h4]
   ·simp[h2,h3,h4]
  ·simp[h2,h3]
 ·simp[h2]
theorem neq_tk (a d:Tk) (w:World):(binOp .neq 35 (.agg #[.int .i64 a.id,.int .i64 a.kind,.int .i64 a.pc,.int .i64 a.a,.int .i64 a.b,.int .i64 a.c,.int .i64 a.d]) (.agg #[.int .i64 d.id,.int .i64 d.kind,.int .i64 d.pc,.int .i64 d.a,.int .i64 d.b,.int .i64 d.c,.int .i64 d.d])).run Try.prog w=.ok (.bool (!decide (a=d))) w:=by
 rw[run_neq_struct]
 go_simp
 obtain⟨a1,a2,a3,a4,a5,a6,a7⟩:=a
 obtain⟨d1,d2,d3,d4,d5,d6,d7⟩:=d
 simp only[Tk.mk.injEq]
 by_cases h1:a1=d1
 ·by_cases h2:a2=d2
  ·by_cases h3:a3=d3
   ·by_cases h4:a4=d4
    ·by_cases h5:a5=d5
     ·by_cases h6:a6=d6
      ·by_cases h7:a7=d7
       ·simp[h1,h2,h3,h4,h5,h6,h7]
       ·simp[h1,h2,h3,h4,h5,h6,h7]
      ·simp[h1,h2,h3,h4,h5,h6]
     ·simp[h1,h2,h3,h4,h5]
    ·simp[h1,h2,h3,h4]
   ·simp[h1,h2,h3]
  ·simp[h1,h2]
 ·simp[h1]
theorem info_wa:(Try.prog.info? 37).map (fun i=>(i.zero,i.size,i.bytes))=some (some (.agg #[.int .i64 0,.int .i64 0,.int .i64 0]),3,24):=by kernel_rfl
def zeroWa:Array Value:=#[.int .i64 0,.int .i64 0,.int .i64 0]
def wa0:Wa:=⟨0,0,0⟩
theorem mk_wa (k:Nat) (hk:k≤1000000) (w:World):(Instr.makeSlice 74 (.int .i64 (k:Int)) (.int .i64 (k:Int))).run Try.prog w=.ok (.slice (some ⟨w.heap.size,0,none⟩) k k) (w.alloc (.cells (madeCells zeroWa (k*3)) 37)):=by
 obtain⟨i,hi,hz,hs,hb⟩:=info_parts info_wa
 have h:=run_make (P:=Try.prog) w 74 37 i _ Try.underlying74 hi hz .i64 .i64 k k (by omega) (Int.le_refl _) (by rw[hb];omega) (by omega)
 rw[h,hs]
 simp only[Int.toNat_natCast]
 rfl
theorem many_wa0 (w:World):∀k:Nat,waR.many w ((List.range (k*3)).map fun i=>zeroWa[i%3]!) (List.replicate k wa0)
 |0=>by simp[Rep.many]
 |k+1=>by
  refine⟨zeroWa.toList,_, ?_, ?_,many_wa0 w k⟩
  ·rw[show(k+1)*3=3+k*3 by omega,List.range_add,List.map_append,List.map_map]
   congr 1
   apply List.map_congr_left
   intro i _
   simp
  ·rfl
theorem made_wa (n:Nat):(madeCells zeroWa n).toList=(List.range n).map fun i=>zeroWa[i%3]!:=by
 simp only[madeCells,Array.toList_map,Array.toList_range]
 rfl
theorem own_wa0 (w:World) (k:Nat) (hk:k≤1000000):Own waR 37 w.heap.size (w.alloc (.cells (madeCells zeroWa (k*3)) 37)) (.slice (some ⟨w.heap.size,0,none⟩) k k) (List.replicate k wa0):=by
 have h:=Own.lit (R:=waR) (e:=37) (B:=w.heap.size) (g:=w.heap.size) (n:=k) (w:=w) (cells:=(madeCells zeroWa (k*3)).toList) (xs:=List.replicate k wa0) rfl (Nat.le_refl _)
  (by rw[made_wa];exact many_wa0 _ k) (by simp) hk
 simpa using h
def numK (l:List Tk) (k:Nat):List Tk:=l.mapIdx fun i t=>if i<k then t.num ((i:Int)+1) else t
theorem numK_zero (l:List Tk):numK l 0=l:=by
 unfold numK
 apply List.ext_getElem?
 intro j
 rw[List.getElem?_mapIdx]
 cases l[j]?<;>simp
theorem numK_all (l:List Tk):numK l l.length=Co.numT l:=by
 unfold numK Co.numT
 apply List.ext_getElem?
 intro j
 rw[List.getElem?_mapIdx,List.getElem?_mapIdx]
 by_cases hj:j<l.length
 ·rw[List.getElem?_eq_getElem hj,Option.map_some,Option.map_some,if_pos hj];rfl
 ·rw[List.getElem?_eq_none (by omega)];rfl
theorem numK_len (l:List Tk) (k:Nat):(numK l k).length=l.length:=by simp[numK]
theorem numK_next {l:List Tk} {k:Nat} (hk:k<(numK l k).length):(numK l k).set k ((numK l k)[k].num ((k:Int)+1))=numK l (k+1):=by
 have hkl:k<l.length:=by rw[numK_len] at hk;exact hk
 have e0:(numK l k)[k]?=some l[k]:=by
  unfold numK
  rw[List.getElem?_mapIdx,List.getElem?_eq_getElem hkl,Option.map_some,if_neg (by omega)]
 have e1:(numK l k)[k]=l[k]:=by rw[List.getElem?_eq_getElem hk] at e0;exact Option.some.inj e0
 rw[e1]
 apply List.ext_getElem?
 intro j
 rw[List.getElem?_set]
 by_cases e:k=j
 ·subst e
  rw[if_pos rfl,if_pos hk]
  unfold numK
  rw[List.getElem?_mapIdx,List.getElem?_eq_getElem hkl,Option.map_some,if_pos (by omega)]
 ·rw[if_neg e]
  unfold numK
  rw[List.getElem?_mapIdx,List.getElem?_mapIdx]
  cases l[j]? with
  |none=>rfl
  |some t=>
   rw[Option.map_some,Option.map_some]
   by_cases h:j<k
   ·rw[if_pos h,if_pos (by omega)]
   ·rw[if_neg h,if_neg (by omega)]
end Go.Proofs.Ytlngbdggehghgaa
