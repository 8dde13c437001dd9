/-
  Walks of the document's world: wait, Enabled. Conditions: as each theorem says.
-/
import Derived.Test.YtlngbdggehghgaaScG
namespace Go.Proofs.Ytlngbdggehghgaa
set_option linter.unusedSimpArgs false
set_option linter.unusedVariables false
open Go.RowKit
def De.cells (d:De):List Value:=[.int .u8 d.wait,.int .u8 d.obj,.int .u8 d.turn,.int .u8 d.beg]
structure De.Ok (d:De):Prop where
 wait:0≤d.wait∧d.wait<256
 obj:0≤d.obj∧d.obj<256
 turn:0≤d.turn∧d.turn<256
 beg:0≤d.beg∧d.beg<256
def deR:Rep De where
 size:=4
 is _ cs d:=cs=d.cells∧d.Ok
 len h:=by rw[h.1];rfl
 one h:=by rw[h.1];simp[De.cells,Value.oneCell']
 up _ h:=h
theorem deR_flat:deR.flat:=fun _ _ _ _ h=>h
def waitS (d:De):Wa:=if d.wait%8=3 then⟨4,d.obj%8,0⟩ else if d.wait%8=4 then⟨3,d.obj%8,0⟩ else if d.wait%8=5 then⟨1,d.obj%20,0⟩ else if d.wait%8=6 then⟨2,0,0⟩ else if d.wait%8=7 then⟨5,0,9⟩ else⟨0,0,0⟩
set_option maxHeartbeats 1000000 in
theorem wait_any (d:De) (hd:d.Ok) (w:World):Calls Try.prog 86 #[.agg d.cells.toArray] w fun e w'=>e=.returned (.agg (waitS d).cells.toArray)∧Below w.heap.size w w':=by
 obtain⟨⟨a1,a2⟩,⟨b1,b2⟩,_,_⟩:=hd
 simp only[De.cells,waitS]
 by_cases h3:d.wait%8=3
 ·rw[if_pos h3]
  go_enter Try.func86,Try.ntmps86
  go_wp2_with fail
  refine bodyPost_ret (v:=.agg #[.int .i64 4,.int .i64 (d.obj%8),.int .i64 0]) (by first|(simp[results,Try.results86,go_sem];done)|kernel_rfl) rfl ⟨rfl,bal (ba _ _)⟩
 rw[if_neg h3]
 by_cases h4:d.wait%8=4
 ·rw[if_pos h4]
  go_enter Try.func86,Try.ntmps86
  go_wp2_with fail
  refine bodyPost_ret (v:=.agg #[.int .i64 3,.int .i64 (d.obj%8),.int .i64 0]) (by first|(simp[results,Try.results86,go_sem];done)|kernel_rfl) rfl ⟨rfl,bal (ba _ _)⟩
 rw[if_neg h4]
 by_cases h5:d.wait%8=5
 ·rw[if_pos h5]
  go_enter Try.func86,Try.ntmps86
  go_wp2_with fail
  refine bodyPost_ret (v:=.agg #[.int .i64 1,.int .i64 (d.obj%20),.int .i64 0]) (by first|(simp[results,Try.results86,go_sem];done)|kernel_rfl) rfl ⟨rfl,bal (ba _ _)⟩
 rw[if_neg h5]
 by_cases h6:d.wait%8=6
 ·rw[if_pos h6]
  go_enter Try.func86,Try.ntmps86
  go_wp2_with fail
  refine bodyPost_ret (v:=.agg #[.int .i64 2,.int .i64 0,.int .i64 0]) (by first|(simp[results,Try.results86,go_sem];done)|kernel_rfl) rfl ⟨rfl,bal (ba _ _)⟩
 rw[if_neg h6]
 by_cases h7:d.wait%8=7
 ·rw[if_pos h7]
  go_enter Try.func86,Try.ntmps86
  go_wp2_with fail
  refine bodyPost_ret (v:=.agg #[.int .i64 5,.int .i64 0,.int .i64 9]) (by first|(simp[results,Try.results86,go_sem];done)|kernel_rfl) rfl ⟨rfl,bal (ba _ _)⟩
 rw[if_neg h7]
 go_enter Try.func86,Try.ntmps86
 go_wp2_with fail
 refine bodyPost_ret (v:=.agg #[.int .i64 0,.int .i64 0,.int .i64 0]) (by first|(simp[results,Try.results86,go_sem];done)|kernel_rfl) rfl ⟨rfl,bal (ba _ _)⟩
def flV (fs:List Bool):List Value:=fs.map .bool
set_option maxHeartbeats 1000000 in
theorem enabled_any2 {b:Nat} {kv gv rv wv nv:Value} (fs:List Bool) (hf:fs.length=8) {w:World} (hb:Cells w b (kv::(flV fs++[gv,rv,wv,nv]))) (t:Tk) (q:Wa) (h0:0≤q.obj):
 Calls Try.prog 87 #[.pointer (some ⟨b,0,none⟩),.agg t.cells.toArray,.agg q.cells.toArray] w fun e w'=>e=.returned (.bool (if q.kind=4 then(fs[(q.obj%8).toNat]?).getD false else if q.kind=3 then !(fs[(q.obj%8).toNat]?).getD false else false))∧Below w.heap.size w w':=by
 obtain⟨m,hm⟩:∃m:Nat,q.obj%8=(m:Int):=⟨(q.obj%8).toNat,by omega⟩
 have hm8:m<8:=by omega
 have hlt:m<fs.length:=by omega
 have hc:w.cell? ⟨b,1+m,none⟩=some (.bool fs[m]):=by
  refine hb.c (1+m) _ ?_
  rw[show 1+m=m+1 by omega,List.getElem?_cons_succ,List.getElem?_append_left (by simp[flV];omega)]
  simp[flV,List.getElem?_map,List.getElem?_eq_getElem hlt]
 have hbl:=hb.lt
 rw[hm,Int.toNat_natCast,List.getElem?_eq_getElem hlt,Option.getD_some]
 generalize fs[m]=f at hc
 simp only[Tk.cells,Wa.cells]
 clear hb hlt hf
 by_cases h4:q.kind=4
 ·rw[if_pos h4]
  go_enter Try.func87,Try.ntmps87
  go_wp2_with fail
  go_quiet (fail)
  go_wp2_with fail
  go_ret
  exact⟨rfl,bdN (bal (ba _ _)) _⟩
 rw[if_neg h4]
 by_cases h3:q.kind=3
 ·rw[if_pos h3]
  go_enter Try.func87,Try.ntmps87
  go_wp2_with fail
  go_quiet (fail)
  go_wp2_with fail
  go_ret
  exact⟨rfl,bdN (bal (ba _ _)) _⟩
 rw[if_neg h3]
 go_enter Try.func87,Try.ntmps87
 go_wp2_with fail
 go_ret
 exact⟨rfl,bal (ba _ _)⟩
end Go.Proofs.Ytlngbdggehghgaa
