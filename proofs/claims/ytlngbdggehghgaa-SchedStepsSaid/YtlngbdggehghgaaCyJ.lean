/-
  What the laws of plans begin with. Conditions: as each theorem says.
-/
import Derived.Test.YtlngbdggehghgaaCyG
import Derived.Test.YtlngbdggehghgaaCyA
namespace Go.Proofs.Ytlngbdggehghgaa
set_option linter.unusedSimpArgs false
set_option linter.unusedVariables false
namespace Co
open Go.Conc Go.RowKit
structure LawP (v:World) (p:Pn) (kv fv pv:Value) (pk:List Int):Prop where
 pn:PnAt v p kv fv
 sl:∀w,Kp v.heap.size v w→Sl intR w pv pk
 kb:∀k∈pk,Bd k
 fn:∀f∈p.fs,0≤f
 ka:farS p=false→newE (firstS p).length p.most=0→KindsAt v kv p.ks∧DeedsOk p.ks
theorem LawP.played {Z:Goal} {g:Gh} {v0 v:World} {p:Pn} {kv fv pv:Value} {pk:List Int} (H:LawP v0 p kv fv pv pk) (hZ:Z.Ok Try.prog) (L:Lone g) (c:Chg (fun _=>False) v0 v):
 Calls Try.prog Z 0 (g.fx Try.prog κL 0) 10 #[.agg #[kv,fv,.int .i64 p.most],pv] v (PlQ v0 p kv pk v):=
 played_co hZ L ((Kp.refl v0).still c) ⟨H.pn.ks.chgK c,H.pn.fs.chg byR_flat c (fun _ _=>id)⟩ H.sl H.kb H.fn H.ka
theorem pl_ok {p:Pn} {pk:List Int} (h:plBad p pk=false):farS p=false∧pk.length≤100∧newE (firstS p).length p.most=0:=by
 simp[plBad] at h
 exact⟨h.1.1,h.1.2,h.2⟩
theorem PlQ.bad {v0 v v':World} {p:Pn} {kv e:Value} {pk:List Int} {X':Fx} (h:PlQ v0 p kv pk v e X' v') (hb:plBad p pk=true):e=.tuple #[.pointer none,.pointer none]∧(∃g',X'=g'.fx Try.prog κL 0∧Lone g')∧Chg (fun _=>False) v v':=by
 unfold PlQ at h
 rw[if_pos hb] at h
 exact h
def plS (D:Wd) (p:Pn) (pk:List Int):SS:=(pksS D pk (begS (S0 p.most) (firstS p)) (rw0 p.ks)).1
def plX (D:Wd) (p:Pn) (pk:List Int):RW:=(pksS D pk (begS (S0 p.most) (firstS p)) (rw0 p.ks)).2
theorem PlQ.good {v0 v v':World} {p:Pn} {kv fv pv e:Value} {pk:List Int} {X':Fx} (H:LawP v0 p kv fv pv pk) (h:PlQ v0 p kv pk v e X' v') (hb:plBad p pk=false):
 ∃(s b:Nat) (B:Nat) (g':Gh) (bs:List Nat) (M:Nat→Prop),e=.tuple #[.pointer (some ⟨s,0,none⟩),.pointer (some ⟨b,0,none⟩)]∧X'=g'.fx Try.prog κL 0∧Wd.Ok (DW v0 b kv p.ks)∧
  Liv (DW v0 b kv p.ks) B g' s bs (plS (DW v0 b kv p.ks) p pk) (plX (DW v0 b kv p.ks) p pk) M v'∧(plS (DW v0 b kv p.ks) p pk).closed=false∧Chg (fun _=>False) v v'∧∀k,M k→k<v0.heap.size∨v.heap.size≤k:=by
 unfold PlQ at h
 rw[if_neg (by rw[hb];decide)] at h
 obtain⟨s,b,B,g',bs,M,e1,e2,hL,c,hM⟩:=h
 obtain⟨hf,_,hn⟩:=pl_ok hb
 obtain⟨k1,k2⟩:=H.ka hf hn
 refine⟨s,b,B,g',bs,M,e1,e2,DW_ok k1 k2 (by have:=(far_ok hf).1;omega),hL, ?_,c,hM⟩
 unfold plS
 rw[pksS_closed,(begS_closed _ _).1]
 rfl
theorem DW_kp {v0 v:World} {b:Nat} {kv:Value} {ks:List (List De)} {x:RW} {F:Nat→Prop} (h:(DW v0 b kv ks).mem x F v):Kp v0.heap.size v0 v:=by
 obtain⟨_,_,_,_,_,hk,_⟩:=h
 exact hk
theorem Liv.kp {v0 v:World} {b:Nat} {kv:Value} {ks:List (List De)} {B s:Nat} {g:Gh} {bs:List Nat} {S:SS} {x:RW} {M:Nat→Prop} (h:Liv (DW v0 b kv ks) B g s bs S x M v):Kp v0.heap.size v0 v:=by
 obtain⟨_,_,F,_,hm,_⟩:=h.sm
 exact DW_kp hm
theorem SchC.kp {v0 v:World} {b:Nat} {kv:Value} {ks:List (List De)} {B s:Nat} {bs:List Nat} {S:SS} {x:RW} {M:Nat→Prop} (h:SchC (DW v0 b kv ks) B s bs S x M v):Kp v0.heap.size v0 v:=by
 obtain⟨_,_,F,_,hm,_⟩:=h
 exact DW_kp hm
structure Pl (D:Wd) (s B:Nat) (bs:List Nat) (tv uv:Value) (S:SS) (x:RW) (u:World):Prop where
 sm:SM D.o B s bs tv uv S u
 en:EnOk D.o x u
 obj:∀r∈S.rs,0≤r.wait.obj
theorem Liv.pl {D:Wd} (hD:Wd.Ok D) {B s:Nat} {g:Gh} {bs:List Nat} {S:SS} {x:RW} {M:Nat→Prop} {v u:World} (h:Liv D B g s bs S x M v) (c:Chg (fun _=>False) v u):∃tv uv,Pl D s B bs tv uv S x u:=by
 obtain⟨tv,uv,F,h1,h2,h3⟩:=h.sm
 exact⟨tv,uv,h1.chg c (fun _ _=>id),hD.en (hD.keep h2 c (fun _ _=>id)),hD.obj h3⟩
theorem Pl.up {D:Wd} {s B:Nat} {bs:List Nat} {tv uv:Value} {S:SS} {x:RW} {u w:World} (h:Pl D s B bs tv uv S x u) (hb:Below u.heap.size u w):Pl D s B bs tv uv S x w:=
 ⟨h.sm.up hb,fun W hW=>h.en W (hb.trans (hW.mono hb.size)),h.obj⟩
end Co
end Go.Proofs.Ytlngbdggehghgaa
