/-
  Walks of groundlingref15.Ints and groundlingref15.Same at equal arguments; cells that read as a list. Conditions: as each theorem says.
  Walks of groundlinglaw23.Venue, example, same. Conditions: none.
  Walks of groundlinglaw23.same and groundlingref23.Same at equal arguments. Conditions: as each theorem says.
  Walk of groundlinglaw23.shown: the examples of the document. Conditions: the pinned table lies where it was laid.
-/
import Derived.Test.YtlckmjiioohcmaaGreatDoorVnI
import Derived.BigRegion
import Derived.Deep.CutRange
import Derived.Test.YtlckmjiioohcmaaGreatDoorLib
import Derived.Test.YtlckmjiioohcmaaGreatDoorMdY
import Derived.BigQuiet
namespace Go.Proofs.YtlckmjiioohcmaaGreatDoor
open Go.RowKit
theorem Sl.cap {α:Type} {R:Rep α} {w:World} {A:Option Addr} {n c:Nat} {xs:List α} (h:Sl R w (.slice A n c) xs):xs.length≤c∧c≤9223372036854775807:=by
 obtain⟨A',c',he,hc,hm,_⟩:=h
 injection he with e1 e2 e3
 subst e3
 exact⟨hc,hm⟩
theorem eq_of_at {α:Type} {xs ys:List α} (hl:xs.length=ys.length) (h:∀j,(h1:j<xs.length)→(h2:j<ys.length)→xs[j]=ys[j]):xs=ys:=List.ext_getElem hl h
theorem Cells.sl {α:Type} {R:Rep α} {W:World} {g n:Nat} {cells:List Value} {xs:List α} (h:Cells W g cells) (hm:R.many W cells xs) (hn:n=xs.length) (hs:n≤1000000):Sl R W (.slice (some ⟨g,0,none⟩) n n) xs:=by
 subst hn
 refine⟨_,_,rfl,Nat.le_refl _,by omega,.inr ⟨g,0,rfl,h.lt,fun i x hi=> ?_⟩⟩
 obtain⟨cs,h1,h2⟩:=R.many_at hm hi
 exact⟨cs,h1,fun j u hu=>by rw[Nat.zero_add];exact h.c _ u (h2 j u hu)⟩
theorem Cells.new' (w:World) (cs:List Value) (t:TypeId) (g:Nat) (hg:g=w.heap.size):Cells (w.alloc (.cells cs.toArray t)) g cs:=hg▸Cells.new w cs t
def VePost (w:World) (x:Ve) (e:Ending) (w':World):Prop:=∃V vc,e=.returned (.agg #[.int .i64 x.shards,.int .i64 x.ttl,.int .i64 x.session,.slice V x.secs.length vc])∧Sl secR w' (.slice V x.secs.length vc) x.secs∧Below w.heap.size w w'
end Go.Proofs.YtlckmjiioohcmaaGreatDoor
namespace Go.Proofs.YtlckmjiioohcmaaGreatDoor
open Go.RowKit
end Go.Proofs.YtlckmjiioohcmaaGreatDoor
namespace Go.Proofs.YtlckmjiioohcmaaGreatDoor
open Go.RowKit
end Go.Proofs.YtlckmjiioohcmaaGreatDoor
namespace Go.Proofs.YtlckmjiioohcmaaGreatDoor
open Go.RowKit
end Go.Proofs.YtlckmjiioohcmaaGreatDoor
