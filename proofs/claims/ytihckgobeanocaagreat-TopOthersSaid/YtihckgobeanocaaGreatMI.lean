import Derived.WideMake
import Derived.Test.YtihckgobeanocaaGreatMD
/- A part of the proof of the rows TopChoices and TopOthers: no conditions. -/
set_option linter.all false
set_option maxRecDepth 100000
set_option maxHeartbeats 0
namespace Go.Proofs.YtihckgobeanocaaGreat
open Go.RowKit Go.Proofs.Tryz
open eJ
open Obj renaming cells->aj
open Value renaming slice->ai,int->ae,pointer->aV,bool->aD
open IntKind renaming i64->ah
open Ending renaming returned->aG
open Go renaming Addr->ao,Calls->ag,Ending->aR,TypeId->aq,Value->ad,World->ab
open Go.RowKit renaming Below->aa
open Go.RowKit.Below renaming refl->al
open Go.World renaming size_alloc->aF
open Int renaming toNat_natCast->aB
open List renaming getElem?_eq_getElem->aO,replicate->aU
open Nat renaming lt_of_lt_of_le->aP,zero_le->aM
open Prod.mk renaming injEq->aw
def vq(a:Nat->Nat->Int)(b:Nat):dD:=⟨a b 0,a b 1,a b 2,0,0,0,0,a b 0,0,0,false⟩
def PN(a:Nat->Nat->Int)(b:Nat):dq:=⟨b,vq a,0⟩
def xM(b:Nat->Nat->Int)(a:Nat):dq:=PN b (if a<=8 then a else 8)
def xL(c:Nat)(b:aW)(a w:ab)(d:Nat->Nat->Int)(e:Nat):Prop:=aa a a w/\I (eG c (bl b a c) w (a.heap.size+1) a.heap.size (PN d e))
def RX(e:Nat)(c:aW)(w:ab)(f:dq)(g:aR)(a:ab):Prop:=∃b d,g=aG (aV (av b))/\aa w w a/\I (eG e (bl c w e) a b d f)
theorem Lb{r:Nat}{k:aW}{b w:ab}{d:Nat->Nat->Int}{c:Nat}(s:I (xL r k b w d c))(t:c<8):∃g,(Instr.mapUpdate 356 (.map (some b.heap.size)) (aA c) (dk (vq d c))).run prog w=.ok () g/\ax (λj=>j=b.heap.size) w g/\I (xL r k b g d (c+1)):=by obtain⟨e,h⟩:=s.o;obtain⟨u,a,i,o⟩:=h.map;obtain⟨f,p,l⟩:=AX i.2 o (vq d c);have q:ax (λj=>j=b.heap.size) w (ke w b.heap.size (.map f (a+1))):=rr rfl;refine⟨_,p,q,⟨q.below e e.size λm n=>O,⟨by show c+1<=8;omega,⟨h.box.1,bm h.box.2 q O⟩,⟨f,a+1,⟨i.1,tJ i.2⟩,?_⟩⟩⟩⟩;refine⟨l.1,λm n=>?_⟩;obtain⟨j,e⟩:=l.2 m n;refine⟨j,?_⟩;rw[e];(have:bE (PN d c).r c (vq d c) m=vq d m:=by unfold bE;split;(·rename_i v;rw[v]);·rfl);show some (MapEntry.mk _ (dk (bE (PN d c).r c (vq d c) m)) j)=_;rw[this];rfl
theorem Lc(l:Option ao)(b m:Nat)(f:Nat->Nat->Int)(w:ab)(Z:I (ba w l b 3 f))(s:b<=m/\m<=9223372036854775807)(G:Nat)(g:aW):ag prog 127 #[ai l b m] w (RX G g w (xM f b)):=by obtain⟨j,d⟩:=aJ (if b<=8 then b else 8);(have Q:j<=8:=by rw[<-d];split<;>omega);(have R:j<=b:=by rw[<-d];split<;>omega);(have T:(if(8:Int)<(b:Int)then(8:Int)else(b:Int))=(j:Int):=by rw[<-d];(repeat' split)<;>omega);have J:=H d;clear d;obtain⟨U,V⟩:=s;have S:I (xL G g w ((w.alloc (.map #[] 0)).alloc (aj #[.map (some w.heap.size),ae ah 0] 358)) f 0):=H (by have t:=ar.new (w.alloc (.map #[] 0)) #[.map (some w.heap.size),ae ah 0] 358;rw[aF]at t;refine⟨(aC.alloc au _).alloc aI _,⟨by show 0<=8;omega,⟨bJ O,t⟩,⟨#[],0,⟨bJ au,?_⟩,⟨rfl,λu K=>absurd K (Nat.not_lt_zero u)⟩⟩⟩⟩;rw[Below.heap_alloc _ _ _ aI];exact heap_alloc_new _ _);have L:I (∀n,aa w w n->I (ba n l b 3 f)):=H λn M=>H (bx Z.o M au);have ac:=run_makeMap_plain (P:=prog) w 356;go_in;go_wp2_with fail;generalize(w.alloc (.map #[] 0)).alloc (aj #[.map (some w.heap.size),ae ah 0] 358)=af at*;go_loopw [15](λu wr=>∃c:Nat,c<=j/\u=ae ah c/\I (xL G g w wr f c))(λu _=>j-(intOf u).toNat);(case atStart=>exact⟨0,aM _,rfl,S⟩);case round=>clear S;obtain⟨c,W,rfl,S⟩:=hrel;by_cases am:c<j;(·have X:(c:Int)<(j:Int):=O;obtain⟨ap,az,rfl,aS,v,x,y,_,_,_⟩:=fX (L.o wr S.1) c O;obtain⟨e,o⟩:=aJ (f c 0);obtain⟨h,p⟩:=aJ (f c 1);obtain⟨i,q⟩:=aJ (f c 2);rw[o]at v;rw[p]at x;rw[q]at y;have N:I (dk (vq f c)=.agg #[ae ah e,ae ah h,ae ah i,ae ah 0,ae ah 0,ae ah 0,ae ah 0,ae ah e,ae ah 0,ae ah 0,aD false]):=H (by unfold dk vq;rw[o,p,q]);clear o p q;go_wp2_with fail;have Y:=H (ar.new wr (bq e h i) 151);(have P:wr.heap.size≠w.heap.size:=by have:=S.2.o.box.2.lt;omega);have r:I (xL G g w (wr.alloc (aj (bq e h i) 151)).drew f c):=H ⟨(S.1.alloc S.1.size _).drew,eG.next S.2 (aC.alloc au _).drew λ_ _=>rfl⟩;generalize wr.alloc (aj (bq e h i) 151)=a0 at*;obtain⟨a1,z,A,B⟩:=Lb r O;rw[N.o]at z;have C:=bm (w:=a0.drew) Y.o A P;have k:=B.2.o.box.2.cell;have D:=r.2.o.box.2.cell;have E:=Y.cell;refine sq 9 ⟨D,E⟩ λa=>?_;(iterate 9 refine bF a λa=>?_);refine bk λa2 F=>?_;go_simp;refine F ⟨⟨k,C.cell⟩,λ_=>trivial⟩ λa=>?_;clear F a2;refine b4 ?_;clear a z A D E k v x y r;go_wp2;go_roundw;(case rel=>exact⟨c+1,O,aI,B⟩);case measure=>simp[intOf];omega);·obtain rfl:c=j:=O;go_wp2;go_ret;refine⟨w.heap.size+1,w.heap.size,rfl,S.1,?_⟩;unfold xM;rw[J.o];exact S.2
end Go.Proofs.YtihckgobeanocaaGreat
