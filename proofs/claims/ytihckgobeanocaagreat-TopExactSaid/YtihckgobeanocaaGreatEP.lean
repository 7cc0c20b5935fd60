import Derived.WideMake
import Derived.Test.YtihckgobeanocaaGreatEH
/- A part of TopExact; no conditions. -/
set_option linter.all false
set_option maxRecDepth 100000
set_option maxHeartbeats 0
namespace Go.Proofs.YtihckgobeanocaaGreat
open Go.RowKit Go.Proofs.Tryz eJ
open Obj renaming cells->aj
open Value renaming slice->ai,int->ae,pointer->aV,bool->aD
open IntKind renaming i64->ah
open Ending renaming returned->aG
open Bool renaming and_eq_true->jZ
open Go renaming Addr->ao,Calls->ag,Ending->aR,Value->ad,World->ab
open Go.RowKit renaming Below->aa
open Go.World renaming size_alloc->aF
open List renaming replicate->aU
open Nat renaming zero_le->aM
def vq(a:Nat->Nat->Int)(b:Nat):dD:=⟨a b 0,a b 1,a b 2,0,0,0,0,a b 0,0,0,false⟩
def PN(a:Nat->Nat->Int)(b:Nat):dq:=⟨b,vq a,0⟩
def xM(b:Nat->Nat->Int)(a:Nat):dq:=PN b<|if a<=8 then a else 8
def xL(b:Nat)(c:aW)(a w:ab)(d:Nat->Nat->Int)(e:Nat):Prop:=aa a a w/\I (eG b (bl c a b) w (a.heap.size+1) a.heap.size<|PN d e)
def RX(d:Nat)(e:aW)(w:ab)(f:dq)(g:aR)(a:ab):Prop:=∃b c,g=aG (aV<|av b)/\aa w w a/\I (eG d (bl e w d) a b c f)
def Lb{q:Nat}{r:aW}{b w:ab}{d:Nat->Nat->Int}{c:Nat}(s:I<|xL q r b w d c)(t:c<8):∃g,(Instr.mapUpdate 356 (.map<|some b.heap.size) (aA c)<|dk<|vq d c).run prog w=.ok () g/\ax (λj=>j=b.heap.size) w g/\I (xL q r b g d<|c+1):=by obtain⟨e,h⟩:=s.o;obtain⟨u,a,i,n⟩:=h.map;obtain⟨f,o,k⟩:=AX i.2 n<|vq d c;have p:ax (λj=>j=b.heap.size) w<|ke w b.heap.size<|.map f<|a+1:=rr rfl;refine⟨_,o,p,⟨p.K e e.size λl m=>O,⟨by show c+1<=8;omega,⟨h.F.1,bm h.F.2 p O⟩,⟨f,a+1,⟨i.1,tJ i.2⟩,?_⟩⟩⟩⟩;refine⟨k.1,λl m=>?_⟩;obtain⟨j,e⟩:=k.2 l m;refine⟨j,?_⟩;rw[e];(have:bE (PN d c).r c (vq d c) l=vq d l:=by unfold bE;split;(.rename_i v;rw[v]);.rfl);show some (MapEntry.mk _ (dk<|bE (PN d c).r c (vq d c) l) j)=_;rw[this];rfl
def Lc(k:Option ao)(b l:Nat)(f:Nat->Nat->Int)(w:ab)(Z:I<|ba w k b 3 f)(r:b<=l/\l<=9223372036854775807)(F:Nat)(G:aW):ag prog 127 #[ai k b l] w<|RX F G w<|xM f b:=by obtain⟨i,d⟩:=aJ<|if b<=8 then b else 8;(have Q:i<=8:=by rw[<-d];split<;>omega);(have R:i<=b:=by rw[<-d];split<;>omega);(have T:(if(8:Int)<(b:Int)then(8:Int)else(b:Int))=(i:Int):=by rw[<-d];(repeat' split)<;>omega);have J:=H d;clear d;obtain⟨U,V⟩:=r;have S:I<|xL F G w ((w.alloc<|.map #[] 0).alloc<|aj #[.map<|some w.heap.size,ae ah 0] 358) f 0:=H (by have s:=ar.M (w.alloc<|.map #[] 0) #[.map<|some w.heap.size,ae ah 0] 358;rw[aF]at s;refine⟨(aC.alloc au _).Q aI _,⟨by show 0<=8;omega,⟨bJ O,s⟩,⟨#[],0,⟨bJ au,?_⟩,⟨rfl,λt K=>absurd K<|Nat.not_lt_zero t⟩⟩⟩⟩;rw[Below.heap_alloc _ _ _ aI];exact heap_alloc_new _ _);have L:I<|∀m,aa w w m->I (ba m k b 3 f):=H λm M=>H<|bx Z.o M au;have ac:=run_makeMap_plain (P:=prog) w 356;go_in;go_wp2_with fail;generalize(w.alloc<|.map #[] 0).alloc (aj #[.map<|some w.heap.size,ae ah 0] 358)=af at*;go_loopw [15](λt wr=>∃c:Nat,c<=i/\t=ae ah c/\I (xL F G w wr f c))(λt _=>i-(intOf t).toNat);exact⟨0,aM _,rfl,S⟩;clear S;obtain⟨c,W,rfl,S⟩:=hrel;by_cases am:c<i;(.have X:(c:Int)<(i:Int):=O;obtain⟨ap,az,rfl,aS,u,v,x,_,_,_⟩:=fX (L.o wr S.1) c O;obtain⟨e,n⟩:=aJ<|f c 0;obtain⟨g,o⟩:=aJ<|f c 1;obtain⟨h,p⟩:=aJ<|f c 2;rw[n]at u;rw[o]at v;rw[p]at x;have N:I<|dk (vq f c)=.agg #[ae ah e,ae ah g,ae ah h,ae ah 0,ae ah 0,ae ah 0,ae ah 0,ae ah e,ae ah 0,ae ah 0,aD false]:=H (by unfold dk vq;rw[n,o,p]);clear n o p;go_wp2_with fail;have Y:=H<|ar.M wr (bq e g h) 151;(have P:wr.heap.size≠w.heap.size:=by have:=S.2.o.F.2.N;omega);have q:I<|xL F G w (wr.alloc<|aj (bq e g h) 151).drew f c:=H ⟨(S.1.alloc S.1.size _).drew,eG.D S.2 (aC.alloc au _).drew λ_ _=>rfl⟩;generalize wr.alloc (aj (bq e g h) 151)=a0 at*;obtain⟨a1,y,z,A⟩:=Lb q O;rw[N.o]at y;have B:=bm (w:=a0.drew) Y.o z P;have j:=A.2.o.F.2.A;have C:=q.2.o.F.2.A;have D:=Y.A;refine sq 9 ⟨C,D⟩ λa=>?_;(iterate 9 refine bF a λa=>?_);refine bk λa2 E=>?_;go_simp;refine E ⟨⟨j,B.A⟩,λ_=>trivial⟩ λa=>?_;clear E a2;refine b4 ?_;clear a y z C D j u v x q;go_wp2;go_roundw;exact⟨c+1,O,aI,A⟩;exact dw);.obtain rfl:c=i:=O;go_wp2;go_ret;refine⟨w.heap.size+1,w.heap.size,rfl,S.1,?_⟩;unfold xM;rw[J.o];exact S.2
