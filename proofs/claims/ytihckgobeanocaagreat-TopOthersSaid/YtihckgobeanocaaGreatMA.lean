import Derived.WalkKit
import Derived.ProofKit
import Derived.KernelRfl
import Derived.Lib.Hide
import Derived.Test.YtihckgobeanocaaGreatProg
import Derived.WalkSmall
import Derived.Test.YtihckgobeanocaaGreatRows
import Derived.OpenShut
import Derived.ShutString
import Derived.Deep.Slices
import Derived.Lib.SmallJoins
import Derived.Deep.RegionHeld3
import Derived.WalkLawsBesides
import Derived.BigQuiet
import Derived.Deep.QuietTactic
import Derived.Outline
import Derived.OneCell
import Derived.Laws.AppendOwnNone
import Derived.Laws.OwnMore
/- A part of the proof of the rows TopChoices and TopOthers: no conditions. -/
set_option linter.all false
set_option maxRecDepth 100000
set_option maxHeartbeats 0
namespace Go.Proofs.YtihckgobeanocaaGreat
open Go.RowKit Go.Proofs.Tryz
def I(p:Prop):Prop:=p
theorem I.o{p:Prop}(h:I p):p:=h
theorem H{p:Prop}(h:p):I p:=h
theorem O{p:Prop}(h:p:=by omega):p:=h
theorem ay{p:Prop}(h:p:=by kernel_rfl):p:=h
theorem an{p:Prop}(h:p:=by decide):p:=h
theorem aI{p:Prop}(h:p:=by simp):p:=h
theorem bh{p:Prop}(h:p:=by simp;omega):p:=h
theorem fR{p:Prop}(h:p:=by first|exact Nat.le_refl _|(simp;done)|(simp;omega)|omega):p:=h
theorem fQ{p:Prop}(h:p:=by first|(simp;done)|(simp;omega)|omega):p:=h
theorem ee{p:Prop}(h:p:=by go_num):p:=h
theorem cE{p:Prop}(h:p:=by go_simp):p:=h
theorem e7{p:Prop}(h:p:=by assumption):p:=h
theorem jx{p:Prop}(h:p:=by dsimp only;omega):p:=h
theorem yT{p:Prop}(h:p:=by decide+kernel):p:=h
instance:Coe World Nat:=⟨fun w=>w.heap.size⟩
theorem au{n:Nat}:n<=n:=Nat.le_refl n
theorem aC{n:Nat}{w:World}:Below n w w:=Below.refl n w
theorem aH{c:Prop}{h:Decidable c}(k:c){α:Sort _}{t e:α}:ite c t e=t:=if_pos k
theorem aE{c:Prop}{h:Decidable c}(k:¬c){α:Sort _}{t e:α}:ite c t e=e:=if_neg k
theorem aJ{α:Sort _}(a:α):∃b,a=b:=⟨a,rfl⟩
theorem bR:(∀{α:Type}(l:List α)(i:Nat)(a:α),l.toArray.setIfInBounds i a=(l.set i a).toArray)/\(∀{α:Type}(a b:α)(l:List α),(a::l).set 0 b=b::l)/\(∀{α:Type}(a b:α)(l:List α)(n:Nat),(a::l).set (n+1) b=a::l.set n b)/\(∀{α:Type}(l:List α)(i:Nat)(h:i<l.toArray.size),l.toArray[i]=l[i]'(by simpa using h))/\(∀{α:Type}(a:α)(l:List α)(i:Nat)(h:i+1<(a::l).length),(a::l)[i+1]=l[i]'(by simpa using h))/\(∀{α:Type}(a:α)(l:List α)(h:0<(a::l).length),(a::l)[0]=a):=by simp
inductive eJ|ak(a b:Nat)|av(a:Nat)|aA(a:Int)|bo(a:Nat)|bq(a b c:Int)|ck(a b c d e f:Int)|bO(a b c d:Int)|kC(a:Option Addr)(b c:Nat)(d:Option Addr)(e f:Nat)(g:Option Addr)(h i:Nat)(j:Option Addr)(k l:Nat)(m:Int)(n:Option Addr)(o p:Nat)(q:Option Addr)(r s:Nat)(t u v:Int)(w:Option Addr)(x y:Nat)(z A B:Int)(C:Option Addr)(D E F G H I J:Nat)(K:Option Addr)(L:Value)|bC(a b:Bool)(c d:Int)|ij|b7(a:Nat)(b:Int)|ek(a:Option Addr)(b c:Nat)(d:Option Addr)(e f:Nat)(g:Option Addr)(h i:Nat)(j:Option Addr)(k l:Nat)(m n o p:Int)(q:Option Addr)(r s:Nat)(t:Option Addr)(u v:Nat)(w:Option Addr)(x y:Nat)(z:Int)|bt(a b:Int)|gB(a:Option Addr)(b c:Nat)(d:Option Addr)(e f:Nat)(g:Option Addr)(h i:Nat)(j k l m:Int)|fW(a b c d:Int)(e:Option Addr)(f g:Nat)(h:Option Addr)(i j:Nat)(k l m n o p:Int)(q:Nat)|c3(a b:Nat)|e4(a b c d e f g h i j:Int)(k:Bool)|du(a b c d e:Int)|dU(a:Nat)(b c:Int)|dY|fj(a:Option Addr)(b c:Nat)(d:Option Addr)(e f:Nat)(g h i j k l:Int)|gA(a:Option Addr)(b c:Nat)(d:Option Addr)(e f:Nat)(g:Option Addr)(h i:Nat)(j:Option Addr)(k l:Nat)(m:Int)(n:Option Addr)(o p:Nat)(q:Option Addr)(r s:Nat)(t u v:Int)(w:Option Addr)(x y:Nat)|hz|ez|cl|dI(a:Nat)(b:Value)|e5(a:Nat)(b:Int)(c:Value)|kB(a b:Int)(c:Option Addr)(d e:Nat)(f:Option Addr)(g h:Nat)(i j k l m n o:Int)|hP(a:Value)(b:Bool)|bV(a:Int)|jJ(a:Nat)(b c d e:Int)|fM(a b:Bool)|pr(a b:Int)(c:Option Addr)(d e:Nat)(f:Option Addr)(g h:Nat)(i j k l m n:Int)(o:Nat)(p:Value)(q:Int)|ej(a b:Int)(c:Option Addr)(d e:Nat)|pq(a b c d e f g:Int)(h:Bool)|hy|nt(a b c:Nat)|e6(a b:Int)(c:Bool)|tC(a:Option Addr)(b c:Nat)(d:Option Addr)(e f:Nat)(g:Option Addr)(h i:Nat)(j:Option Addr)(k l:Nat)(m:Int)(n:Option Addr)(o p:Nat)(q:Option Addr)(r s:Nat)(t u v:Int)(w:Option Addr)(x y:Nat)|iM(a b:Bool)(c d:Int)(e:Value)(f:Int)|ei(a:Int)(b:Option Addr)(c d:Nat)|fs(a b:Int)(c:Value)|jK(a:Nat)(b:Option Addr)(c d:Nat)(e:Value)
open eJ
instance(a b:Nat):CoeDep eJ (.ak a b) Addr:=⟨⟨a,b,none⟩⟩
instance(a:Nat):CoeDep eJ (.av a) (Option Addr):=⟨some ⟨a,0,none⟩⟩
instance(a:Int):CoeDep eJ (.aA a) Value:=⟨.int .i64 a⟩
instance(a:Nat):CoeDep eJ (.bo a) (Array Value):=⟨#[.pointer (some ⟨a,0,none⟩)]⟩
instance(a b c:Int):CoeDep eJ (.bq a b c) (Array Value):=⟨#[.int .i64 a,.int .i64 b,.int .i64 c]⟩
instance(a b c d e f:Int):CoeDep eJ (.ck a b c d e f) (Array Value):=⟨#[.int .i64 a,.int .i64 b,.int .i64 c,.int .i64 d,.int .i64 e,.int .i64 f]⟩
instance(a b c d:Int):CoeDep eJ (.bO a b c d) (Array Value):=⟨#[.int .i64 a,.int .i64 b,.int .i64 c,.int .i64 d]⟩
instance(a:Option Addr)(b c:Nat)(d:Option Addr)(e f:Nat)(g:Option Addr)(h i:Nat)(j:Option Addr)(k l:Nat)(m:Int)(n:Option Addr)(o p:Nat)(q:Option Addr)(r s:Nat)(t u v:Int)(w:Option Addr)(x y:Nat)(z A B:Int)(C:Option Addr)(D E F G H I J:Nat)(K:Option Addr)(L:Value):CoeDep eJ (.kC a b c d e f g h i j k l m n o p q r s t u v w x y z A B C D E F G H I J K L) (Array Value):=⟨#[.slice a b c,.slice d e f,.slice g h i,.slice j k l,.int .i64 m,.slice n o p,.slice q r s,.int .i64 t,.int .i64 u,.int .i64 v,.slice w x y,.int .i64 z,.int .i64 A,.int .i64 B,.slice C D E,.pointer (some ⟨F,0,none⟩),.pointer (some ⟨G,0,none⟩),.pointer (some ⟨H,0,none⟩),.pointer (some ⟨I,0,none⟩),.pointer (some ⟨J,0,none⟩),.pointer K,L]⟩
instance(a b:Bool)(c d:Int):CoeDep eJ (.bC a b c d) (Array Value):=⟨#[.bool a,.bool b,.int .i64 c,.int .i64 d]⟩
instance:CoeDep eJ .ij (Array Value):=⟨#[.slice none 0 0,.slice none 0 0,.slice none 0 0,.slice none 0 0,.int .i64 0,.int .i64 0,.int .i64 0,.int .i64 0,.slice none 0 0,.slice none 0 0,.slice none 0 0,.int .i64 0]⟩
instance(a:Nat)(b:Int):CoeDep eJ (.b7 a b) (Array Value):=⟨#[.pointer (some ⟨a,0,none⟩),.int .i64 b]⟩
instance(a:Option Addr)(b c:Nat)(d:Option Addr)(e f:Nat)(g:Option Addr)(h i:Nat)(j:Option Addr)(k l:Nat)(m n o p:Int)(q:Option Addr)(r s:Nat)(t:Option Addr)(u v:Nat)(w:Option Addr)(x y:Nat)(z:Int):CoeDep eJ (.ek a b c d e f g h i j k l m n o p q r s t u v w x y z) (Array Value):=⟨#[.slice a b c,.slice d e f,.slice g h i,.slice j k l,.int .i64 m,.int .i64 n,.int .i64 o,.int .i64 p,.slice q r s,.slice t u v,.slice w x y,.int .i64 z]⟩
instance(a b:Int):CoeDep eJ (.bt a b) (Array Value):=⟨#[.int .i64 a,.int .i64 b]⟩
instance(a:Option Addr)(b c:Nat)(d:Option Addr)(e f:Nat)(g:Option Addr)(h i:Nat)(j k l m:Int):CoeDep eJ (.gB a b c d e f g h i j k l m) (Array Value):=⟨#[.slice a b c,.slice none 0 0,.slice d e f,.slice g h i,.slice none 0 0,.int .i64 0,.int .i64 0,.int .i64 j,.int .i64 k,.int .i64 l,.int .i64 m,.slice none 0 0,.slice none 0 0]⟩
instance(a b c d:Int)(e:Option Addr)(f g:Nat)(h:Option Addr)(i j:Nat)(k l m n o p:Int)(q:Nat):CoeDep eJ (.fW a b c d e f g h i j k l m n o p q) (Array Value):=⟨#[.int .i64 a,.int .i64 b,.int .i64 c,.int .i64 d,.slice e f g,.slice h i j,.int .i64 k,.int .i64 l,.int .i64 m,.int .i64 n,.int .i64 o,.int .i64 p,.pointer (some ⟨q,0,none⟩)]⟩
instance(a b:Nat):CoeDep eJ (.c3 a b) (Array Value):=⟨#[.pointer (some ⟨a,0,none⟩),.pointer (some ⟨b,0,none⟩)]⟩
instance(a b c d e f g h i j:Int)(k:Bool):CoeDep eJ (.e4 a b c d e f g h i j k) (Array Value):=⟨#[.int .i64 a,.int .i64 b,.int .i64 c,.int .i64 d,.int .i64 e,.int .i64 f,.int .i64 g,.int .i64 h,.int .i64 i,.int .i64 j,.bool k]⟩
instance(a b c d e:Int):CoeDep eJ (.du a b c d e) (Array Value):=⟨#[.int .i64 a,.int .i64 b,.int .i64 c,.int .i64 d,.int .i64 e]⟩
instance(a:Nat)(b c:Int):CoeDep eJ (.dU a b c) (Array Value):=⟨#[.pointer (some ⟨a,0,none⟩),.int .i64 b,.int .i64 c]⟩
instance:CoeDep eJ .dY (Array Value):=⟨#[.int .i64 0,.int .i64 0,.int .i64 0,.int .i64 0]⟩
instance(a:Option Addr)(b c:Nat)(d:Option Addr)(e f:Nat)(g h i j k l:Int):CoeDep eJ (.fj a b c d e f g h i j k l) (Array Value):=⟨#[.slice a b c,.slice d e f,.int .i64 g,.int .i64 h,.int .i64 i,.int .i64 j,.int .i64 k,.int .i64 l]⟩
instance(a:Option Addr)(b c:Nat)(d:Option Addr)(e f:Nat)(g:Option Addr)(h i:Nat)(j:Option Addr)(k l:Nat)(m:Int)(n:Option Addr)(o p:Nat)(q:Option Addr)(r s:Nat)(t u v:Int)(w:Option Addr)(x y:Nat):CoeDep eJ (.gA a b c d e f g h i j k l m n o p q r s t u v w x y) (Array Value):=⟨#[.slice a b c,.slice d e f,.slice g h i,.slice j k l,.int .i64 m,.slice n o p,.slice q r s,.int .i64 t,.int .i64 u,.int .i64 v,.slice w x y]⟩
instance:CoeDep eJ .hz (Array Value):=⟨#[.int .i64 0,.int .i64 0,.int .i64 0,.int .i64 0,.int .i64 0,.int .i64 0]⟩
instance:CoeDep eJ .ez (Array Value):=⟨#[.int .i64 0,.int .i64 0,.slice none 0 0]⟩
instance:CoeDep eJ .cl (Array Value):=⟨#[.slice none 0 0]⟩
instance(a:Nat)(b:Value):CoeDep eJ (.dI a b) (Array Value):=⟨#[.pointer (some ⟨a,0,none⟩),b]⟩
instance(a:Nat)(b:Int)(c:Value):CoeDep eJ (.e5 a b c) (Array Value):=⟨#[.pointer (some ⟨a,0,none⟩),.int .i64 b,c]⟩
instance(a b:Int)(c:Option Addr)(d e:Nat)(f:Option Addr)(g h:Nat)(i j k l m n o:Int):CoeDep eJ (.kB a b c d e f g h i j k l m n o) (Array Value):=⟨#[.int .i64 a,.int .i64 b,.slice c d e,.slice f g h,.int .i64 i,.int .i64 j,.int .i64 k,.int .i64 l,.int .i64 m,.int .i64 n,.int .i64 o]⟩
instance(a:Value)(b:Bool):CoeDep eJ (.hP a b) (Array Value):=⟨#[a,.int .i64 0,.int .i64 0,.int .i64 0,.slice none 0 0,.bool b]⟩
instance(a:Int):CoeDep eJ (.bV a) (Array Value):=⟨#[.int .i64 a]⟩
instance(a:Nat)(b c d e:Int):CoeDep eJ (.jJ a b c d e) (Array Value):=⟨#[.pointer (some ⟨a,0,none⟩),.int .i64 b,.int .i64 c,.int .i64 d,.int .i64 e]⟩
instance(a b:Bool):CoeDep eJ (.fM a b) (Array Value):=⟨#[.bool a,.bool b,.int .i64 0,.int .i64 0]⟩
instance(a b:Int)(c:Option Addr)(d e:Nat)(f:Option Addr)(g h:Nat)(i j k l m n:Int)(o:Nat)(p:Value)(q:Int):CoeDep eJ (.pr a b c d e f g h i j k l m n o p q) (Array Value):=⟨#[.int .i64 a,.int .i64 b,.slice c d e,.slice f g h,.int .i64 i,.int .i64 j,.int .i64 k,.int .i64 l,.int .i64 m,.int .i64 n,.pointer (some ⟨o,0,none⟩),p,.int .i64 q]⟩
instance(a b:Int)(c:Option Addr)(d e:Nat):CoeDep eJ (.ej a b c d e) (Array Value):=⟨#[.int .i64 a,.int .i64 b,.slice c d e]⟩
instance(a b c d e f g:Int)(h:Bool):CoeDep eJ (.pq a b c d e f g h) (Array Value):=⟨#[.int .i64 a,.int .i64 b,.int .i64 c,.int .i64 0,.int .i64 0,.int .i64 0,.int .i64 d,.int .i64 e,.int .i64 f,.int .i64 g,.bool h]⟩
instance:CoeDep eJ .hy (Array Value):=⟨#[.int .i64 0,.int .i64 0,.int .i64 0]⟩
instance(a b c:Nat):CoeDep eJ (.nt a b c) (Array Value):=⟨#[.pointer (some ⟨a,0,none⟩),.pointer (some ⟨b,0,none⟩),.pointer (some ⟨c,0,none⟩)]⟩
instance(a b:Int)(c:Bool):CoeDep eJ (.e6 a b c) (Array Value):=⟨#[.int .i64 a,.int .i64 b,.bool c]⟩
instance(a:Option Addr)(b c:Nat)(d:Option Addr)(e f:Nat)(g:Option Addr)(h i:Nat)(j:Option Addr)(k l:Nat)(m:Int)(n:Option Addr)(o p:Nat)(q:Option Addr)(r s:Nat)(t u v:Int)(w:Option Addr)(x y:Nat):CoeDep eJ (.tC a b c d e f g h i j k l m n o p q r s t u v w x y) (Array Value):=⟨#[.slice a b c,.slice d e f,.slice g h i,.slice j k l,.int .i64 m,.slice n o p,.slice q r s,.int .i64 t,.int .i64 u,.int .i64 v,.slice w x y,.slice none 0 0,.slice none 0 0,.slice none 0 0,.slice none 0 0]⟩
instance(a b:Bool)(c d:Int)(e:Value)(f:Int):CoeDep eJ (.iM a b c d e f) (Array Value):=⟨#[.bool a,.bool b,.int .i64 c,.int .i64 d,e,.int .i64 f]⟩
instance(a:Int)(b:Option Addr)(c d:Nat):CoeDep eJ (.ei a b c d) (Array Value):=⟨#[.int .i64 a,.slice b c d]⟩
instance(a b:Int)(c:Value):CoeDep eJ (.fs a b c) (Array Value):=⟨#[.int .i64 a,.int .i64 b,c]⟩
instance(a:Nat)(b:Option Addr)(c d:Nat)(e:Value):CoeDep eJ (.jK a b c d e) (Array Value):=⟨#[.pointer (some ⟨a,0,none⟩),.slice b c d,e]⟩
open Obj renaming cells->aj
open Value renaming slice->ai,int->ae,pointer->aV,bool->aD
open IntKind renaming i64->ah
open Ending renaming returned->aG
open Go renaming Addr->ao,Calls->ag,Ending->aR,TypeId->aq,Value->ad,World->ab
open Go.RowKit renaming Below->aa
open Go.RowKit.Below renaming refl->al
open Go.World renaming size_alloc->aF
open Int renaming toNat_natCast->aB
open List renaming getElem?_eq_getElem->aO,replicate->aU
open Nat renaming lt_of_lt_of_le->aP,zero_le->aM
open Prod.mk renaming injEq->aw
theorem dN{w:ab}{a:ao}{d:ad}(c:w.cell? a=some d):a.block<w:=by unfold World.cell? at c;refine Nat.lt_of_not_le λb=>?_;rw[Array.getElem?_eq_none b]at c;cases c
theorem aY{W b:ab}{e:Nat}(c:aa e W b){a:ao}{v:ad}(f:W.cell? a=some v)(d:a.block<e):b.cell? a=some v:=by rw[c.cell d];exact f
theorem Pv{e a:ab}{f:Nat}(b:aa f e a){c:ao}{g:Bool}(h:e.frozen? c=g)(d:c.block<f):a.frozen? c=g:=by rw[b.frozen d];exact h
theorem I2{d c:ab}(e:aa d d c):(∀a b,a<d.heap.size->c.cell? (ak a b)=d.cell? (ak a b))/\(∀a b,a<d.heap.size->c.frozen? ⟨a,b,none⟩=d.frozen? ⟨a,b,none⟩):=⟨λa b f=>e.cell (p:=⟨a,b,none⟩) f,λa b f=>e.frozen (p:=⟨a,b,none⟩) f⟩
theorem b9{w:ab}{o:Obj}{a:ao}{v:ad}(b:w.cell? a=some v):(w.alloc o).cell? a=some v:=by rw[World.cell?_of_block (w:=w) (Below.heap_alloc w o a.block (dN b))];exact b
theorem yU{w:ab}{c:Obj}{a:ao}{d:Bool}(e:w.frozen? a=d)(b:a.block<w):(w.alloc c).frozen? a=d:=by rw[World.frozen?_of_block (w:=w) (Below.heap_alloc w c a.block b)];exact e
theorem iO{w:ab}{b a:ao}{u d:ad}(e:w.cell? a=some d)(c:a.block≠b.block):(w.setCell b u).cell? a=some d:=by rw[World.cell?_of_block (w:=w) (Below.heap_setCell w b u a.block c)];exact e
theorem Cg{w:ab}{b a:ao}{d:ad}{e:Bool}(f:w.frozen? a=e)(c:a.block≠b.block):(w.setCell b d).frozen? a=e:=by rw[World.frozen?_of_block (w:=w) (Below.heap_setCell w b d a.block c)];exact f
def eo(a:ab)(b c:Nat)(d:ad):Prop:=a.cell? (ak b c)=some d/\a.frozen? ⟨b,c,none⟩=false
theorem eo.lt{w:ab}{b o:Nat}{v:ad}(a:eo w b o v):b<w:=dN a.1
theorem eo.below{w a:ab}{e b o:Nat}{v:ad}(f:eo w b o v)(c:aa e w a)(d:b<e):eo a b o v:=⟨aY c f.1 d,Pv c f.2 d⟩
theorem eo.alloc{w:ab}{b o:Nat}{v:ad}(a:eo w b o v)(x:Obj):eo (w.alloc x) b o v:=⟨b9 a.1,yU a.2 a.lt⟩
theorem eo.set{w:ab}{b c:Nat}{v:ad}(d:eo w b c v)(p:ao)(u:ad)(a:b≠p.block):eo (w.setCell p u) b c v:=⟨iO d.1 a,Cg d.2 a⟩
theorem zl{z:Program}(g:ab){l:Array Oper}{rest:List Oper}{A:Oper}{B:Act}{U:Exit->Act->ab->Prop}(o:A.guard=.none)(E F:Operand)(C:aq)(G:A.op=.call {callee:=.builtin .append,args:=#[E,F],argTypes:=#[C,C]})(a:Nat)(p:aq)(J:ad)(b:Nat)(K:z.underlying C=some (.slice p))(h:(z.info? p).map (λL=>(L.zero,L.size,L.bytes))=some (some J,1,b))(q:J.cells.size=1)(V:aq)(r:ad)(D:ad)(s:Nat)(m:List ad)(M:B.eval E=D)(e:g.ownsRow a p 1 D s m)(N:B.eval F=ai (some ⟨g,0,.none⟩) 1 1)(P:r.oneCell'=true)(Q:s+1<=maxLen)(f:(s+1)*b<=140737488355328)(i:a<=g)(X:∀j c,c.ownsRow a p 1 j (s+1) (m++[r])->g.heap.size<=c.heap.size->aa a g c->(g.alloc (aj #[r] V)).grownBy c D.ownBlock->wpList z l U rest (B.put A.dst j) c):wpList z l U (A::rest) B (g.alloc (aj #[r] V)):=by obtain⟨R,S,t,u,v⟩:=info_parts h;refine wpList_append_own _ o E F C G a p R J 1 b K S t u v q an D s m M (e.alloc _) ⟨g,0,.none⟩ 1 1 [r] N rfl ?_ ?_ Q f bh ?_;(·intro W Y d;match W,d with|0,d=>simp at d;subst d;go_simp|W+1,d=>simp at d);(·intro Y w;simp at w;subst w;exact P);·intro j c x n _;have y:=n.size;simp at y;exact X j c x O (((al a g).alloc i _).grown n bh λk T=>(e.lt k T).1) n
theorem vZ{p e:ab}{a:Nat}{q:aq}{b:Nat}{j:ad}{r:Nat}{f:List ad}(t:p.ownsRow a q b j r f){s:Nat}(k:aa s p e)(l:∀d,j.ownBlock=some d->d<s):e.ownsRow a q b j r f:=by obtain⟨m,c⟩:=t;refine⟨m,?_⟩;rcases c with c|⟨d,g,h,i,n,o,u⟩;(·exact Or.inl c);·refine Or.inr ⟨d,g,h,i,n,?_,u⟩;rw[k.block d (l d (by rw[i];rfl))];exact o
theorem bg{w c:ab}{a:Nat}{h:aq}{b:Nat}{v:ad}{i:Nat}{d:List ad}(j:w.ownsRow a h b v i d)(e:aa w w c):c.ownsRow a h b v i d:=vZ j e λg f=>(j.lt g f).2
theorem j4{k:ab}{a:Nat}{o:aq}{c:Nat}{l:ad}{f:Nat}{h:List ad}(m:k.ownsRow a o c l f h)(i:f≠0):∃g b,l=ai (av g) f b/\a<=g/\g<k.heap.size:=by obtain⟨p,d⟩:=id m;rcases d with⟨_,d⟩|⟨g,b,n,e,j,q,r⟩;(·exact absurd d i);·exact⟨g,b,e,j,(m.lt g (by rw[e];rfl)).2⟩
section
open Go.ChangeShapes Go.WideShapes Go.ChangeAt
theorem pt{w:Type}{e:aq×ad->w}{k:Program}(l:laidOutB k=true){m n:ab}(o:aa m m n):∀{b:List aq}{g:List ad}{h:List (DataW w)}{c:List MemPlace},(∀p∈b,k.readableRec p=true/\p<k.types.size)->(∀q∈c,q.block<m)->DataW.TrodAll e k m 0 (λ_=>true) true b g h c->DataW.TrodAll e k n 0 (λx=>decide (x<m.heap.size)) true b g h c|[],[],[],_,_,_,a=>a|p::b,v::g,d::h,c,i,f,a=>by obtain⟨y,z,r,s,rfl⟩:=a;refine⟨y,z,Below.trod l (i p aI).1 (i p aI).2 r o λq j=>f q (by simp[j]),?_,rfl⟩;exact pt l o (λt u=>i t (by simp[u])) (λq j=>f q (by simp[j])) s|[],_::_,_,_,_,_,a=>a.elim|[],[],_::_,_,_,_,a=>a.elim|_::_,[],_,_,_,_,a=>by cases a|_::_,_::_,[],_,_,_,a=>a.elim
theorem wI{i:Type}{enc:aq×ad->i}{e:Program}{j:Func}{h:ChangeSpec}{k l:ab}{b:Array ad}{a d:List (DataW i)}{c:List MemPlace}{m:aq}(v:laidOutB e=true)(n:(j.params.toList.all λf=>e.readableRec f&&decide (f<e.types.size))=true)(o:e.underlying m=some .bool)(p:j.resultTypes=#[m])(q:h.vars=[])(g:DataW.Whole enc e j.params.toList h.vars false k b.toList a d c)(w:(h.fn i (a++d)).results=[.lit (.bool true)])(x:(h.fn i (a++d)).args=a)(r:(h.fn i (a++d)).vars=[])(s:aa k k l):h.post enc e j false true false false k b (aD true) l:=by(have y:∀f∈j.params.toList,e.readableRec f=true/\f<e.types.size:=λf z=>by have:=List.all_eq_true.1 n f z;simpa using this);obtain⟨A,G,B,t,rfl,E,F⟩:=id g;rw[q]at t;obtain⟨rfl,rfl⟩:=trodVars_none t;have u:∀C∈A,C.block<k:=λC D=>g.lt C (by simp[D]);refine⟨a,[],A++[],[],A,[],g,?_,?_,?_,s.frame _,λz=>by cases z⟩;(·rw[w,p];exact trodAll_cons_mk (shut_bool o true) trodAll_mk0);(·rw[x];exact pt v s y u B);·rw[r,q];rfl
end
section
open Go.ChangeShapes Go.WideShapes Go.ChangeAt Go.Deep Go.Joins
def ba(w:ab)(a:Option ao)(n sz:Nat)(f:Nat->Nat->Int):Prop:=n<=9223372036854775807/\(n=0\/∃d b,a=some ⟨d,b,none⟩/\d<w.heap.size/\∀i,i<n->∀c,c<sz->w.cell? (ak d (b+(i*sz+c)))=some (ae ah (f i c)))/\∀i,i<n->∀c,c<sz->-9223372036854775808<=f i c/\f i c<=9223372036854775807
theorem AT{a:Int}(b:(Lit.int ah a).wf=true):-9223372036854775808<=a/\a<=9223372036854775807:=by simpa[Lit.wf,IntKind.min,IntKind.max,IntKind.signed,IntKind.bits]using b
theorem zm{A:Type}{i:aq×ad->A}{p:Program}{B:ab}{f:Bool}{C r:aq}{g:Nat}{j:List ad}{E:DataW A×List MemPlace}(s:p.underlying C=some (.slice r))(t:p.underlying r=some (.int ah))(u:p.cellsOf r=1)(F:DataW.trod i p B 0 (λ_=>true) f g C j=some E):∃(q:Option ao)(v a:Nat)(G:Nat->Int),j=[ai q v a]/\v<=a/\a<=maxLen/\ba B q v 1 (λc _=>G c):=by rcases open_ints s t u F with⟨b,w⟩|⟨q,e,a,h,b,_,x,k,y,w,d,l⟩;(·exact⟨none,0,0,λ_=>0,b,O,by unfold maxLen;omega,O,.inl rfl,λc m=>O⟩);·simp only[if_true]at y;refine⟨some q,e,a,λc=>h.getD c 0,b,x,k,by unfold maxLen at k;omega,?_,λc m D _=>AT (l _ ?_)⟩;(·by_cases z:e=0;(·exact .inl z);·obtain⟨J,n,rfl,o⟩:=ints_at d O;refine .inr ⟨J,n,rfl,dN (o 0 O),λc m D K=>?_⟩;have:=o c O;rw[show c*1+D=c from O];exact this);·show h.getD c 0∈h;rw[List.getD_eq_getElem?_getD,aO O];exact List.getElem_mem _
theorem cd(b a i:Nat):(⟨b,a,none⟩:ao).add i=⟨b,a+i,none⟩:=by unfold Addr.add;by_cases c:i=0;(·subst c;simp);·simp[c]
def tD(c:Program)(b:Array Field):Prop:=∀(d:Nat)(a:Field),b[d]?=some a->c.underlying a.type=some (.int ah)/\a.offset=d/\c.cellsOf a.type=1
theorem yV{A:Type}{k:aq×ad->A}{p:Program}{C:ab}{g:Bool}{h:Nat}{e:Nat->Bool}{r:aq}{a:Array Field}{i:Nat}{c:List ad}{D:DataW A×List MemPlace}(s:p.underlying r=some (.struct a))(t:tD p a)(E:p.cellsOf r=a.size)(F:DataW.trod k p C h e g i r c=some D):c.length=a.size/\∃u:Nat->Int,∀b,b<a.size->c[b]?=some (ae ah (u b))/\-9223372036854775808<=u b/\u b<=9223372036854775807:=by obtain⟨G,K,rfl,rfl,J,B,l⟩:=DataW.trod_struct s F;refine⟨O,?_⟩;(have j:∀b,b<a.size->∃d:Int,c[b]?=some (ae ah d)/\-9223372036854775808<=d/\d<=9223372036854775807:=by intro b v;obtain⟨q,f⟩:∃q,a[b]?=some q:=⟨a[b],by simp[v]⟩;obtain⟨w,x,y⟩:=t b q f;have m:=l b q f;rw[x,y,aO O]at m;obtain⟨d,z,_,n⟩:=DataW.trod_int w m;refine⟨d,?_,AT n⟩;(have o:((c.drop b).take 1)[0]?=some (ae ah d):=by rw[z];rfl);rw[List.getElem?_take,aH O,List.getElem?_drop]at o;exact o);exact choose_lt (p:=λb d=>c[b]?=some (ae ah d)/\-9223372036854775808<=d/\d<=9223372036854775807) j
theorem zn{T:Type}{s:aq×ad->T}{t:Program}{F:ab}{n:Bool}{U G:aq}{b:Array Field}{o:Nat}{u:List ad}{W:DataW T×List MemPlace}(J:t.underlying U=some (.slice G))(K:t.underlying G=some (.struct b))(L:tD t b)(v:t.cellsOf G=b.size)(w:0<b.size)(X:DataW.trod s t F 0 (λ_=>true) n o U u=some W):∃(r:Option ao)(E a:Nat)(M:Nat->Nat->Int),u=[ai r E a]/\E<=a/\a<=maxLen/\ba F r E b.size M:=by rcases open_slice J X with⟨e,N⟩|⟨r,f,a,af,E,am,Y,e,_,P,x,y,N,z⟩;(·exact⟨none,0,0,λ_ _=>0,e,O,by unfold maxLen;omega,O,.inl rfl,λj g=>O⟩);·simp only[if_true]at y;(have p:∀j,j<f->∃A:Nat->Int,∀c,c<b.size->F.cell? ((r.add (j*b.size)).add c)=some (ae ah (A c))/\-9223372036854775808<=A c/\A c<=9223372036854775807:=by intro j g;obtain⟨V,B,Q⟩:=z j O;obtain⟨Z,A,C⟩:=yV K L v Q;rw[v]at B;obtain⟨_,R,k⟩:=World.cells?_some B;exact⟨A,λc d=>⟨(k c O).trans (C c d).1,(C c d).2⟩⟩);obtain⟨M,h⟩:=choose_lt p;refine⟨some r,f,a,M,e,P,x,by unfold maxLen at x;omega,?_,λj g c d=>(h j g c d).2⟩;by_cases S:f=0;(·exact .inl S);·obtain⟨ac,D,q⟩:=r;have m:=(h 0 O 0 w).1;(have l:q=none:=by simpa[Addr.add]using World.cell?_spot m);subst l;refine .inr ⟨ac,D,rfl,?_,λj g c d=>?_⟩;(·have i:=dN m;rw[cd,cd]at i;exact i);·have i:=(h j g c d).1;rw[cd,cd,Nat.add_assoc]at i;exact i
def AS:Option TypeDesc->Bool|some (.int ah)=>true|_=>false
theorem Fz{b:Option TypeDesc}(a:AS b=true):b=some (.int ah):=by unfold AS at a;split at a;(·rfl);·cases a
def rq(c:Program)(a:Array Field):Bool:=(List.range a.size).all λd=>match a[d]?with|some b=>AS (c.underlying b.type)&&b.offset==d&&c.cellsOf b.type==1|none=>false
theorem se{f:Program}{b:Array Field}(h:rq f b=true):tD f b:=by intro g i c;(have e:g<b.size:=by refine Nat.lt_of_not_le λd=>?_;rw[Array.getElem?_eq_none d]at c;cases c);have a:=List.all_eq_true.1 h g (by simpa using e);rw[c]at a;simp only[Bool.and_eq_true,beq_iff_eq]at a;exact⟨Fz a.1.1,a.1.2,a.2⟩
end
def bu(a:Int):Prop:=-9223372036854775808<=a/\a<=9223372036854775807
theorem Sh{a:Int}(b:-9223372036854775808<=a)(c:a<=9223372036854775807):bu a:=⟨b,c⟩
def ar(w:ab)(b:Nat)(vs:Array ad)(T:aq):Prop:=w.heap[b]?=some (aj vs T (0,0))
theorem ar.cell{w:ab}{b:Nat}{vs:Array ad}{T:aq}(a:ar w b vs T):∀i,w.cell? (ak b i)=vs[i]?:=λi=>by unfold ar at a;simp[World.cell?,a]
theorem ar.frozen{w:ab}{b:Nat}{vs:Array ad}{T:aq}(a:ar w b vs T):∀i,w.frozen? ⟨b,i,none⟩=false:=λi=>by unfold ar at a;simp[World.frozen?,a]
theorem ar.lt{w:ab}{b:Nat}{vs:Array ad}{T:aq}(a:ar w b vs T):b<w:=by unfold ar at a;exact(Array.getElem?_eq_some_iff.1 a).1
theorem ar.below{w a:ab}{B b:Nat}{vs:Array ad}{T:aq}(e:ar w b vs T)(c:aa B w a)(d:b<B):ar a b vs T:=by unfold ar;rw[c.block b d];exact e
theorem ar.next{w a:ab}{b:Nat}{vs:Array ad}{T:aq}(d:ar w b vs T)(c:aa w w a):ar a b vs T:=d.below c d.lt
theorem ar.new(w:ab)(vs:Array ad)(T:aq):ar (w.alloc (aj vs T)) w vs T:=by exact heap_alloc_new _ _
theorem ar.alloc{w:ab}{b:Nat}{vs:Array ad}{T:aq}(a:ar w b vs T)(o:Obj):ar (w.alloc o) b vs T:=by unfold ar;rw[Below.heap_alloc _ _ _ a.lt];exact a
theorem ar.drew{w:ab}{b:Nat}{vs:Array ad}{T:aq}(a:ar w b vs T):ar w.drew b vs T:=a
theorem ar.set{w:ab}{b:Nat}{vs:Array ad}{T:aq}(a:ar w b vs T)(i:Nat)(v:ad):ar (w.setCell (ak b i) v) b (vs.setIfInBounds i v) T:=by unfold ar;exact heap_setCell_same w b i _ _ v a
theorem ar.gk{w:ab}{b:Nat}{vs:Array ad}{T:aq}(c:ar w b vs T)(p:ao)(v:ad)(a:b≠p.block):ar (w.setCell p v) b vs T:=by unfold ar;rw[Below.heap_setCell _ _ _ _ a];exact c
theorem ar.grown{w c:ab}{b:Nat}{vs:Array ad}{T:aq}(f:ar w b vs T){a:Option Nat}(e:w.grownBy c a)(d:some b≠a):ar c b vs T:=by unfold ar;rw[e.block b f.lt d];exact f
theorem dv{w:ab}{b:Nat}{a:Array ad}(d:∀i,w.cell? (ak b i)=a[i]?)(p:ao)(u:ad)(c:b≠p.block):∀i,(w.setCell p u).cell? (ak b i)=a[i]?:=λi=>by rw[World.cell?_of_block (w:=w) (Below.heap_setCell w p u b c)];exact d i
theorem bw{a b:Bool}(c:a=b):Ending.returned (aD a)=aG (aD b):=by rw[c]
theorem cB{k:IntKind}{a b:Int}(c:a=b):Ending.returned (ae k a)=aG (ae k b):=by rw[c]
theorem kF{a b:IntKind}{c d e f:Int}(g:(c,d)=(e,f)):Ending.returned (.tuple #[ae a c,ae b d])=aG (.tuple #[ae a e,ae b f]):=by cases g;rfl
theorem bS{a b:ab}(c:Obj)(d:aa (a.alloc c).heap.size (a.alloc c) b):aa a a b:=(aC.alloc au _).trans (d.mono aI)
theorem aT{a w b:ab}(c:aa a a w)(d:aa w w b):aa a a b:=c.trans (d.mono c.size)
theorem cC{a w b:ab}(c:I (aa a a w))(d:aa w w b):I (aa a a b):=H (aT c.o d)
theorem j5{b a:ab}(c:aa b b a){d:ao}{e:ad}(f:b.cell? d=some e):a.cell? d=some e:=aY c f (dN f)
theorem Ch{c:Nat}{a d b:ab}{i:Nat}(j:aa c a d)(e:d.grownBy b (some i))(f:c<=d)(g:c<=i):aa c a b:=j.grown e f (λk h=>by cases h;exact g)
theorem ot(w:ab)(a:Option Nat):w.grownBy w a:=⟨rfl,rfl,rfl,au,λ_ _ _=>rfl⟩
theorem bx{w c:ab}{o:Nat}{p:Option ao}{n d:Nat}{f:Nat->Nat->Int}(q:ba w p n d f)(e:aa o w c)(g:w<=o):ba c p n d f:=by obtain⟨i,b,j⟩:=q;refine⟨i,?_,j⟩;rcases b with b|⟨r,h,s,a,k⟩;(·exact .inl b);·exact .inr ⟨r,h,s,aP a (e.mono g).size,λt l u m=>aY e (k t l u m) (aP a g)⟩
theorem pE{b:ab}{c:Option ao}{d a:Nat}{e:Nat->Nat->Int}(f:I (ba b c d a e)):I (ba b.drew c d a e):=f
theorem fb{a w:ab}(b:I (aa a a w)):I (aa a a w.drew):=H b.drew
theorem er{b:ab}{c:Option ao}{d a:Nat}{e:Nat->Nat->Int}(g:I (ba b c d a e))(f:Obj):I (ba (b.alloc f) c d a e):=H (bx g.o ((al b b).alloc au f) au)
theorem gC{w0 w a:ab}(b:Obj)(c:I (aa w0 w0 w))(d:aa (w.alloc b).heap.size (w.alloc b) a):I (aa w0 w0 a):=H (aT c.o (bS b d))
theorem nH{i:ab}{l:Option ao}{m c:Nat}{j:Nat->Nat->Int}(n:I (ba i l m c j))(e:Nat)(f:e<m):∃g a,l=some ⟨g,a,none⟩/\g<i.heap.size/\(∀b,b<c->i.cell? (ak g (a+(e*c+b)))=some (ae ah (j e b)))/\∀b,b<c->bu (j e b):=by rcases n.2.1 with h|⟨g,a,o,h,k⟩;(·omega);·exact⟨g,a,o,h,λb d=>k e f b d,λb d=>n.2.2 e f b d⟩
theorem gG{d:ab}{j:Option ao}{k:Nat}{e:Nat->Nat->Int}(l:I (ba d j k 1 e))(b:Nat)(f:b<k):∃c a,j=some ⟨c,a,none⟩/\c<d.heap.size/\d.cell? (ak c (a+b))=some (ae ah (e b 0))/\bu (e b 0):=by obtain⟨c,a,m,g,h,i⟩:=nH l b f;exact⟨c,a,m,g,by have:=h 0 O;simpa using this,i 0 O⟩
theorem fY{w:ab}{i:Option ao}{j:Nat}{f:Nat->Nat->Int}(k:I (ba w i j 2 f))(b:Nat)(g:b<j):∃c a,i=some ⟨c,a,none⟩/\c<w.heap.size/\w.cell? (ak c (a+b*2))=some (ae ah (f b 0))/\w.cell? (ak c (a+b*2+1))=some (ae ah (f b 1))/\bu (f b 0)/\bu (f b 1):=by obtain⟨c,a,l,h,d,e⟩:=nH k b g;exact⟨c,a,l,h,d 0 O,d 1 O,e 0 O,e 1 O⟩
theorem fX{w:ab}{h:Option ao}{i:Nat}{f:Nat->Nat->Int}(j:I (ba w h i 3 f))(k:Nat)(e:k<i):∃b a,h=some ⟨b,a,none⟩/\b<w.heap.size/\w.cell? (ak b (a+k*3))=some (ae ah (f k 0))/\w.cell? (ak b (a+k*3+1))=some (ae ah (f k 1))/\w.cell? (ak b (a+k*3+2))=some (ae ah (f k 2))/\bu (f k 0)/\bu (f k 1)/\bu (f k 2):=by obtain⟨b,a,l,g,c,d⟩:=nH j k e;exact⟨b,a,l,g,c 0 O,c 1 O,c 2 O,d 0 O,d 1 O,d 2 O⟩
theorem hA{w:ab}{i:Option ao}{n:Nat}{f:Nat->Nat->Int}(j:I (ba w i n 4 f))(b:Nat)(g:b<n):∃e a,i=some ⟨e,a,none⟩/\e<w.heap.size/\w.cell? (ak e (a+b*4))=some (ae ah (f b 0))/\w.cell? (ak e (a+b*4+1))=some (ae ah (f b 1))/\w.cell? (ak e (a+b*4+2))=some (ae ah (f b 2))/\w.cell? (ak e (a+b*4+3))=some (ae ah (f b 3))/\bu (f b 0)/\bu (f b 1)/\bu (f b 2)/\bu (f b 3):=by obtain⟨e,a,k,h,c,d⟩:=nH j b g;exact⟨e,a,k,h,c 0 O,c 1 O,c 2 O,c 3 O,d 0 O,d 1 O,d 2 O,d 3 O⟩
theorem bH{b:Nat}{a w:ab}(c:aa b a w)(d:Nat):aa b a (w.drewN d):=c.trans ⟨rfl,rfl,rfl,au,λ_ _=>rfl⟩
def Si:Nat->(Nat->Nat)->Nat|0,_=>0|n+1,a=>a 0+65536*Si n λb=>a (b+1)
def T9(b:Nat->Nat)(c d:Nat):Nat->Nat:=λa=>if a=c then d else b a
def cL(a:Nat->Int)(n:Nat):List ad:=(List.range n).map λb=>ae ah (a b)
theorem FA(a:Nat->Int)(b:Nat):cL a (b+1)=cL a b++[ae ah (a b)]:=by simp[cL,List.range_succ]
theorem gX(b:Nat->Int)(c a:Nat)(d:a<c):(cL b c)[a]?=some (ae ah (b a)):=by simp[cL,d]
theorem jR(b:Nat->Int)(a:Nat):(cL b a).length=a:=by simp[cL]
theorem Js(f:Nat->Int)(c d:Nat)(g:Int):(cL f c).set d (ae ah g)=cL (λb=>if b=d then g else f b) c:=by apply List.ext_getElem?;intro b;rw[List.getElem?_set];by_cases e:d=b;(·subst e;by_cases a:d<c;(·simp[cL,a]);·simp[cL,a]);·simp only[cL,List.getElem?_map,e,if_false,aE (Ne.symm e)];by_cases a:b<c;(·rw[List.getElem?_range a];simp[Ne.symm e]);·rw[List.getElem?_eq_none (by simpa using a)];rfl
theorem hQ:(prog.info? 3).map (λi=>(i.zero,i.size,i.bytes))=some (some (ae ah 0),1,8):=ay
structure ax(S:Nat->Prop)(w w':ab):Prop where
 os:w'.os=w.os
 tape:w'.tape=w.tape
 output:w'.output=w.output
 size:w.heap.size<=w'.heap.size
 block:∀k,k<w.heap.size->¬S k->w'.heap[k]?=w.heap[k]?
theorem ax.refl(S:Nat->Prop)(w:ab):ax S w w:=⟨rfl,rfl,rfl,au,λ_ _ _=>rfl⟩
theorem ax.trans{S:Nat->Prop}{a b c:ab}(d:ax S a b)(k:ax S b c):ax S a c:=⟨k.os.trans d.os,k.tape.trans d.tape,k.output.trans d.output,Nat.le_trans d.size k.size,λi e f=>(k.block i (aP e d.size) f).trans (d.block i e f)⟩
theorem ax.mono{S T:Nat->Prop}{a b:ab}(c:ax S a b)(k:∀i,S i->T i):ax T a b:=⟨c.os,c.tape,c.output,c.size,λi d e=>c.block i d λx=>e (k i x)⟩
theorem ax.a6{S:Nat->Prop}{a b:ab}(c:aa a a b):ax S a b:=⟨c.os,c.tape,c.output,c.size,λi d _=>c.block i d⟩
theorem ax.fq{S:Nat->Prop}{a b:ab}{c:Option Nat}(d:a.grownBy b c)(k:∀i,c=some i->S i):ax S a b:=⟨d.os,d.tape,d.output,d.size,λi e f=>d.block i e λg=>f (k i g.symm)⟩
theorem ax.set{S:Nat->Prop}(w:ab)(p:ao)(v:ad)(b:S p.block):ax S w (w.setCell p v):=⟨rfl,rfl,rfl,by simp[World.setCell],λi c a=>Below.heap_setCell _ _ _ _ λd=>a (by rw[d];exact b)⟩
theorem ax.drewN{S:Nat->Prop}(w:ab)(n:Nat):ax S w (w.drewN n):=⟨rfl,rfl,rfl,au,λ_ _ _=>rfl⟩
theorem ax.alloc{S:Nat->Prop}(w:ab)(o:Obj):ax S w (w.alloc o):=ax.a6 (aC.alloc au _)
theorem ax.below{S:Nat->Prop}{B:Nat}{w0 w a:ab}(b:aa B w0 w)(k:ax S w a)(d:B<=w)(e:∀i,S i->B<=i):aa B w0 a:=⟨k.os.trans b.os,k.tape.trans b.tape,k.output.trans b.output,Nat.le_trans b.size k.size,λi c=>(k.block i (aP c d) (λx=>by have:=e i x;omega)).trans (b.block i c)⟩
theorem bm{S:Nat->Prop}{w a:ab}{b:Nat}{c:Array ad}{T:aq}(e:ar w b c T)(k:ax S w a)(d:¬S b):ar a b c T:=by unfold ar;rw[k.block b e.lt d];exact e
theorem jc{S:Nat->Prop}{s g:ab}{a h n c:Nat}{t:aq}{b:Nat}{i:List ad}(u:s.ownsRow a t b (ai (av h) n c) n i)(k:ax S s g)(m:¬S h):g.ownsRow a t b (ai (av h) n c) n i:=by have j:=(u.lt h rfl).2;obtain⟨o,d⟩:=u;refine⟨o,?_⟩;rcases d with d|⟨p,e,l,f,q,r,v⟩;(·exact .inl d);·refine .inr ⟨p,e,l,f,q,?_,v⟩;simp only[Value.slice.injEq,Option.some.injEq,Addr.mk.injEq,and_true,true_and]at f;obtain⟨rfl,rfl⟩:=f;rw[k.block h j m];exact r
theorem cq{w:ab}{c a:Nat}{m:aq}{b:Nat}{v:ad}{n:Nat}{e:List ad}(o:w.ownsRow c m b v n e)(j:∀g,v.ownBlock=some g->a<=g):w.ownsRow a m b v n e:=by obtain⟨k,d⟩:=o;refine⟨k,?_⟩;rcases d with d|⟨g,f,h,i,p,l,q⟩;(·exact .inl d);·exact .inr ⟨g,f,h,i,j g (by rw[i];rfl),l,q⟩
theorem FB{m:Nat->Prop}{w d:ab}{f:Nat}{a:Nat}{n e:Nat}{o:Nat->Nat->Int}(q:I (ba w (some ⟨f,a,none⟩) n e o))(p:ax m w d)(g:¬m f):I (ba d (some ⟨f,a,none⟩) n e o):=by obtain⟨h,c,i⟩:=q.o;refine H ⟨h,?_,i⟩;rcases c with c|⟨u,a,r,b,j⟩;(·exact .inl c);·cases r;refine .inr ⟨_,_,rfl,aP b p.size,λs k t l=>?_⟩;rw[World.cell?_of_block (w:=w) (p.block _ b g)];exact j s k t l
theorem hh{w:ab}{a o n d b:Nat}{p q:aq}{c:Nat}{g:List ad}{h:Array ad}(s:w.ownsRow a p c (ai (av o) n d) n g)(k:ar w b h q)(e:p≠q):o≠b:=by rcases s.2 with⟨i,_⟩|⟨t,j,r,f,u,l,v⟩;(·simp at i);·simp only[Value.slice.injEq,Option.some.injEq,Addr.mk.injEq,and_true,true_and]at f;obtain⟨rfl,rfl⟩:=f;intro m;subst m;unfold ar at k;rw[l]at k;simp at k;exact e k.2
theorem bM{w:ab}{b c:Nat}{g h:aq}{e f:Array ad}(i:ar w b e g)(d:ar w c f h)(a:g≠h):b≠c:=by intro j;subst j;unfold ar at i d;rw[i]at d;simp at d;exact a d.2
theorem wJ{j:ab}{b f c e:Nat}{m:aq}{g:Nat->Int}(k:j.ownsRow b m 1 (ai (av f) c e) c (cL g c))(h:c<=9223372036854775807)(i:∀a,a<c->bu (g a)):I (ba j (av f) c 1 λa _=>g a):=by refine H ⟨h,.inr ⟨f,0,rfl,(k.lt f rfl).2,λa d l n=>?_⟩,λa d l _=>i a d⟩;have:=k.cellAt a O;rw[gX g c a d]at this;obtain rfl:l=0:=O;simpa using this
theorem FC{k:ab}{a:Nat}{o:aq}{b:Nat}{g:ad}{l:Nat}{h:List ad}(m:k.ownsRow a o b g l h)(d:g≠ai none 0 0):∃c p,g=ai (av c) l p/\a<=c/\c<k.heap.size:=by rcases m.2 with⟨i,_⟩|⟨c,e,n,f,j,q,r⟩;(·exact absurd i d);·exact⟨c,e,f,j,(m.lt c (by rw[f];rfl)).2⟩
theorem AU(k:ab){h:Array Oper}{rest:List Oper}{C:Oper}{D:Act}{R:Exit->Act->ab->Prop}(i:C.guard=.none)(E F:Operand)(p:aq)(q:C.op=.call {callee:=.builtin .append,args:=#[E,F],argTypes:=#[p,p]})(r:prog.underlying p=some (.slice 3))(a:Nat)(l:ad)(o:Nat)(e:List ad)(s:D.eval E=l)(b:k.ownsRow a 3 1 l o e)(G:Option ao)(c K:Nat)(J:Nat->Int)(t:D.eval F=ai G c K)(L:G=none->K=0/\c=0)(M:I (ba k G c 1 λV _=>J V))(S:o+c<=9223372036854775807)(d:(o+c)*8<=140737488355328)(f:a<=k)(T:∀m n,n.ownsRow a 3 1 m (o+c) (e++cL J c)->k.grownBy n l.ownBlock->(m=ai none 0 0↔l=ai none 0 0/\c=0)->wpList prog h R rest (D.put C.dst m) n):wpList prog h R (C::rest) D k:=by obtain⟨u,v,w,x,y⟩:=info_parts hQ;cases G with|none=>obtain⟨rfl,rfl⟩:=L rfl;refine wpList_append_own_none i E F p q a 3 u 1 r v l o e s b t ?_;exact T l k (by simpa[cL]using b) (ot _ _) ⟨λz=>⟨z,rfl⟩,λz=>z.1⟩|some N=>refine wpList_append_own k i E F p q a 3 u (aA 0) 1 8 r v w x y rfl an l o e s b N c K (cL J c) t (by rw[jR,Nat.mul_one]) (λP W g=>?_) (λW A=>?_) (by unfold maxLen;omega) d f T;(·(have j:P<c:=by refine Nat.lt_of_not_le λB=>?_;rw[List.getElem?_eq_none (by rw[jR];exact B)]at g;cases g);rw[gX J c P j]at g;cases g;obtain⟨X,U,z,_,Q,_⟩:=gG M P j;cases z;rw[cd];exact Q);·simp only[cL,List.mem_map]at A;obtain⟨_,_,rfl⟩:=A;rfl
theorem Ci(c:ab)(a:Nat)(o:a<=1000):∃b,(Instr.makeSlice 29 (aA a) (aA a)).run prog c=.ok (ai (av c) a a) b/\b.ownsRow c.heap.size 3 1 (ai (av c) a a) a (cL (λ_=>0) a)/\c.grownBy b none:=by obtain⟨h,i,d,e,f⟩:=info_parts hQ;obtain⟨b,j,g,k⟩:=run_makeSlice_full c c.heap.size 29 3 h (aA 0) 1 underlying29 i d e ah ah a O (by rw[f];omega) (by unfold maxLen;omega) au;refine⟨b,j,?_,k⟩;(have p:(madeCells (Value.int ah 0).cells (a*1)).toList=cL (λ_=>0) a:=by apply List.ext_getElem?;intro l;unfold cL;by_cases n:l<a;(·have m:l%1=0:=Nat.mod_one l;simp[madeCells,Value.cells,n,m]);·simp[madeCells,Value.cells,n]);rw[p]at g;exact g
end Go.Proofs.YtihckgobeanocaaGreat
