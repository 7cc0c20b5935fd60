import Derived.WalkKit
import Derived.ProofKit
import Derived.KernelRfl
import Derived.Lib.Hide
import Derived.Test.YtihckgobeanocaaGreatProg
import Derived.WalkSmall
import Derived.OpenShut
import Derived.Deep.Slices
import Derived.Lib.SmallJoins
import Derived.Deep.RegionHeld3
import Derived.WalkLawsBesides
import Derived.BigQuiet
import Derived.Deep.QuietTactic
import Derived.Outline
import Derived.OneCell
import Derived.Laws.AppendOwnNone
import Derived.Laws.OwnMore
/- A part of TopExact; no conditions. -/
set_option linter.all false
set_option maxRecDepth 100000
set_option maxHeartbeats 0
section
open Go Go.RowKit
abbrev Go.RowKit.Below.A:=@Below.cell
abbrev Go.RowKit.Below.B:=@Below.mono
abbrev Go.RowKit.Below.C:=@Below.trans
abbrev Go.RowKit.Below.J:=@Below.frozen
abbrev Go.RowKit.Below.Q:=@Below.alloc
abbrev Go.RowKit.Below.S:=@Below.setCell
abbrev Go.Calls.B:=@Calls.mono
abbrev Go.CallsD.B:=@CallsD.mono
abbrev Eq.L:=@Eq.symm
abbrev Eq.C:=@Eq.trans
abbrev Ne.L:=@Ne.symm
abbrev Iff.L:=@Iff.symm
abbrev Iff.C:=@Iff.trans
abbrev Go.World.ownsRow.Q:=@World.ownsRow.alloc
abbrev Go.World.ownsRow.N:=@World.ownsRow.lt
end
namespace Go.Proofs.YtihckgobeanocaaGreat
open Go.RowKit Go.Proofs.Tryz
def I(p:Prop):Prop:=p
theorem I.o{p:Prop}(h:I p):p:=h
theorem H{p:Prop}(h:p):I p:=h
theorem O{p:Prop}(h:p:=by omega):p:=h
theorem ay{p:Prop}(h:p:=by kernel_rfl):p:=h
theorem an{p:Prop}(h:p:=by decide):p:=h
theorem aI{p:Prop}(h:p:=by simp):p:=h
theorem bh{p:Prop}(h:p:=by simp;omega):p:=h
theorem fR{p:Prop}(h:p:=by first|exact Nat.le_refl _|(simp;done)|(simp;omega)|omega):p:=h
theorem fQ{p:Prop}(h:p:=by first|(simp;done)|(simp;omega)|omega):p:=h
theorem ee{p:Prop}(h:p:=by go_num):p:=h
theorem cE{p:Prop}(h:p:=by go_simp):p:=h
theorem e7{p:Prop}(h:p:=by assumption):p:=h
theorem jx{p:Prop}(h:p:=by dsimp only;omega):p:=h
theorem yT{p:Prop}(h:p:=by decide+kernel):p:=h
theorem dw{p:Prop}(h:p:=by simp[intOf];omega):p:=h
instance:Coe World Nat:=⟨fun w=>w.heap.size⟩
theorem au{n:Nat}:n<=n:=Nat.le_refl n
theorem aC{n:Nat}{w:World}:Below n w w:=Below.refl n w
theorem aH{c:Prop}{h:Decidable c}(k:c){α:Sort _}{t e:α}:ite c t e=t:=if_pos k
theorem aE{c:Prop}{h:Decidable c}(k:¬c){α:Sort _}{t e:α}:ite c t e=e:=if_neg k
theorem aJ{α:Sort _}(a:α):∃b,a=b:=⟨a,rfl⟩
theorem bR:(∀{α:Type}(l:List α)(i:Nat)(a:α),l.toArray.setIfInBounds i a=(l.set i a).toArray)/\(∀{α:Type}(a b:α)(l:List α),(a::l).set 0 b=b::l)/\(∀{α:Type}(a b:α)(l:List α)(n:Nat),(a::l).set (n+1) b=a::l.set n b)/\(∀{α:Type}(l:List α)(i:Nat)(h:i<l.toArray.size),l.toArray[i]=l[i]'(by simpa using h))/\(∀{α:Type}(a:α)(l:List α)(i:Nat)(h:i+1<(a::l).length),(a::l)[i+1]=l[i]'(by simpa using h))/\(∀{α:Type}(a:α)(l:List α)(h:0<(a::l).length),(a::l)[0]=a):=by simp
inductive eJ|ak(a b:Nat)|av(a:Nat)|aA(a:Int)|bo(a:Nat)|bq(a b c:Int)|ck(a b c d:Int)|bO(a b c d e f:Int)|kC(a b:Bool)(c d:Int)|bC(a:Option Addr)(b c:Nat)(d:Option Addr)(e f:Nat)(g:Option Addr)(h i:Nat)(j:Option Addr)(k l:Nat)(m:Int)(n:Option Addr)(o p:Nat)(q:Option Addr)(r s:Nat)(t u v:Int)(w:Option Addr)(x y:Nat)(z A B:Int)(C:Option Addr)(D E F G H I J:Nat)(K:Option Addr)(L:Value)|ij(a b:Int)|b7|ek(a:Nat)(b:Int)|bt(a:Option Addr)(b c:Nat)(d:Option Addr)(e f:Nat)(g:Option Addr)(h i:Nat)(j k l m:Int)|gB(a b c d:Int)(e:Option Addr)(f g:Nat)(h:Option Addr)(i j:Nat)(k l m n o p:Int)(q:Nat)|fW(a b:Nat)|sw(a b c d e f g h i j:Int)(k:Bool)|e4(a b c d e:Int)|du(a:Option Addr)(b c:Nat)(d:Option Addr)(e f:Nat)(g:Option Addr)(h i:Nat)(j:Option Addr)(k l:Nat)(m:Option Addr)(n o:Nat)(p q r s t u:Int)(v:Option Addr)(w x:Nat)(y:Option Addr)(z A:Nat)|dU|dY(a:Nat)(b c:Int)|fj(a:Option Addr)(b c:Nat)(d:Option Addr)(e f:Nat)(g h i j k l:Int)|gA(a:Option Addr)(b c:Nat)(d:Option Addr)(e f:Nat)(g:Option Addr)(h i:Nat)(j:Option Addr)(k l:Nat)(m:Int)(n:Option Addr)(o p:Nat)(q:Option Addr)(r s:Nat)(t u v:Int)(w:Option Addr)(x y:Nat)|hz|ez|cl|dI(a:Nat)(b:Value)|e5(a:Nat)(b:Int)(c:Value)|kB(a b:Int)(c:Option Addr)(d e:Nat)(f:Option Addr)(g h:Nat)(i j k l m n o:Int)|hP(a:Value)(b:Bool)|bV(a:Int)|jJ(a:Nat)(b c d e:Int)|fM(a b:Bool)|pr(a b:Int)(c:Option Addr)(d e:Nat)(f:Option Addr)(g h:Nat)(i j k l m n:Int)(o:Nat)(p:Value)(q:Int)|ej(a b:Int)(c:Option Addr)(d e:Nat)|pq(a b c d e f g:Int)(h:Bool)|hy|nt(a b:Int)(c:Bool)|e6(a b c:Nat)|tC(a:Int)(b:Option Addr)(c d:Nat)|iM(a:Option Addr)(b c:Nat)(d:Option Addr)(e f:Nat)(g:Option Addr)(h i:Nat)(j:Option Addr)(k l:Nat)(m:Int)(n:Option Addr)(o p:Nat)(q:Option Addr)(r s:Nat)(t u v:Int)(w:Option Addr)(x y:Nat)|ei(a:Option Addr)(b c:Nat)(d:Option Addr)(e f:Nat)(g:Option Addr)(h i:Nat)(j:Option Addr)(k l:Nat)(m n o p:Int)(q:Option Addr)(r s:Nat)(t:Option Addr)(u v:Nat)(w:Option Addr)(x y:Nat)(z:Int)|fs(a b:Bool)(c d:Int)(e:Value)(f:Int)|jK|oy(a b:Int)(c:Value)|pe|ps(a:Nat)(b:Option Addr)(c d:Nat)(e:Value)
open eJ
instance(a b:Nat):CoeDep eJ (.ak a b) Addr:=⟨⟨a,b,none⟩⟩
instance(a:Nat):CoeDep eJ (.av a) (Option Addr):=⟨some ⟨a,0,none⟩⟩
instance(a:Int):CoeDep eJ (.aA a) Value:=⟨.int .i64 a⟩
instance(a:Nat):CoeDep eJ (.bo a) (Array Value):=⟨#[.pointer (some ⟨a,0,none⟩)]⟩
instance(a b c:Int):CoeDep eJ (.bq a b c) (Array Value):=⟨#[.int .i64 a,.int .i64 b,.int .i64 c]⟩
instance(a b c d:Int):CoeDep eJ (.ck a b c d) (Array Value):=⟨#[.int .i64 a,.int .i64 b,.int .i64 c,.int .i64 d]⟩
instance(a b c d e f:Int):CoeDep eJ (.bO a b c d e f) (Array Value):=⟨#[.int .i64 a,.int .i64 b,.int .i64 c,.int .i64 d,.int .i64 e,.int .i64 f]⟩
instance(a b:Bool)(c d:Int):CoeDep eJ (.kC a b c d) (Array Value):=⟨#[.bool a,.bool b,.int .i64 c,.int .i64 d]⟩
instance(a:Option Addr)(b c:Nat)(d:Option Addr)(e f:Nat)(g:Option Addr)(h i:Nat)(j:Option Addr)(k l:Nat)(m:Int)(n:Option Addr)(o p:Nat)(q:Option Addr)(r s:Nat)(t u v:Int)(w:Option Addr)(x y:Nat)(z A B:Int)(C:Option Addr)(D E F G H I J:Nat)(K:Option Addr)(L:Value):CoeDep eJ (.bC a b c d e f g h i j k l m n o p q r s t u v w x y z A B C D E F G H I J K L) (Array Value):=⟨#[.slice a b c,.slice d e f,.slice g h i,.slice j k l,.int .i64 m,.slice n o p,.slice q r s,.int .i64 t,.int .i64 u,.int .i64 v,.slice w x y,.int .i64 z,.int .i64 A,.int .i64 B,.slice C D E,.pointer (some ⟨F,0,none⟩),.pointer (some ⟨G,0,none⟩),.pointer (some ⟨H,0,none⟩),.pointer (some ⟨I,0,none⟩),.pointer (some ⟨J,0,none⟩),.pointer K,L]⟩
instance(a b:Int):CoeDep eJ (.ij a b) (Array Value):=⟨#[.int .i64 a,.int .i64 b]⟩
instance:CoeDep eJ .b7 (Array Value):=⟨#[.slice none 0 0,.slice none 0 0,.slice none 0 0,.slice none 0 0,.int .i64 0,.int .i64 0,.int .i64 0,.int .i64 0,.slice none 0 0,.slice none 0 0,.slice none 0 0,.int .i64 0]⟩
instance(a:Nat)(b:Int):CoeDep eJ (.ek a b) (Array Value):=⟨#[.pointer (some ⟨a,0,none⟩),.int .i64 b]⟩
instance(a:Option Addr)(b c:Nat)(d:Option Addr)(e f:Nat)(g:Option Addr)(h i:Nat)(j k l m:Int):CoeDep eJ (.bt a b c d e f g h i j k l m) (Array Value):=⟨#[.slice a b c,.slice none 0 0,.slice d e f,.slice g h i,.slice none 0 0,.int .i64 0,.int .i64 0,.int .i64 j,.int .i64 k,.int .i64 l,.int .i64 m,.slice none 0 0,.slice none 0 0]⟩
instance(a b c d:Int)(e:Option Addr)(f g:Nat)(h:Option Addr)(i j:Nat)(k l m n o p:Int)(q:Nat):CoeDep eJ (.gB a b c d e f g h i j k l m n o p q) (Array Value):=⟨#[.int .i64 a,.int .i64 b,.int .i64 c,.int .i64 d,.slice e f g,.slice h i j,.int .i64 k,.int .i64 l,.int .i64 m,.int .i64 n,.int .i64 o,.int .i64 p,.pointer (some ⟨q,0,none⟩)]⟩
instance(a b:Nat):CoeDep eJ (.fW a b) (Array Value):=⟨#[.pointer (some ⟨a,0,none⟩),.pointer (some ⟨b,0,none⟩)]⟩
instance(a b c d e f g h i j:Int)(k:Bool):CoeDep eJ (.sw a b c d e f g h i j k) (Array Value):=⟨#[.int .i64 a,.int .i64 b,.int .i64 c,.int .i64 d,.int .i64 e,.int .i64 f,.int .i64 g,.int .i64 h,.int .i64 i,.int .i64 j,.bool k]⟩
instance(a b c d e:Int):CoeDep eJ (.e4 a b c d e) (Array Value):=⟨#[.int .i64 a,.int .i64 b,.int .i64 c,.int .i64 d,.int .i64 e]⟩
instance(a:Option Addr)(b c:Nat)(d:Option Addr)(e f:Nat)(g:Option Addr)(h i:Nat)(j:Option Addr)(k l:Nat)(m:Option Addr)(n o:Nat)(p q r s t u:Int)(v:Option Addr)(w x:Nat)(y:Option Addr)(z A:Nat):CoeDep eJ (.du a b c d e f g h i j k l m n o p q r s t u v w x y z A) (Array Value):=⟨#[.slice a b c,.slice d e f,.slice g h i,.slice j k l,.slice m n o,.int .i64 p,.int .i64 q,.int .i64 r,.int .i64 s,.int .i64 t,.int .i64 u,.slice v w x,.slice y z A]⟩
instance:CoeDep eJ .dU (Array Value):=⟨#[.int .i64 0,.int .i64 0,.int .i64 0,.int .i64 0]⟩
instance(a:Nat)(b c:Int):CoeDep eJ (.dY a b c) (Array Value):=⟨#[.pointer (some ⟨a,0,none⟩),.int .i64 b,.int .i64 c]⟩
instance(a:Option Addr)(b c:Nat)(d:Option Addr)(e f:Nat)(g h i j k l:Int):CoeDep eJ (.fj a b c d e f g h i j k l) (Array Value):=⟨#[.slice a b c,.slice d e f,.int .i64 g,.int .i64 h,.int .i64 i,.int .i64 j,.int .i64 k,.int .i64 l]⟩
instance(a:Option Addr)(b c:Nat)(d:Option Addr)(e f:Nat)(g:Option Addr)(h i:Nat)(j:Option Addr)(k l:Nat)(m:Int)(n:Option Addr)(o p:Nat)(q:Option Addr)(r s:Nat)(t u v:Int)(w:Option Addr)(x y:Nat):CoeDep eJ (.gA a b c d e f g h i j k l m n o p q r s t u v w x y) (Array Value):=⟨#[.slice a b c,.slice d e f,.slice g h i,.slice j k l,.int .i64 m,.slice n o p,.slice q r s,.int .i64 t,.int .i64 u,.int .i64 v,.slice w x y]⟩
instance:CoeDep eJ .hz (Array Value):=⟨#[.int .i64 0,.int .i64 0,.int .i64 0,.int .i64 0,.int .i64 0,.int .i64 0]⟩
instance:CoeDep eJ .ez (Array Value):=⟨#[.int .i64 0,.int .i64 0,.slice none 0 0]⟩
instance:CoeDep eJ .cl (Array Value):=⟨#[.slice none 0 0]⟩
instance(a:Nat)(b:Value):CoeDep eJ (.dI a b) (Array Value):=⟨#[.pointer (some ⟨a,0,none⟩),b]⟩
instance(a:Nat)(b:Int)(c:Value):CoeDep eJ (.e5 a b c) (Array Value):=⟨#[.pointer (some ⟨a,0,none⟩),.int .i64 b,c]⟩
instance(a b:Int)(c:Option Addr)(d e:Nat)(f:Option Addr)(g h:Nat)(i j k l m n o:Int):CoeDep eJ (.kB a b c d e f g h i j k l m n o) (Array Value):=⟨#[.int .i64 a,.int .i64 b,.slice c d e,.slice f g h,.int .i64 i,.int .i64 j,.int .i64 k,.int .i64 l,.int .i64 m,.int .i64 n,.int .i64 o]⟩
instance(a:Value)(b:Bool):CoeDep eJ (.hP a b) (Array Value):=⟨#[a,.int .i64 0,.int .i64 0,.int .i64 0,.slice none 0 0,.bool b]⟩
instance(a:Int):CoeDep eJ (.bV a) (Array Value):=⟨#[.int .i64 a]⟩
instance(a:Nat)(b c d e:Int):CoeDep eJ (.jJ a b c d e) (Array Value):=⟨#[.pointer (some ⟨a,0,none⟩),.int .i64 b,.int .i64 c,.int .i64 d,.int .i64 e]⟩
instance(a b:Bool):CoeDep eJ (.fM a b) (Array Value):=⟨#[.bool a,.bool b,.int .i64 0,.int .i64 0]⟩
instance(a b:Int)(c:Option Addr)(d e:Nat)(f:Option Addr)(g h:Nat)(i j k l m n:Int)(o:Nat)(p:Value)(q:Int):CoeDep eJ (.pr a b c d e f g h i j k l m n o p q) (Array Value):=⟨#[.int .i64 a,.int .i64 b,.slice c d e,.slice f g h,.int .i64 i,.int .i64 j,.int .i64 k,.int .i64 l,.int .i64 m,.int .i64 n,.pointer (some ⟨o,0,none⟩),p,.int .i64 q]⟩
instance(a b:Int)(c:Option Addr)(d e:Nat):CoeDep eJ (.ej a b c d e) (Array Value):=⟨#[.int .i64 a,.int .i64 b,.slice c d e]⟩
instance(a b c d e f g:Int)(h:Bool):CoeDep eJ (.pq a b c d e f g h) (Array Value):=⟨#[.int .i64 a,.int .i64 b,.int .i64 c,.int .i64 0,.int .i64 0,.int .i64 0,.int .i64 d,.int .i64 e,.int .i64 f,.int .i64 g,.bool h]⟩
instance:CoeDep eJ .hy (Array Value):=⟨#[.int .i64 0,.int .i64 0,.int .i64 0]⟩
instance(a b:Int)(c:Bool):CoeDep eJ (.nt a b c) (Array Value):=⟨#[.int .i64 a,.int .i64 b,.bool c]⟩
instance(a b c:Nat):CoeDep eJ (.e6 a b c) (Array Value):=⟨#[.pointer (some ⟨a,0,none⟩),.pointer (some ⟨b,0,none⟩),.pointer (some ⟨c,0,none⟩)]⟩
instance(a:Int)(b:Option Addr)(c d:Nat):CoeDep eJ (.tC a b c d) (Array Value):=⟨#[.int .i64 a,.slice b c d]⟩
instance(a:Option Addr)(b c:Nat)(d:Option Addr)(e f:Nat)(g:Option Addr)(h i:Nat)(j:Option Addr)(k l:Nat)(m:Int)(n:Option Addr)(o p:Nat)(q:Option Addr)(r s:Nat)(t u v:Int)(w:Option Addr)(x y:Nat):CoeDep eJ (.iM a b c d e f g h i j k l m n o p q r s t u v w x y) (Array Value):=⟨#[.slice a b c,.slice d e f,.slice g h i,.slice j k l,.int .i64 m,.slice n o p,.slice q r s,.int .i64 t,.int .i64 u,.int .i64 v,.slice w x y,.slice none 0 0,.slice none 0 0,.slice none 0 0,.slice none 0 0]⟩
instance(a:Option Addr)(b c:Nat)(d:Option Addr)(e f:Nat)(g:Option Addr)(h i:Nat)(j:Option Addr)(k l:Nat)(m n o p:Int)(q:Option Addr)(r s:Nat)(t:Option Addr)(u v:Nat)(w:Option Addr)(x y:Nat)(z:Int):CoeDep eJ (.ei a b c d e f g h i j k l m n o p q r s t u v w x y z) (Array Value):=⟨#[.slice a b c,.slice d e f,.slice g h i,.slice j k l,.int .i64 m,.int .i64 n,.int .i64 o,.int .i64 p,.slice q r s,.slice t u v,.slice w x y,.int .i64 z]⟩
instance(a b:Bool)(c d:Int)(e:Value)(f:Int):CoeDep eJ (.fs a b c d e f) (Array Value):=⟨#[.bool a,.bool b,.int .i64 c,.int .i64 d,e,.int .i64 f]⟩
instance:CoeDep eJ .jK (Array Value):=⟨#[.int .i64 0,.int .i64 0,.int .i64 0,.int .i64 0,.int .i64 0,.int .i64 0,.int .i64 0,.int .i64 0,.int .i64 0]⟩
instance(a b:Int)(c:Value):CoeDep eJ (.oy a b c) (Array Value):=⟨#[.int .i64 a,.int .i64 b,c]⟩
instance:CoeDep eJ .pe (Array Value):=⟨#[.int .i64 0,.int .i64 0]⟩
instance(a:Nat)(b:Option Addr)(c d:Nat)(e:Value):CoeDep eJ (.ps a b c d e) (Array Value):=⟨#[.pointer (some ⟨a,0,none⟩),.slice b c d,e]⟩
open Obj renaming cells->aj
open Value renaming slice->ai,int->ae,bool->aD
open IntKind renaming i64->ah
open Ending renaming returned->aG
open Bool renaming and_eq_true->jZ
open Go renaming Addr->ao,Calls->ag,Ending->aR,TypeId->aq,Value->ad,World->ab
open Go.RowKit renaming Below->aa
open Go.RowKit.Below renaming refl->al
open Go.Value renaming int->dx
open List renaming replicate->aU
open Nat renaming lt_of_lt_of_le->aP
def dN{w:ab}{a:ao}{d:ad}(c:w.cell? a=some d):a.block<w:=by unfold World.cell? at c;refine Nat.lt_of_not_le λb=>?_;rw[Array.getElem?_eq_none b]at c;cases c
def aY{W b:ab}{e:Nat}(c:aa e W b){a:ao}{v:ad}(f:W.cell? a=some v)(d:a.block<e):b.cell? a=some v:=by rw[c.A d];exact f
def Pv{e a:ab}{f:Nat}(b:aa f e a){c:ao}{g:Bool}(h:e.frozen? c=g)(d:c.block<f):a.frozen? c=g:=by rw[b.J d];exact h
def I2{d c:ab}(e:aa d d c):(∀a b,a<d.heap.size->c.cell? (ak a b)=d.cell? (ak a b))/\(∀a b,a<d.heap.size->c.frozen? ⟨a,b,none⟩=d.frozen? ⟨a,b,none⟩):=⟨λa b f=>e.A (p:=⟨a,b,none⟩) f,λa b f=>e.J (p:=⟨a,b,none⟩) f⟩
def b9{w:ab}{b:Obj}{a:ao}{v:ad}(c:w.cell? a=some v):(w.alloc b).cell? a=some v:=by rw[World.cell?_of_block (w:=w)<|Below.heap_alloc w b a.block<|dN c];exact c
def yU{w:ab}{c:Obj}{a:ao}{d:Bool}(e:w.frozen? a=d)(b:a.block<w):(w.alloc c).frozen? a=d:=by rw[World.frozen?_of_block (w:=w)<|Below.heap_alloc w c a.block b];exact e
def iO{w:ab}{b a:ao}{u d:ad}(e:w.cell? a=some d)(c:a.block≠b.block):(w.setCell b u).cell? a=some d:=by rw[World.cell?_of_block (w:=w)<|Below.heap_setCell w b u a.block c];exact e
def Cg{w:ab}{b a:ao}{d:ad}{e:Bool}(f:w.frozen? a=e)(c:a.block≠b.block):(w.setCell b d).frozen? a=e:=by rw[World.frozen?_of_block (w:=w)<|Below.heap_setCell w b d a.block c];exact f
def eo(a:ab)(b c:Nat)(d:ad):Prop:=a.cell? (ak b c)=some d/\a.frozen? ⟨b,c,none⟩=false
def eo.c{a:ab}{b c:Nat}{d:ad}(e:eo a b c d):a.cell? (ak b c)=some d:=e.1
def eo.f{a:ab}{b c:Nat}{d:ad}(e:eo a b c d):a.frozen? ⟨b,c,none⟩=false:=e.2
def eo.N{w:ab}{b o:Nat}{v:ad}(a:eo w b o v):b<w:=dN a.1
def eo.K{w a:ab}{e b f:Nat}{v:ad}(g:eo w b f v)(c:aa e w a)(d:b<e):eo a b f v:=⟨aY c g.1 d,Pv c g.2 d⟩
def eo.alloc{w:ab}{b c:Nat}{v:ad}(a:eo w b c v)(x:Obj):eo (w.alloc x) b c v:=⟨b9 a.1,yU a.2 a.N⟩
abbrev eo.Q:=@eo.alloc
def eo.set{w:ab}{b c:Nat}{v:ad}(d:eo w b c v)(p:ao)(u:ad)(a:b≠p.block):eo (w.setCell p u) b c v:=⟨iO d.1 a,Cg d.2 a⟩
def eo.drew{w:ab}{b a:Nat}{v:ad}(c:eo w b a v):eo w.drew b a v:=c
def eo.drewN{w:ab}{a b:Nat}{v:ad}(c:eo w a b v)(n:Nat):eo (w.drewN n) a b v:=c
def zl{z:Program}(g:ab){l:Array Oper}{rest:List Oper}{A:Oper}{B:Act}{U:Exit->Act->ab->Prop}(o:A.guard=.none)(E F:Operand)(C:aq)(G:A.op=.call {callee:=.builtin .append,args:=#[E,F],argTypes:=#[C,C]})(a:Nat)(p:aq)(J:ad)(b:Nat)(K:z.underlying C=some (.slice p))(h:(z.info? p).map (λL=>(L.zero,L.size,L.bytes))=some (some J,1,b))(q:J.cells.size=1)(V:aq)(r:ad)(D:ad)(s:Nat)(m:List ad)(M:B.eval E=D)(e:g.ownsRow a p 1 D s m)(N:B.eval F=ai (some ⟨g,0,.none⟩) 1 1)(P:r.oneCell'=true)(Q:s+1<=maxLen)(f:(s+1)*b<=140737488355328)(i:a<=g)(X:∀j c,c.ownsRow a p 1 j (s+1) (m++[r])->g.heap.size<=c.heap.size->aa a g c->(g.alloc<|aj #[r] V).grownBy c D.ownBlock->wpList z l U rest (B.put A.dst j) c):wpList z l U (A::rest) B<|g.alloc<|aj #[r] V:=by obtain⟨R,S,t,u,v⟩:=info_parts h;refine wpList_append_own _ o E F C G a p R J 1 b K S t u v q an D s m M (e.Q _) ⟨g,0,.none⟩ 1 1 [r] N rfl ?_ ?_ Q f bh ?_;(.intro W Y d;match W,d with|0,d=>simp at d;subst d;go_simp|W+1,d=>simp at d);(.intro Y w;simp at w;subst w;exact P);.intro j c x n _;have y:=n.size;simp at y;exact X j c x O (((al a g).alloc i _).grown n bh λk T=>(e.N k T).1) n
def vZ{p e:ab}{a:Nat}{q:aq}{b:Nat}{j:ad}{r:Nat}{f:List ad}(t:p.ownsRow a q b j r f){s:Nat}(k:aa s p e)(l:∀d,j.ownBlock=some d->d<s):e.ownsRow a q b j r f:=by obtain⟨m,c⟩:=t;refine⟨m,?_⟩;rcases c with c|⟨d,g,h,i,n,o,u⟩;(.exact Or.inl c);.refine Or.inr ⟨d,g,h,i,n,?_,u⟩;rw[k.block d (l d (by rw[i];rfl))];exact o
def bg{w a:ab}{base:Nat}{e:aq}{size:Nat}{v:ad}{f:Nat}{b:List ad}(h:w.ownsRow base e size v f b)(c:aa w w a):a.ownsRow base e size v f b:=vZ h c λg d=>(h.N g d).2
def j4{j:ab}{base:Nat}{e:aq}{size:Nat}{k:ad}{d:Nat}{f:List ad}(l:j.ownsRow base e size k d f)(h:d≠0):∃g a,k=ai (av g) d a/\base<=g/\g<j.heap.size:=by obtain⟨n,b⟩:=id l;rcases b with⟨_,b⟩|⟨g,a,m,c,i,o,p⟩;(.exact absurd b h);.exact⟨g,a,c,i,(l.N g (by rw[c];rfl)).2⟩
section
open Go.ChangeShapes Go.WideShapes Go.ChangeAt Go.Deep Go.Joins
def ba(w:ab)(a:Option ao)(n sz:Nat)(f:Nat->Nat->Int):Prop:=n<=9223372036854775807/\(n=0\/∃d b,a=some ⟨d,b,none⟩/\d<w.heap.size/\∀i,i<n->∀c,c<sz->w.cell? (ak d<|b+(i*sz+c))=some (ae ah<|f i c))/\∀i,i<n->∀c,c<sz->-9223372036854775808<=f i c/\f i c<=9223372036854775807
def AT{a:Int}(b:(Lit.int ah a).wf=true):-9223372036854775808<=a/\a<=9223372036854775807:=by simpa[Lit.wf,IntKind.min,IntKind.max,IntKind.signed,IntKind.bits]using b
def zm{A:Type}{i:aq×ad->A}{p:Program}{B:ab}{f:Bool}{C r:aq}{g:Nat}{j:List ad}{E:DataW A×List MemPlace}(s:p.underlying C=some (.slice r))(t:p.underlying r=some (.int ah))(u:p.cellsOf r=1)(F:DataW.trod i p B 0 (λ_=>true) f g C j=some E):∃(q:Option ao)(v a:Nat)(G:Nat->Int),j=[ai q v a]/\v<=a/\a<=maxLen/\ba B q v 1 (λc _=>G c):=by rcases open_ints s t u F with⟨b,w⟩|⟨q,e,a,h,b,_,x,k,y,w,d,l⟩;(.exact⟨none,0,0,λ_=>0,b,O,by unfold maxLen;omega,O,.inl rfl,λc m=>O⟩);.simp only[if_true]at y;refine⟨some q,e,a,λc=>h.getD c 0,b,x,k,by unfold maxLen at k;omega,?_,λc m D _=>AT<|l _ ?_⟩;(.by_cases z:e=0;(.exact .inl z);.obtain⟨J,n,rfl,o⟩:=ints_at d O;refine .inr ⟨J,n,rfl,dN<|o 0 O,λc m D K=>?_⟩;have:=o c O;rw[show c*1+D=c from O];exact this);.show h.getD c 0∈h;rw[List.getD_eq_getElem?_getD,List.getElem?_eq_getElem O];exact List.getElem_mem _
def cd(b a i:Nat):(⟨b,a,none⟩:ao).add i=⟨b,a+i,none⟩:=by unfold Addr.add;by_cases c:i=0;(.subst c;simp);.simp[c]
def tD(c:Program)(b:Array Field):Prop:=∀(d:Nat)(a:Field),b[d]?=some a->c.underlying a.type=some (.int ah)/\a.offset=d/\c.cellsOf a.type=1
def yV{A:Type}{k:aq×ad->A}{p:Program}{C:ab}{g:Bool}{h:Nat}{e:Nat->Bool}{r:aq}{a:Array Field}{i:Nat}{c:List ad}{D:DataW A×List MemPlace}(s:p.underlying r=some (.struct a))(t:tD p a)(E:p.cellsOf r=a.size)(F:DataW.trod k p C h e g i r c=some D):c.length=a.size/\∃u:Nat->Int,∀b,b<a.size->c[b]?=some (ae ah<|u b)/\-9223372036854775808<=u b/\u b<=9223372036854775807:=by obtain⟨G,K,rfl,rfl,J,B,l⟩:=DataW.trod_struct s F;refine⟨O,?_⟩;(have j:∀b,b<a.size->∃d:Int,c[b]?=some (ae ah d)/\-9223372036854775808<=d/\d<=9223372036854775807:=by intro b v;obtain⟨q,f⟩:∃q,a[b]?=some q:=⟨a[b],by simp[v]⟩;obtain⟨w,x,y⟩:=t b q f;have m:=l b q f;rw[x,y,List.getElem?_eq_getElem O]at m;obtain⟨d,z,_,n⟩:=DataW.trod_int w m;refine⟨d,?_,AT n⟩;(have o:((c.drop b).take 1)[0]?=some (ae ah d):=by rw[z];rfl);rw[List.getElem?_take,aH O,List.getElem?_drop]at o;exact o);exact choose_lt (p:=λb d=>c[b]?=some (ae ah d)/\-9223372036854775808<=d/\d<=9223372036854775807) j
def zn{T:Type}{s:aq×ad->T}{t:Program}{F:ab}{n:Bool}{U G:aq}{b:Array Field}{o:Nat}{u:List ad}{W:DataW T×List MemPlace}(J:t.underlying U=some (.slice G))(K:t.underlying G=some (.struct b))(L:tD t b)(v:t.cellsOf G=b.size)(w:0<b.size)(X:DataW.trod s t F 0 (λ_=>true) n o U u=some W):∃(r:Option ao)(E a:Nat)(M:Nat->Nat->Int),u=[ai r E a]/\E<=a/\a<=maxLen/\ba F r E b.size M:=by rcases open_slice J X with⟨e,N⟩|⟨r,f,a,af,E,am,Y,e,_,P,x,y,N,z⟩;(.exact⟨none,0,0,λ_ _=>0,e,O,by unfold maxLen;omega,O,.inl rfl,λj g=>O⟩);.simp only[if_true]at y;(have p:∀j,j<f->∃A:Nat->Int,∀c,c<b.size->F.cell? ((r.add<|j*b.size).add c)=some (ae ah<|A c)/\-9223372036854775808<=A c/\A c<=9223372036854775807:=by intro j g;obtain⟨V,B,Q⟩:=z j O;obtain⟨Z,A,C⟩:=yV K L v Q;rw[v]at B;obtain⟨_,R,k⟩:=World.cells?_some B;exact⟨A,λc d=>⟨(k c O).C (C c d).1,(C c d).2⟩⟩);obtain⟨M,h⟩:=choose_lt p;refine⟨some r,f,a,M,e,P,x,by unfold maxLen at x;omega,?_,λj g c d=>(h j g c d).2⟩;by_cases S:f=0;(.exact .inl S);.obtain⟨ac,D,q⟩:=r;have m:=(h 0 O 0 w).1;(have l:q=none:=by simpa[Addr.add]using World.cell?_spot m);subst l;refine .inr ⟨ac,D,rfl,?_,λj g c d=>?_⟩;(.have i:=dN m;rw[cd,cd]at i;exact i);.have i:=(h j g c d).1;rw[cd,cd,Nat.add_assoc]at i;exact i
def AS:Option TypeDesc->Bool|some (.int ah)=>true|_=>false
def Fz{b:Option TypeDesc}(a:AS b=true):b=some (.int ah):=by unfold AS at a;split at a;(.rfl);.cases a
def rq(c:Program)(a:Array Field):Bool:=(List.range a.size).all λd=>match a[d]?with|some b=>AS (c.underlying b.type)&&b.offset==d&&c.cellsOf b.type==1|none=>false
def se{f:Program}{b:Array Field}(h:rq f b=true):tD f b:=by intro g i c;(have e:g<b.size:=by refine Nat.lt_of_not_le λd=>?_;rw[Array.getElem?_eq_none d]at c;cases c);have a:=List.all_eq_true.1 h g (by simpa using e);rw[c]at a;simp only[jZ,beq_iff_eq]at a;exact⟨Fz a.1.1,a.1.2,a.2⟩
end
def bu(a:Int):Prop:=-9223372036854775808<=a/\a<=9223372036854775807
def Sh{a:Int}(b:-9223372036854775808<=a)(c:a<=9223372036854775807):bu a:=⟨b,c⟩
def ar(w:ab)(b:Nat)(vs:Array ad)(T:aq):Prop:=w.heap[b]?=some (aj vs T (0,0))
def ar.A{w:ab}{b:Nat}{vs:Array ad}{T:aq}(a:ar w b vs T):∀i,w.cell? (ak b i)=vs[i]?:=λi=>by unfold ar at a;simp[World.cell?,a]
abbrev ar.cell:=@ar.A
def ar.J{w:ab}{b:Nat}{vs:Array ad}{T:aq}(a:ar w b vs T):∀i,w.frozen? ⟨b,i,none⟩=false:=λi=>by unfold ar at a;simp[World.frozen?,a]
abbrev ar.frozen:=@ar.J
def ar.N{w:ab}{b:Nat}{vs:Array ad}{T:aq}(a:ar w b vs T):b<w:=by unfold ar at a;exact(Array.getElem?_eq_some_iff.1 a).1
abbrev ar.lt:=@ar.N
def ar.K{w a:ab}{B b:Nat}{vs:Array ad}{T:aq}(e:ar w b vs T)(c:aa B w a)(d:b<B):ar a b vs T:=by unfold ar;rw[c.block b d];exact e
def ar.D{w a:ab}{b:Nat}{vs:Array ad}{T:aq}(d:ar w b vs T)(c:aa w w a):ar a b vs T:=d.K c d.N
def ar.M(w:ab)(vs:Array ad)(T:aq):ar (w.alloc<|aj vs T) w vs T:=by exact heap_alloc_new _ _
abbrev ar.new:=@ar.M
def ar.alloc{w:ab}{b:Nat}{vs:Array ad}{T:aq}(a:ar w b vs T)(o:Obj):ar (w.alloc o) b vs T:=by unfold ar;rw[Below.heap_alloc _ _ _ a.N];exact a
abbrev ar.Q:=@ar.alloc
def ar.drew{w:ab}{b:Nat}{vs:Array ad}{T:aq}(a:ar w b vs T):ar w.drew b vs T:=a
def ar.drewN{w:ab}{b:Nat}{vs:Array ad}{T:aq}(a:ar w b vs T)(n:Nat):ar (w.drewN n) b vs T:=a
def ar.set{w:ab}{b:Nat}{vs:Array ad}{T:aq}(a:ar w b vs T)(i:Nat)(v:ad):ar (w.setCell (ak b i) v) b (vs.setIfInBounds i v) T:=by unfold ar;exact heap_setCell_same w b i _ _ v a
def ar.gk{w:ab}{b:Nat}{vs:Array ad}{T:aq}(c:ar w b vs T)(p:ao)(v:ad)(a:b≠p.block):ar (w.setCell p v) b vs T:=by unfold ar;rw[Below.heap_setCell _ _ _ _ a];exact c
def ar.grown{w c:ab}{b:Nat}{vs:Array ad}{T:aq}(f:ar w b vs T){a:Option Nat}(e:w.grownBy c a)(d:some b≠a):ar c b vs T:=by unfold ar;rw[e.block b f.N d];exact f
def dv{w:ab}{b:Nat}{a:Array ad}(d:∀i,w.cell? (ak b i)=a[i]?)(p:ao)(u:ad)(c:b≠p.block):∀i,(w.setCell p u).cell? (ak b i)=a[i]?:=λi=>by rw[World.cell?_of_block (w:=w)<|Below.heap_setCell w p u b c];exact d i
def bw{a b:Bool}(c:a=b):Ending.returned (aD a)=aG (aD b):=by rw[c]
def cB{k:IntKind}{a b:Int}(c:a=b):Ending.returned (ae k a)=aG (ae k b):=by rw[c]
def kF{b c:IntKind}{a d e f:Int}(g:(a,d)=(e,f)):Ending.returned (.tuple #[ae b a,ae c d])=aG (.tuple #[ae b e,ae c f]):=by cases g;rfl
def bS{a b:ab}(c:Obj)(d:aa (a.alloc c).heap.size (a.alloc c) b):aa a a b:=(aC.alloc au _).C<|d.B aI
def aT{a w b:ab}(c:aa a a w)(d:aa w w b):aa a a b:=c.C<|d.B c.size
def cC{a w b:ab}(c:I<|aa a a w)(d:aa w w b):I<|aa a a b:=H<|aT c.o d
def j5{b a:ab}(c:aa b b a){d:ao}{e:ad}(f:b.cell? d=some e):a.cell? d=some e:=aY c f<|dN f
def Ch{c:Nat}{a d b:ab}{i:Nat}(j:aa c a d)(e:d.grownBy b<|some i)(f:c<=d)(g:c<=i):aa c a b:=j.grown e f (λk h=>by cases h;exact g)
def Ty(b:ab)(c d:Nat)(e:ad):b.grownBy (b.setCell (ak c d) e)<|some c:=⟨rfl,rfl,rfl,by simp[World.setCell],λh f a=>Below.heap_setCell _ _ _ _ λg=>a (by rw[g])⟩
def ot(w:ab)(a:Option Nat):w.grownBy w a:=⟨rfl,rfl,rfl,au,λ_ _ _=>rfl⟩
def Tu{d a:ab}(b:aa d d a)(c:Option Nat):d.grownBy a c:=⟨b.os,b.tape,b.output,b.size,λf e _=>b.block f e⟩
def bx{w c:ab}{o:Nat}{p:Option ao}{n sz:Nat}{f:Nat->Nat->Int}(q:ba w p n sz f)(d:aa o w c)(g:w<=o):ba c p n sz f:=by obtain⟨i,b,j⟩:=q;refine⟨i,?_,j⟩;rcases b with b|⟨r,h,e,a,k⟩;(.exact .inl b);.exact .inr ⟨r,h,e,aP a (d.B g).size,λs l t m=>aY d (k s l t m)<|aP a g⟩
def yN{c a:ab}{e:Option ao}{f b:Nat}{g:Nat->Nat->Int}(h:I<|ba c e f b g)(d:aa c c a):I<|ba a e f b g:=H<|bx h.o d au
def pE{b:ab}{c:Option ao}{d a:Nat}{e:Nat->Nat->Int}(f:I<|ba b c d a e):I<|ba b.drew c d a e:=f
def fb{a w:ab}(b:I<|aa a a w):I<|aa a a w.drew:=H b.drew
def er{b:ab}{c:Option ao}{d a:Nat}{e:Nat->Nat->Int}(g:I<|ba b c d a e)(f:Obj):I<|ba (b.alloc f) c d a e:=H<|bx g.o ((al b b).Q au f) au
def gC{w0 w a:ab}(b:Obj)(c:I<|aa w0 w0 w)(d:aa (w.alloc b).heap.size (w.alloc b) a):I<|aa w0 w0 a:=H<|aT c.o<|bS b d
def nH{i:ab}{l:Option ao}{m c:Nat}{j:Nat->Nat->Int}(n:I<|ba i l m c j)(e:Nat)(f:e<m):∃g a,l=some ⟨g,a,none⟩/\g<i.heap.size/\(∀b,b<c->i.cell? (ak g<|a+(e*c+b))=some (ae ah<|j e b))/\∀b,b<c->bu (j e b):=by rcases n.2.1 with h|⟨g,a,o,h,k⟩;(.omega);.exact⟨g,a,o,h,λb d=>k e f b d,λb d=>n.2.2 e f b d⟩
def gG{d:ab}{j:Option ao}{k:Nat}{e:Nat->Nat->Int}(l:I<|ba d j k 1 e)(b:Nat)(f:b<k):∃c a,j=some ⟨c,a,none⟩/\c<d.heap.size/\d.cell? (ak c<|a+b)=some (ae ah<|e b 0)/\bu (e b 0):=by obtain⟨c,a,m,g,h,i⟩:=nH l b f;exact⟨c,a,m,g,by have:=h 0 O;simpa using this,i 0 O⟩
def fY{g:ab}{j:Option ao}{k:Nat}{f:Nat->Nat->Int}(l:I<|ba g j k 2 f)(b:Nat)(h:b<k):∃c a,j=some ⟨c,a,none⟩/\c<g.heap.size/\g.cell? (ak c<|a+b*2)=some (ae ah<|f b 0)/\g.cell? (ak c<|a+b*2+1)=some (ae ah<|f b 1)/\bu (f b 0)/\bu (f b 1):=by obtain⟨c,a,m,i,d,e⟩:=nH l b h;exact⟨c,a,m,i,d 0 O,d 1 O,e 0 O,e 1 O⟩
def fX{w:ab}{h:Option ao}{i:Nat}{f:Nat->Nat->Int}(j:I<|ba w h i 3 f)(k:Nat)(e:k<i):∃b a,h=some ⟨b,a,none⟩/\b<w.heap.size/\w.cell? (ak b<|a+k*3)=some (ae ah<|f k 0)/\w.cell? (ak b<|a+k*3+1)=some (ae ah<|f k 1)/\w.cell? (ak b<|a+k*3+2)=some (ae ah<|f k 2)/\bu (f k 0)/\bu (f k 1)/\bu (f k 2):=by obtain⟨b,a,l,g,c,d⟩:=nH j k e;exact⟨b,a,l,g,c 0 O,c 1 O,c 2 O,d 0 O,d 1 O,d 2 O⟩
def hA{w:ab}{j:Option ao}{n:Nat}{f:Nat->Nat->Int}(k:I<|ba w j n 4 f)(b:Nat)(h:b<n):∃g a,j=some ⟨g,a,none⟩/\g<w.heap.size/\w.cell? (ak g<|a+b*4)=some (ae ah<|f b 0)/\w.cell? (ak g<|a+b*4+1)=some (ae ah<|f b 1)/\w.cell? (ak g<|a+b*4+2)=some (ae ah<|f b 2)/\w.cell? (ak g<|a+b*4+3)=some (ae ah<|f b 3)/\bu (f b 0)/\bu (f b 1)/\bu (f b 2)/\bu (f b 3):=by obtain⟨g,a,e,i,c,d⟩:=nH k b h;exact⟨g,a,e,i,c 0 O,c 1 O,c 2 O,c 3 O,d 0 O,d 1 O,d 2 O,d 3 O⟩
def bH{b:Nat}{a w:ab}(c:aa b a w)(d:Nat):aa b a<|w.drewN d:=c.C ⟨rfl,rfl,rfl,au,λ_ _=>rfl⟩
section
open Go.ChangeShapes Go.WideShapes Go.ChangeAt Go.Deep Go.Joins
def dH(g:ab)(h:Option ao)(c sz:Nat)(b:Nat->Nat->ad):Prop:=c<=9223372036854775807/\(c=0\/∃d a,h=some ⟨d,a,none⟩/\d<g.heap.size/\∀e,e<c->∀f,f<sz->g.cell? (ak d<|a+(e*sz+f))=some (b e f))
def dS{w c:ab}{l:Nat}{m:Option ao}{n d:Nat}{o:Nat->Nat->ad}(p:dH w m n d o)(e:aa l w c)(f:w<=l):dH c m n d o:=by obtain⟨h,b⟩:=p;refine⟨h,?_⟩;rcases b with b|⟨q,g,r,a,i⟩;(.exact .inl b);.exact .inr ⟨q,g,r,aP a (e.B f).size,λs j t k=>aY e (i s j t k)<|aP a f⟩
def iA{l:ab}{m:Option ao}{h sz:Nat}{n o:Nat->Nat->ad}(p:dH l m h sz n)(q:∀b,b<h->∀c,c<sz->n b c=o b c):dH l m h sz o:=by obtain⟨i,a⟩:=p;refine⟨i,?_⟩;rcases a with a|⟨r,d,j,e,k⟩;(.exact .inl a);.exact .inr ⟨r,d,j,e,λb f c g=>by rw[<-q b f c g];exact k b f c g⟩
section
variable{X:Type}{enc:aq×ad->X}{w:ab}{G:Bool}
def iV{s:Program}{Q D:aq}{sz:Nat}{n:Nat}{t:List ad}{R:DataW X×List MemPlace}(F:s.underlying Q=some (.slice D))(u:s.cellsOf D=sz)(J:0<sz)(S:DataW.trod enc s w 0 (λ_=>true) G n Q t=some R):∃(r:Option ao)(v a:Nat)(e:Nat->List ad),t=[ai r v a]/\v<=a/\a<=maxLen/\dH w r v sz (λc j=>(e c).getD j undef)/\∀c,c<v->(e c).length=sz/\∃E K,DataW.trod enc s w 0 (λ_=>true) G E D (e c)=some K:=by rcases open_slice F S with⟨f,L⟩|⟨r,g,a,E,v,V,T,f,_,M,x,y,L,z⟩;(.exact⟨none,0,0,λ_=>[],f,O,by unfold maxLen;omega,⟨O,.inl rfl⟩,λc h=>O⟩);.simp only[if_true]at y;(have o:∀c,c<g->∃b:List ad,(∀j,j<sz->w.cell? ((r.add<|c*sz).add j)=some (b.getD j undef))/\b.length=sz/\∃E K,DataW.trod enc s w 0 (λ_=>true) G E D b=some K:=by intro c h;obtain⟨b,A,N⟩:=z c O;rw[u]at A;obtain⟨_,p,k⟩:=World.cells?_some A;refine⟨b,λj B=>?_,p,_,_,N⟩;rw[k j O,List.getD_eq_getElem?_getD,List.getElem?_eq_getElem O];rfl);obtain⟨e,d⟩:=choose_lt o;refine⟨some r,g,a,e,f,M,x,⟨by unfold maxLen at x;omega,?_⟩,λc h=>(d c h).2⟩;by_cases P:g=0;(.exact .inl P);.obtain⟨U,C,q⟩:=r;have m:=(d 0 O).1 0 J;(have l:q=none:=by simpa[Addr.add]using World.cell?_spot m);subst l;refine .inr ⟨U,C,rfl,?_,λc h j B=>?_⟩;(.have i:=dN m;rw[cd,cd]at i;exact i);.have i:=(d c h).1 j B;rw[cd,cd,Nat.add_assoc]at i;exact i
def bP{h:Program}{r:aq}{a:Array Field}{b:Nat}{d:List ad}{t:DataW X×List MemPlace}(j:h.underlying r=some (.struct a))(u:DataW.trod enc h w 0 (λ_=>true) G b r d=some t)(l:Nat){i:Field}(c:a[l]?=some i){o k:Nat}{m:aq}(n:i.offset=o)(p:i.type=m)(q:h.cellsOf m=k):∃v x,DataW.trod enc h w 0 (λ_=>true) G v m ((d.drop o).take k)=some x:=by subst n p q;obtain⟨y,z,rfl,rfl,A,s,e⟩:=DataW.trod_struct j u;have f:=e l i c;(have B:l<a.size:=by refine Nat.lt_of_not_le λg=>?_;rw[Array.getElem?_eq_none g]at c;cases c);rw[List.getElem?_eq_getElem O]at f;exact⟨z,_,f⟩
def fJ{c:Program}{d:aq}{e:Array Field}{a:Nat}{b:List ad}{j:DataW X×List MemPlace}(f:c.underlying d=some (.struct e))(k:DataW.trod enc c w 0 (λ_=>true) G a d b=some j):b.length=c.cellsOf d:=by obtain⟨l,m,rfl,rfl,g,h,i⟩:=DataW.trod_struct f k;exact g
def fN{e:Program}{f:aq}{a:Nat}{g:ad}{h:DataW X×List MemPlace}(c:e.underlying f=some (.int ah))(i:DataW.trod enc e w 0 (λ_=>true) G a f [g]=some h):∃b,g=ae ah b/\bu b:=by obtain⟨b,j,_,d⟩:=DataW.trod_int c i;exact⟨b,by simpa using j,AT d⟩
def tK{d:Program}{e:aq}{a:Nat}{f:ad}{g:DataW X×List MemPlace}(b:d.underlying e=some .bool)(h:DataW.trod enc d w 0 (λ_=>true) G a e [f]=some g):∃c,f=aD c:=by obtain⟨c,i,_⟩:=DataW.trod_bool b h;exact⟨c,by simpa using i⟩
def sv{a:Nat}(b:a<=maxLen):a<=9223372036854775807:=by unfold maxLen at b;omega
def rB{c:Program}{r d:aq}{a:Array Field}{b:Nat}{s:ad}{t:DataW X×List MemPlace}(i:c.underlying r=some (.slice d))(j:c.underlying d=some (.struct a))(k:rq c a=true)(l:c.cellsOf d=a.size)(e:0<a.size){sz:Nat}(m:a.size=sz)(u:DataW.trod enc c w 0 (λ_=>true) G b r [s]=some t):∃h f g n,s=ai h f g/\ba w h f sz n/\f<=g/\g<=9223372036854775807:=by subst m;obtain⟨h,f,g,n,d,o,p,q⟩:=zn i j (se k) l e u;exact⟨h,f,g,n,by simpa using d,q,o,sv p⟩
def FY{e:Program}{n b:aq}{a:Nat}{o:ad}{p:DataW X×List MemPlace}(g:e.underlying n=some (.slice b))(h:e.underlying b=some (.int ah))(i:e.cellsOf b=1)(q:DataW.trod enc e w 0 (λ_=>true) G a n [o]=some p):∃(f:Option ao)(c d:Nat)(j:Nat->Int),o=ai f c d/\ba w f c 1 (λr _=>j r)/\c<=d/\d<=9223372036854775807:=by obtain⟨f,c,d,j,b,k,l,m⟩:=zm g h i q;exact⟨f,c,d,j,by simpa using b,m,k,sv l⟩
def mu{c:Program}{p d:aq}{a:Array Field}{b:Nat}{q:ad}{r:DataW X×List MemPlace}(h:c.underlying p=some (.slice d))(i:c.underlying d=some (.struct a))(j:rq c a=true)(k:c.cellsOf d=a.size)(e:0<a.size){sz:Nat}(l:a.size=sz)(s:DataW.trod enc c w 0 (λ_=>true) G b p [q]=some r):∃f g m n,q=ai f g m/\ba w f g sz n:=by subst l;obtain⟨f,g,m,n,d,_,_,o⟩:=zn h i (se j) k e s;exact⟨f,g,m,n,by simpa using d,o⟩
def rC{c:Program}{l b:aq}{a:Nat}{m:ad}{n:DataW X×List MemPlace}(f:c.underlying l=some (.slice b))(g:c.underlying b=some (.int ah))(h:c.cellsOf b=1)(o:DataW.trod enc c w 0 (λ_=>true) G a l [m]=some n):∃(d:Option ao)(e i:Nat)(j:Nat->Int),m=ai d e i/\ba w d e 1 (λp _=>j p):=by obtain⟨d,e,i,j,b,_,_,k⟩:=zm f g h o;exact⟨d,e,i,j,by simpa using b,k⟩
end
def oD{a:Array ad}{b:List ad}(c:(Value.cells<|.agg a).toList=b):a=b.toArray:=by have c:a.toList=b:=c;subst c;simp
end
section
open Go.ChangeShapes Go.WideShapes Go.ChangeAt Go.Deep Go.Joins
structure bc where(la:Option ao)(W lc:Nat)(lf:Nat->Nat->Int)(na:Option ao)(s nc:Nat)(nf:Nat->Nat->Int)(v id Z qu Y pp:Int)
instance:Coe bc (Array ad):=⟨λa=>(fj a.la a.W a.lc a.na a.s a.nc a.v a.id a.Z a.qu a.Y a.pp)⟩
def bc.kl(p:bc):List ad:=[ai p.la p.W p.lc,ai p.na p.s p.nc,ae ah p.v,ae ah p.id,ae ah p.Z,ae ah p.qu,ae ah p.Y,ae ah p.pp]
structure bc.h(w:ab)(p:bc):Prop where
 Qh:I<|ba w p.la p.W 2 p.lf
 QF:I<|ba w p.na p.s 3 p.nf
 v:bu p.v
 id:bu p.id
 Z:bu p.Z
 qu:bu p.qu
 Y:bu p.Y
 pp:bu p.pp
def bc.h.K{w b:ab}{e:Nat}{p:bc}(a:p.h w)(c:aa e w b)(d:w<=e):p.h b:=⟨bx a.Qh.o c d,bx a.QF.o c d,a.v,a.id,a.Z,a.qu,a.Y,a.pp⟩
section
variable{X:Type}{enc:aq×ad->X}{w:ab}{G:Bool}
def M3{b:Nat}{c:List ad}{M:DataW X×List MemPlace}(a:DataW.trod enc prog w 0 (λ_=>true) G b 28 c=some M):∃L:bc,c=L.kl/\L.h w:=by have d:=fJ underlying28 a;rw[show prog.cellsOf 28=8 from ay]at d;match c,d with|[N,P,Q,R,S,T,U,V],_=>obtain⟨W,Y,e⟩:=bP underlying28 a 0 rfl (o:=0) rfl rfl (k:=1) ay;obtain⟨Z,ac,f⟩:=bP underlying28 a 1 rfl (o:=1) rfl rfl (k:=1) ay;obtain⟨af,am,g⟩:=bP underlying28 a 2 rfl (o:=2) rfl rfl (k:=1) ay;obtain⟨ap,az,h⟩:=bP underlying28 a 3 rfl (o:=3) rfl rfl (k:=1) ay;obtain⟨aS,a0,i⟩:=bP underlying28 a 4 rfl (o:=4) rfl rfl (k:=1) ay;obtain⟨a1,a2,j⟩:=bP underlying28 a 5 rfl (o:=5) rfl rfl (k:=1) ay;obtain⟨a3,a4,k⟩:=bP underlying28 a 6 rfl (o:=6) rfl rfl (k:=1) ay;obtain⟨a5,a6,l⟩:=bP underlying28 a 7 rfl (o:=7) rfl rfl (k:=1) ay;simp only[List.drop,List.take]at e f g h i j k l;obtain⟨m,n,o,p,rfl,q⟩:=mu underlying25 underlying153 ay ay an (sz:=2) rfl e;obtain⟨r,s,t,u,rfl,v⟩:=mu underlying26 underlying253 ay ay an (sz:=3) rfl f;obtain⟨x,rfl,y⟩:=fN underlying3 g;obtain⟨id,rfl,z⟩:=fN underlying3 h;obtain⟨A,rfl,B⟩:=fN underlying3 i;obtain⟨C,rfl,D⟩:=fN underlying3 j;obtain⟨E,rfl,F⟩:=fN underlying3 k;obtain⟨J,rfl,K⟩:=fN underlying3 l;exact⟨⟨m,n,o,p,r,s,t,u,x,id,A,C,E,J⟩,rfl,⟨q,v,y,z,B,D,F,K⟩⟩
end
end
def o8(a:Nat)(b:Nat):Nat:=a/65536^b%65536
def Jr(a b:Nat):o8 a b<65536:=Nat.mod_lt _ O
def Rj(a b:Nat):a/65536^b/65536=a/65536^(b+1):=by rw[Nat.div_div_eq_div_mul,Nat.pow_succ]
def Si:Nat->(Nat->Nat)->Nat|0,_=>0|n+1,a=>a 0+65536*Si n λb=>a<|b+1
def T9(b:Nat->Nat)(c d:Nat):Nat->Nat:=λa=>if a=c then d else b a
def Iu:∀(e:Nat)(a:Nat->Nat)(c d:Nat),c<e->Si e (T9 a c d)+a c*65536^c=Si e a+d*65536^c|e+1,a,0,d,_=>by(have:(λb=>T9 a 0 d<|b+1)=λb=>a<|b+1:=by funext b;simp[T9]);simp only[Si,this];simp[T9];omega|e+1,a,c+1,d,h=>by have g:=Iu e (λb=>a<|b+1) c d O;(have:(λb=>T9 a (c+1) d<|b+1)=T9 (λb=>a<|b+1) c d:=by funext b;simp[T9]);simp only[Si,this];(have f:T9 a (c+1) d 0=a 0:=by simp[T9]);rw[f,Nat.pow_succ,<-Nat.mul_assoc,<-Nat.mul_assoc];omega
def Fx:∀(a:Nat)(b:Nat->Nat)(d:Nat),(∀c,c<a->b c<65536)->d<a->Si a b/65536^d%65536=b d|a+1,b,0,e,_=>by have:=e 0 O;simp only[Si,Nat.pow_zero,Nat.div_one];omega|a+1,b,d+1,e,g=>by have f:=Fx a (λc=>b<|c+1) d (λc h=>e (c+1) O) O;have:=e 0 O;(have i:Si (a+1) b/65536=Si a λc=>b<|c+1:=by simp only[Si];omega);rw[Nat.pow_succ,Nat.mul_comm,<-Nat.div_div_eq_div_mul,i];exact f
def B9:∀a,Si a (λ_=>0)=0|0=>rfl|a+1=>by simp[Si,B9 a]
structure AR(c d b e:Nat)(f:Nat->Nat)(a:Nat):Prop where
 c3:∀g,g<9->f g<65536
 c4:a<65536
 sum:Si 9 f+a*65536^(b+e)=(c%65536^b)*d+o8 c b*(d%65536^e)*65536^b
def AR.start{e b f:Nat}{a:Nat->Nat}(c:∀g,g<9->a g<65536)(d:Si 9 a=(e%65536^f)*b):AR e b f 0 a 0:=⟨c,O,by simp[d,Nat.mod_one]⟩
def Ca(b a:Nat):b%65536^(a+1)=b%65536^a+65536^a*o8 b a:=Nat.mod_pow_succ
def AR.le{d e b c:Nat}{g:Nat->Nat}{a:Nat}(h:AR d e b c g a)(f:b+c<9):g (b+c)+o8 d b*o8 e c+a<4294967296:=by have i:=h.c3 _ f;have j:=h.c4;have k:o8 d b*o8 e c<=65535*65535:=Nat.mul_le_mul (by have:=Jr d b;omega) (by have:=Jr e c;omega);omega
def AR.D{a b i d:Nat}{f:Nat->Nat}{c:Nat}(j:AR a b i d f c)(h:i+d<9):AR a b i (d+1) (T9 f (i+d)<|(f (i+d)+o8 a i*o8 b d+c)%65536)<|(f (i+d)+o8 a i*o8 b d+c)/65536:=by have o:=j.le h;generalize k:f (i+d)+o8 a i*o8 b d+c=s at*;refine⟨λp l=>?_,O,?_⟩;(.unfold T9;split;(.omega);.exact j.c3 p l);.have e:=Iu 9 f (i+d) (s%65536) h;have g:=j.sum;rw[Ca,Nat.mul_add,Nat.add_mul,<-Nat.add_assoc<|a%65536^i*b,<-g];(have m:o8 a i*(65536^d*o8 b d)*65536^i=o8 a i*o8 b d*65536^(i+d):=by rw[Nat.pow_add];simp only[Nat.mul_assoc,Nat.mul_comm,Nat.mul_left_comm]);(have n:s/65536*65536^(i+(d+1))=(s/65536*65536)*65536^(i+d):=by rw[<-Nat.add_assoc,Nat.pow_succ,Nat.mul_assoc,Nat.mul_comm 65536]);rw[m,n];generalize 65536^(i+d)=T at*;(have q:s*T=f (i+d)*T+o8 a i*o8 b d*T+c*T:=by rw[<-k,Nat.add_mul,Nat.add_mul]);(have r:s*T=s%65536*T+(s/65536*65536)*T:=by rw[<-Nat.add_mul];congr 1;omega);omega
def AR.done{f d i:Nat}{k:Nat->Nat}{b:Nat}(m:AR f d i 5 k b)(n:d<18446744073709551616):Si 9 k=(f%65536^(i+1))*d:=by have a:=m.sum;have g:d%65536^5=d:=Nat.mod_eq_of_lt O;(have h:(f%65536^(i+1))*d=(f%65536^i)*d+o8 f i*d*65536^i:=by rw[Ca,Nat.add_mul];congr 1;simp only[Nat.mul_assoc,Nat.mul_comm,Nat.mul_left_comm]);rw[g,<-h]at a;(have l:(f%65536^(i+1))*d<65536^(i+5):=by have j:f%65536^(i+1)<65536^(i+1):=Nat.mod_lt _<|Nat.pow_pos O;(have e:(65536:Nat)^(i+5)=65536^(i+1)*18446744073709551616:=by rw[show i+5=(i+1)+4 from rfl,Nat.pow_add (n:=4)]);rw[e];exact Nat.mul_lt_mul_of_lt_of_le j O O);cases b with|zero=>simpa using a|succ c=>rw[Nat.succ_mul]at a;omega
def Rk{c f:Nat}{b:Nat->Nat}(g:Si 9 b=(c%65536^4)*f)(h:c<18446744073709551616)(d:∀a,a<9->b a<65536):∀a,a<9->b a=o8 (c*f) a:=by intro a e;rw[Nat.mod_eq_of_lt O]at g;rw[o8,<-g,Fx 9 b a d e]
def Ti(c a:Nat):o8 c (a/16)/2^(a%16)%2=c/2^a%2:=by(have g:c/2^a=c/65536^(a/16)/2^(a%16):=by(have d:(65536:Nat)^(a/16)=2^(16*(a/16)):=by rw[Nat.pow_mul]);rw[Nat.div_div_eq_div_mul,d,<-Nat.pow_add,Nat.div_add_mod]);rw[g,o8];generalize c/65536^(a/16)=b;have h:a%16<16:=Nat.mod_lt _ O;(have e:(65536:Nat)=2^(a%16)*(2^(15-a%16)*2):=by rw[<-Nat.pow_succ,<-Nat.pow_add,show a%16+(15-a%16).succ=16 from O]);(have f:b/2^(a%16)=b%65536/2^(a%16)+2^(15-a%16)*2*(b/65536):=by(conv=>lhs;rw[<-Nat.mod_add_div b 65536]);(conv=>lhs;rw[show b%65536+65536*(b/65536)=b%65536+2^(a%16)*(2^(15-a%16)*2*(b/65536))from by rw[<-Nat.mul_assoc,<-e]]);rw[Nat.add_mul_div_left _ _<|Nat.two_pow_pos _]);rw[f];(have:2^(15-a%16)*2*(b/65536)=2*(2^(15-a%16)*(b/65536)):=by simp only[Nat.mul_assoc,Nat.mul_comm,Nat.mul_left_comm]);omega
structure vY(b c d:Nat)(e left:Nat)(a:Bool):Prop where
 l:left=b/2^d%c
 no:a=false->e=b/2^d/c/\e<=9223372036854775807
 yes:a=true->9223372036854775807<b/2^d/c
 q0:e<=9223372036854775807
def vY.start(b c:Nat)(a:b<2^144):vY b c 144 0 0 false:=⟨by rw[Nat.div_eq_of_lt a];simp,λ_=>⟨by rw[Nat.div_eq_of_lt a];simp,O⟩,(λd=>by cases d),O⟩
def QM(a b:Nat):a/2^b=2*(a/2^(b+1))+a/2^b%2:=by rw[Nat.pow_succ,<-Nat.div_div_eq_div_mul];omega
def Q2{M a t:Nat}(c:0<a)(f:t<2):(2*M+t)%a=(if a<=2*(M%a)+t then 2*(M%a)+t-a else 2*(M%a)+t)/\(2*M+t)/a=2*(M/a)+(if a<=2*(M%a)+t then 1 else 0):=by have g:=Nat.mod_lt M c;(have h:2*M+t=a*(2*(M/a))+(2*(M%a)+t):=by have i:=Nat.div_add_mod M a;(have j:a*(2*(M/a))=2*(a*(M/a)):=by simp only[Nat.mul_left_comm]);omega);rw[h,Nat.mul_add_mod,Nat.mul_add_div c];split;(.rename_i k;have d:(2*(M%a)+t)=a+(2*(M%a)+t-a):=O;have e:2*(M%a)+t-a<a:=O;constructor;(·(conv=>lhs;rw[d]);rw[Nat.add_mod_left,Nat.mod_eq_of_lt e]);·(conv=>lhs;rw[d]);rw[Nat.add_div_left _ c,Nat.div_eq_of_lt e]);.have b:2*(M%a)+t<a:=O;rw[Nat.mod_eq_of_lt b,Nat.div_eq_of_lt b];exact⟨rfl,rfl⟩
def vY.D{i c j k left:Nat}{a:Bool}{one:Nat}(l:vY i c (j+1) k left a)(m:0<c)(d:Nat)(n:d=2*left+i/2^j%2)(f:one=if c<=d then 1 else 0):vY i c j (if(a||decide (4611686018427387903<k))=true then k else 2*k+one) (if c<=d then d-c else d)<|a||decide (4611686018427387903<k):=by have o:i/2^j%2<2:=Nat.mod_lt _ O;have s:=Q2 (M:=i/2^(j+1)) (t:=i/2^j%2) m o;rw[<-QM,<-l.l,<-n]at s;rw[<-f]at s;(have r:one<=1:=by rw[f];split<;>omega);refine⟨s.1.L,λg=>?_,λg=>?_,?_⟩;(.rw[Bool.or_eq_false_iff,decide_eq_false_iff_not]at g;obtain⟨e,b⟩:=l.no g.1;rw[aE (by simp[g.1];omega)];rw[s.2,<-e];exact⟨rfl,O⟩);(.rw[s.2];cases h:a with|true=>have:=l.yes h;omega|false=>rw[h,Bool.false_or,decide_eq_true_iff]at g;obtain⟨e,b⟩:=l.no h;omega);.have:=l.q0;split;(.omega);.rename_i p;have:¬4611686018427387903<k:=λq=>p (by simp[q]);omega
def vY.next'{k d l g left:Nat}{b:Bool}(r:vY k d (l+1) g left b)(m:0<d){t a one q' left':Nat}{over':Bool}(n:k/2^l%2=t)(o:a=2*left+t)(h:(d<=a/\one=1/\left'=a-d)\/(a<d/\one=0/\left'=a))(p:(over'=true/\q'=g/\(b=true\/4611686018427387903<g))\/(over'=false/\b=false/\g<=4611686018427387903/\q'=2*g+one)):vY k d l q' left' over':=by(have f:one=if d<=a then 1 else 0:=by rcases h with⟨i,c,_⟩|⟨i,c,_⟩;(.rw[aH i,c]);.rw[aE O,c]);have j:=r.D m a (by rw[n];exact o) f;(have e:left'=if d<=a then a-d else a:=by rcases h with⟨i,_,c⟩|⟨i,_,c⟩;(.rw[aH i,c]);.rw[aE O,c]);rw[<-e]at j;rcases p with⟨rfl,rfl,c⟩|⟨rfl,rfl,c,rfl⟩;(·(have q:(b||decide (4611686018427387903<q'))=true:=by rcases c with rfl|c;(.rfl);.simp[c]);rw[q]at j;exact j);.have q:(false||decide (4611686018427387903<g))=false:=bh;rw[q]at j;exact j
def Tz(b a:Nat)(c:0<a):(b+(a-1))/a=if 0<b%a then b/a+1 else b/a:=by have e:=Nat.div_add_mod b a;have d:=Nat.mod_lt b c;split;(.rename_i f;(have:b+(a-1)=a*(b/a+1)+(b%a-1):=by rw[Nat.mul_add];omega);rw[this,Nat.mul_add_div c,Nat.div_eq_of_lt (show b%a-1<a by omega)]);.have:b+(a-1)=a*(b/a)+(a-1):=O;rw[this,Nat.mul_add_div c,Nat.div_eq_of_lt (show a-1<a by omega),Nat.add_zero]
def Tv(a b:Nat)(f:a<=9223372036854775807)(c:0<a%b):a/b<=4611686018427387903:=by by_cases d:b=0;(.subst d;simp);.by_cases e:b=1;(.subst e;simp[Nat.mod_one]at c);.have:a/b<=a/2:=Nat.div_le_div_left O O;omega
def vY.cp{d b e f left:Nat}{a:Bool}(g:vY d b e f left a)(c:0<b):left<b:=by rw[g.l];exact Nat.mod_lt _ c
def S0{a:IntKind}{b c:Int}(d:b=c):Ending.returned (ae a b)=aG (ae a c):=by rw[d]
def cL(a:Nat->Int)(n:Nat):List ad:=(List.range n).map λb=>ae ah<|a b
def FA(a:Nat->Int)(b:Nat):cL a (b+1)=cL a b++[ae ah<|a b]:=by simp[cL,List.range_succ]
def gX(b:Nat->Int)(c a:Nat)(d:a<c):(cL b c)[a]?=some (ae ah<|b a):=by simp[cL,d]
def jR(b:Nat->Int)(a:Nat):(cL b a).length=a:=by simp[cL]
def Js(f:Nat->Int)(c d:Nat)(g:Int):(cL f c).set d (ae ah g)=cL (λb=>if b=d then g else f b) c:=by apply List.ext_getElem?;intro b;rw[List.getElem?_set];by_cases e:d=b;(.subst e;by_cases a:d<c;(.simp[cL,a]);.simp[cL,a]);.simp only[cL,List.getElem?_map,e,if_false,aE<|Ne.L e];by_cases a:b<c;(.rw[List.getElem?_range a];simp[Ne.L e]);.rw[List.getElem?_eq_none (by simpa using a)];rfl
def hQ:(prog.info? 3).map (λi=>(i.zero,i.size,i.bytes))=some (some<|ae ah 0,1,8):=ay
def wH(g:Nat)(h:ab)(q:g<=9223372036854775807):ag prog 372 (bV g) h λe l=>∃p,e=aG p/\l.ownsRow h.heap.size 3 1 p 4 (cL (λr=>o8 g r) 4)/\aa h h l:=by obtain⟨z,A,t,u,v⟩:=info_parts hQ;go_in;go_wp2;go_loopw [0,3,4](λk p s wr=>∃(b:Nat),b<=4/\s=ae ah b/\k=ae ah ((g/65536^b:Nat):Int)/\wr.ownsRow h.heap.size 3 1 p b (cL (λr=>o8 g r) b)/\aa h h wr)(λ_ _ s _=>4-(intOf s).toNat);exact⟨0,O,rfl,aI,World.ownsRow_nil _ _ _ _,aC⟩;obtain⟨b,B,rfl,rfl,c,a⟩:=hrel;obtain⟨k,d⟩:=aJ<|g/65536^b;rw[d];(have w:k<=9223372036854775807:=by rw[<-d];exact Nat.le_trans (Nat.div_le_self _ _) q);(have i:k/65536=g/65536^(b+1):=by rw[<-d,Rj]);(have j:o8 g b=k%65536:=by rw[<-d];rfl);have m:=H i;have n:=H j;clear d i j;by_cases x:b<4;(.go_wp2_with(at_builtin;go_loud(refine zl wr rfl _ _ 29 rfl h.heap.size 3 (aA 0) 8 underlying29 hQ rfl _ (aA<|(k:Int)%65536) _ _ _ rfl (by exact c) rfl rfl ?c1 ?c2 ?c3 ?_));(case c1=>unfold maxLen;omega);(case c2=>omega);(case c3=>exact a.size);intro C D f y o _;go_wp2;go_roundw;exact⟨b+1,O,ee,by rw[<-m.o];go_num,by rw[FA,n.o];exact f,a.C o⟩;exact dw);.obtain rfl:b=4:=O;go_wp2;go_ret;exact⟨_,rfl,c,a⟩
def tu(z g i:Nat)(n:Nat->Nat)(a:Nat)(q:Int)(r:ab)(j:I<|((n (a/16)/2^(a%16)%2:Nat):Int)=q)(C:a<16*g)(D:g<=1000)(s:I<|∀h,h<g->r.cell? (ak z h)=some (ae ah<|n h))(t:I<|∀h,h<g->n h<65536):ag prog 272 #[ai (av z) g i,ae ah a] r λE u=>E=aG (aA q)/\r=u:=by have d:=s.o (a/16) O;have k:=t.o (a/16) O;obtain⟨o,f⟩:=aJ<|n<|a/16;rw[f]at d k;have l:=H (show((o/2^(a%16)%2:Nat):Int)=q by rw[<-f];exact j.o);clear f j;have v:a/16<g:=O;go_in;go_wp2;go_loop [5,6](λp w=>∃c:Nat,c<=a%16/\w=ae ah c/\p=ae ah ((o/2^c:Nat):Int))(λ_ w=>16-(intOf w).toNat);exact⟨0,O,rfl,aI⟩;obtain⟨c,F,rfl,rfl⟩:=hrel;obtain⟨p,b⟩:=aJ<|o/2^c;rw[b];(have A:p<=65536:=by rw[<-b];exact Nat.le_trans (Nat.div_le_self _ _) O);(have e:p/2=o/2^(c+1):=by rw[<-b,Nat.div_div_eq_div_mul,Nat.pow_succ]);have m:=H e;have x:=H b;clear b e d;by_cases B:c<a%16;(.go_wp2;go_round;(case rel=>exact⟨c+1,O,ee,by rw[<-m.o];go_num⟩);case measure=>simp[intOf];omega);.obtain rfl:c=a%16:=O;go_wp2;go_ret;exact⟨S0 (by have y:=l.o;rw[x.o]at y;omega),rfl⟩
structure ax(S:Nat->Prop)(w w':ab):Prop where
 os:w'.os=w.os
 tape:w'.tape=w.tape
 output:w'.output=w.output
 size:w.heap.size<=w'.heap.size
 block:∀k,k<w.heap.size->¬S k->w'.heap[k]?=w.heap[k]?
def ax.refl(S:Nat->Prop)(w:ab):ax S w w:=⟨rfl,rfl,rfl,au,λ_ _ _=>rfl⟩
def ax.C{S:Nat->Prop}{a b c:ab}(d:ax S a b)(k:ax S b c):ax S a c:=⟨k.os.C d.os,k.tape.C d.tape,k.output.C d.output,Nat.le_trans d.size k.size,λi e f=>(k.block i (aP e d.size) f).C<|d.block i e f⟩
abbrev ax.trans:=@ax.C
def ax.B{S T:Nat->Prop}{a b:ab}(c:ax S a b)(k:∀i,S i->T i):ax T a b:=⟨c.os,c.tape,c.output,c.size,λi d e=>c.block i d λx=>e<|k i x⟩
abbrev ax.mono:=@ax.B
def ax.a6{S:Nat->Prop}{a b:ab}(c:aa a a b):ax S a b:=⟨c.os,c.tape,c.output,c.size,λi d _=>c.block i d⟩
def ax.fq{S:Nat->Prop}{a b:ab}{c:Option Nat}(d:a.grownBy b c)(k:∀i,c=some i->S i):ax S a b:=⟨d.os,d.tape,d.output,d.size,λi e f=>d.block i e λg=>f<|k i g.L⟩
def ax.set{S:Nat->Prop}(w:ab)(p:ao)(v:ad)(b:S p.block):ax S w<|w.setCell p v:=⟨rfl,rfl,rfl,by simp[World.setCell],λi c a=>Below.heap_setCell _ _ _ _ λd=>a (by rw[d];exact b)⟩
def ax.drewN{S:Nat->Prop}(w:ab)(n:Nat):ax S w<|w.drewN n:=⟨rfl,rfl,rfl,au,λ_ _ _=>rfl⟩
def ax.alloc{S:Nat->Prop}(w:ab)(o:Obj):ax S w<|w.alloc o:=ax.a6<|aC.alloc au _
abbrev ax.Q:=@ax.alloc
def ax.K{S:Nat->Prop}{B:Nat}{w0 w a:ab}(b:aa B w0 w)(k:ax S w a)(d:B<=w)(e:∀i,S i->B<=i):aa B w0 a:=⟨k.os.C b.os,k.tape.C b.tape,k.output.C b.output,Nat.le_trans b.size k.size,λi c=>(k.block i (aP c d) (λx=>by have:=e i x;omega)).C<|b.block i c⟩
def bm{S:Nat->Prop}{w a:ab}{b:Nat}{c:Array ad}{T:aq}(e:ar w b c T)(k:ax S w a)(d:¬S b):ar a b c T:=by unfold ar;rw[k.block b e.N d];exact e
def jc{S:Nat->Prop}{s g:ab}{a h n c:Nat}{t:aq}{b:Nat}{i:List ad}(u:s.ownsRow a t b (ai (av h) n c) n i)(k:ax S s g)(m:¬S h):g.ownsRow a t b (ai (av h) n c) n i:=by have j:=(u.N h rfl).2;obtain⟨o,d⟩:=u;refine⟨o,?_⟩;rcases d with d|⟨p,e,l,f,q,r,v⟩;(.exact .inl d);.refine .inr ⟨p,e,l,f,q,?_,v⟩;simp only[Value.slice.injEq,Option.some.injEq,Addr.mk.injEq,and_true,true_and]at f;obtain⟨rfl,rfl⟩:=f;rw[k.block h j m];exact r
def cq{w:ab}{c a:Nat}{m:aq}{b:Nat}{v:ad}{n:Nat}{e:List ad}(o:w.ownsRow c m b v n e)(j:∀g,v.ownBlock=some g->a<=g):w.ownsRow a m b v n e:=by obtain⟨k,d⟩:=o;refine⟨k,?_⟩;rcases d with d|⟨g,f,h,i,p,l,q⟩;(.exact .inl d);.exact .inr ⟨g,f,h,i,j g (by rw[i];rfl),l,q⟩
def FB{m:Nat->Prop}{w d:ab}{f:Nat}{a:Nat}{n e:Nat}{o:Nat->Nat->Int}(q:I<|ba w (some ⟨f,a,none⟩) n e o)(p:ax m w d)(g:¬m f):I<|ba d (some ⟨f,a,none⟩) n e o:=by obtain⟨h,c,i⟩:=q.o;refine H ⟨h,?_,i⟩;rcases c with c|⟨u,a,r,b,j⟩;(.exact .inl c);.cases r;refine .inr ⟨_,_,rfl,aP b p.size,λs k t l=>?_⟩;rw[World.cell?_of_block (w:=w)<|p.block _ b g];exact j s k t l
def hh{w:ab}{a o n d b:Nat}{p q:aq}{c:Nat}{g:List ad}{h:Array ad}(s:w.ownsRow a p c (ai (av o) n d) n g)(k:ar w b h q)(e:p≠q):o≠b:=by rcases s.2 with⟨i,_⟩|⟨t,j,r,f,u,l,v⟩;(.simp at i);.simp only[Value.slice.injEq,Option.some.injEq,Addr.mk.injEq,and_true,true_and]at f;obtain⟨rfl,rfl⟩:=f;intro m;subst m;unfold ar at k;rw[l]at k;simp at k;exact e k.2
def bM{w:ab}{b c:Nat}{g h:aq}{e f:Array ad}(i:ar w b e g)(d:ar w c f h)(a:g≠h):b≠c:=by intro j;subst j;unfold ar at i d;rw[i]at d;simp at d;exact a d.2
def wJ{j:ab}{b f c e:Nat}{m:aq}{g:Nat->Int}(k:j.ownsRow b m 1 (ai (av f) c e) c<|cL g c)(h:c<=9223372036854775807)(i:∀a,a<c->bu (g a)):I<|ba j (av f) c 1 λa _=>g a:=by refine H ⟨h,.inr ⟨f,0,rfl,(k.N f rfl).2,λa d l n=>?_⟩,λa d l _=>i a d⟩;have:=k.cellAt a O;rw[gX g c a d]at this;obtain rfl:l=0:=O;simpa using this
def FC{k:ab}{a:Nat}{o:aq}{b:Nat}{g:ad}{l:Nat}{h:List ad}(m:k.ownsRow a o b g l h)(d:g≠ai none 0 0):∃c p,g=ai (av c) l p/\a<=c/\c<k.heap.size:=by rcases m.2 with⟨i,_⟩|⟨c,e,n,f,j,q,r⟩;(.exact absurd i d);.exact⟨c,e,f,j,(m.N c (by rw[f];rfl)).2⟩
def AU(k:ab){h:Array Oper}{rest:List Oper}{C:Oper}{D:Act}{R:Exit->Act->ab->Prop}(i:C.guard=.none)(E F:Operand)(p:aq)(q:C.op=.call {callee:=.builtin .append,args:=#[E,F],argTypes:=#[p,p]})(r:prog.underlying p=some (.slice 3))(a:Nat)(l:ad)(o:Nat)(e:List ad)(s:D.eval E=l)(b:k.ownsRow a 3 1 l o e)(G:Option ao)(c K:Nat)(J:Nat->Int)(t:D.eval F=ai G c K)(L:G=none->K=0/\c=0)(M:I<|ba k G c 1 λV _=>J V)(S:o+c<=9223372036854775807)(d:(o+c)*8<=140737488355328)(f:a<=k)(T:∀m n,n.ownsRow a 3 1 m (o+c) (e++cL J c)->k.grownBy n l.ownBlock->(m=ai none 0 0↔l=ai none 0 0/\c=0)->wpList prog h R rest (D.put C.dst m) n):wpList prog h R (C::rest) D k:=by obtain⟨u,v,w,x,y⟩:=info_parts hQ;cases G with|none=>obtain⟨rfl,rfl⟩:=L rfl;refine wpList_append_own_none i E F p q a 3 u 1 r v l o e s b t ?_;exact T l k (by simpa[cL]using b) (ot _ _) ⟨λz=>⟨z,rfl⟩,λz=>z.1⟩|some N=>refine wpList_append_own k i E F p q a 3 u (aA 0) 1 8 r v w x y rfl an l o e s b N c K (cL J c) t (by rw[jR,Nat.mul_one]) (λP W g=>?_) (λW A=>?_) (by unfold maxLen;omega) d f T;(·(have j:P<c:=by refine Nat.lt_of_not_le λB=>?_;rw[List.getElem?_eq_none (by rw[jR];exact B)]at g;cases g);rw[gX J c P j]at g;cases g;obtain⟨X,U,z,_,Q,_⟩:=gG M P j;cases z;rw[cd];exact Q);.simp only[cL,List.mem_map]at A;obtain⟨_,_,rfl⟩:=A;rfl
def Ci(c:ab)(a:Nat)(o:a<=1000):∃b,(Instr.makeSlice 29 (aA a)<|aA a).run prog c=.ok (ai (av c) a a) b/\b.ownsRow c.heap.size 3 1 (ai (av c) a a) a (cL (λ_=>0) a)/\c.grownBy b none:=by obtain⟨h,i,d,e,f⟩:=info_parts hQ;obtain⟨b,j,g,k⟩:=run_makeSlice_full c c.heap.size 29 3 h (aA 0) 1 underlying29 i d e ah ah a O (by rw[f];omega) (by unfold maxLen;omega) au;refine⟨b,j,?_,k⟩;(have p:(madeCells (dx ah 0).cells<|a*1).toList=cL (λ_=>0) a:=by apply List.ext_getElem?;intro l;unfold cL;by_cases n:l<a;(.have m:l%1=0:=Nat.mod_one l;simp[madeCells,Value.cells,n,m]);.simp[madeCells,Value.cells,n]);rw[p]at g;exact g
section
open Go.ChangeShapes Go.WideShapes Go.ChangeAt Go.Deep Go.Joins
structure a8 where(ra:Option ao)(rn rc:Nat)(rb rs:Nat->Int)(rw:Nat->Bool)(pa:Option ao)(T pc:Nat)(pf:Nat->Nat->Int)(oa:Option ao)(on oc:Nat)(oq oi:Nat->Bool)(os od:Nat->Int)(sa:Option ao)(sn sc:Nat)(sf:Nat->Nat->Int)(fl:Int)(qa:Option ao)(qn qc:Nat)(qf:Nat->Nat->Int)(ta:Option ao)(tn tc:Nat)(tf:Nat->Int)(cap n7 k2:Int)(ca:Option ao)(t cc:Nat)(cf:Nat->Int)(gp:Nat:=0)
instance:Coe a8 (Array ad):=⟨λa=>(gA a.ra a.rn a.rc a.pa a.T a.pc a.oa a.on a.oc a.sa a.sn a.sc a.fl a.qa a.qn a.qc a.ta a.tn a.tc a.cap a.n7 a.k2 a.ca a.t a.cc)⟩
def a8.kl(a:a8):List ad:=[ai a.ra a.rn a.rc,ai a.pa a.T a.pc,ai a.oa a.on a.oc,ai a.sa a.sn a.sc,ae ah a.fl,ai a.qa a.qn a.qc,ai a.ta a.tn a.tc,ae ah a.cap,ae ah a.n7,ae ah a.k2,ai a.ca a.t a.cc]
def nw(b c:Nat->Int)(d:Nat->Bool)(a e:Nat):ad:=match e with|0=>ae ah (b a)|1=>ae ah (c a)|_=>aD<|d a
def A7(b c:Nat->Bool)(d e:Nat->Int)(a f:Nat):ad:=match f with|0=>aD (b a)|1=>aD (c a)|2=>ae ah (d a)|_=>ae ah<|e a
def a8.QQ(a:a8):Prop:=(a.rn<=a.rc/\a.rc<=9223372036854775807)/\(a.T<=a.pc/\a.pc<=9223372036854775807)/\(a.on<=a.oc/\a.oc<=9223372036854775807)/\(a.sn<=a.sc/\a.sc<=9223372036854775807)/\(a.qn<=a.qc/\a.qc<=9223372036854775807)/\(a.tn<=a.tc/\a.tc<=9223372036854775807)
structure a8.h(w:ab)(p:a8):Prop where
 Qs:I<|dH w p.ra p.rn 3<|nw p.rb p.rs p.rw
 QP:∀i,i<p.rn->bu (p.rb i)/\bu (p.rs i)
 proc:I<|ba w p.pa p.T 3 p.pf
 port:I<|dH w p.oa p.on 4<|A7 p.oq p.oi p.os p.od
 QT:∀i,i<p.on->bu (p.os i)/\bu (p.od i)
 QI:I<|ba w p.sa p.sn 2 p.sf
 fl:bu p.fl
 Qy:I<|ba w p.qa p.qn 2 p.qf
 u9:I<|ba w p.ta p.tn 1 λi _=>p.tf i
 cap:bu p.cap
 n7:bu p.n7
 k2:bu p.k2
 act:I<|ba w p.ca p.t 1 λi _=>p.cf i
 QO:p.QQ
def a8.h.K{w d:ab}{e:Nat}{p:a8}(c:p.h w)(a:aa e w d)(b:w<=e):p.h d:=⟨dS c.Qs.o a b,c.QP,bx c.proc.o a b,dS c.port.o a b,c.QT,bx c.QI.o a b,c.fl,bx c.Qy.o a b,bx c.u9.o a b,c.cap,c.n7,c.k2,bx c.act.o a b,c.QO⟩
def kh{c:Type}[Nonempty c]{d:Nat}{e:Nat->c->Prop}(f:∀a,a<d->∃g,e a g):∃h:Nat->c,∀a,a<d->e a (h a):=⟨λa=>if b:a<d then Classical.choose (f a b)else Classical.choice inferInstance,λa b=>by simp only[b,dif_pos];exact Classical.choose_spec<|f a b⟩
instance:Nonempty a8:=⟨⟨none,0,0,λ_=>0,λ_=>0,λ_=>false,none,0,0,λ_ _=>0,none,0,0,λ_=>false,λ_=>false,λ_=>0,λ_=>0,none,0,0,λ_ _=>0,0,none,0,0,λ_ _=>0,none,0,0,λ_=>0,0,0,0,none,0,0,λ_=>0,0⟩⟩
section
variable{X:Type}{enc:aq×ad->X}{w:ab}{G:Bool}
def M5{a:Nat}{b:List ad}{m:DataW X×List MemPlace}(g:DataW.trod enc prog w 0 (λ_=>true) G a 149 b=some m):∃(h i:Int)(j:Bool),b=[ae ah h,ae ah i,aD j]/\bu h/\bu i:=by have c:=fJ underlying149 g;rw[show prog.cellsOf 149=3 from ay]at c;match b,c with|[n,o,p],_=>obtain⟨q,r,d⟩:=bP underlying149 g 0 rfl (o:=0) rfl rfl (k:=1) ay;obtain⟨s,t,e⟩:=bP underlying149 g 1 rfl (o:=1) rfl rfl (k:=1) ay;obtain⟨u,v,f⟩:=bP underlying149 g 2 rfl (o:=2) rfl rfl (k:=1) ay;simp only[List.drop,List.take]at d e f;obtain⟨h,rfl,k⟩:=fN underlying3 d;obtain⟨i,rfl,l⟩:=fN underlying3 e;obtain⟨j,rfl⟩:=tK underlying4 f;exact⟨h,i,j,rfl,k,l⟩
def JP{a:Nat}{b:List ad}{o:DataW X×List MemPlace}(c:DataW.trod enc prog w 0 (λ_=>true) G a 233 b=some o):∃(k l:Bool)(i j:Int),b=[aD k,aD l,ae ah i,ae ah j]/\bu i/\bu j:=by have d:=fJ underlying233 c;rw[show prog.cellsOf 233=4 from ay]at d;match b,d with|[p,q,r,s],_=>obtain⟨t,u,e⟩:=bP underlying233 c 0 rfl (o:=0) rfl rfl (k:=1) ay;obtain⟨v,x,f⟩:=bP underlying233 c 1 rfl (o:=1) rfl rfl (k:=1) ay;obtain⟨y,z,g⟩:=bP underlying233 c 2 rfl (o:=2) rfl rfl (k:=1) ay;obtain⟨A,B,h⟩:=bP underlying233 c 3 rfl (o:=3) rfl rfl (k:=1) ay;simp only[List.drop,List.take]at e f g h;obtain⟨k,rfl⟩:=tK underlying4 e;obtain⟨l,rfl⟩:=tK underlying4 f;obtain⟨i,rfl,m⟩:=fN underlying3 g;obtain⟨j,rfl,n⟩:=fN underlying3 h;exact⟨k,l,i,j,rfl,m,n⟩
def JK{d:Nat}{x:ad}{y:DataW X×List MemPlace}(z:DataW.trod enc prog w 0 (λ_=>true) G d 125 [x]=some y):∃(j:Option ao)(e g:Nat)(k l:Nat->Int)(m:Nat->Bool),x=ai j e g/\dH w j e 3 (nw k l m)/\(∀a,a<e->bu (k a)/\bu (l a))/\e<=g/\g<=9223372036854775807:=by obtain⟨j,e,g,n,o,p,q,r,h⟩:=iV underlying125 (sz:=3) ay an z;(have f:∀a,a<e->∃c:Int×Int×Bool,n a=[ae ah c.1,ae ah c.2.1,aD c.2.2]/\bu c.1/\bu c.2.1:=λa b=>by obtain⟨_,B,C,s⟩:=h a b;obtain⟨k,l,m,o,t,u⟩:=M5 s;exact⟨(k,l,m),o,t,u⟩);obtain⟨c,i⟩:=choose_lt f;refine⟨j,e,g,λa=>(c a).1,λa=>(c a).2.1,λa=>(c a).2.2,by simpa using o,iA r λa b A v=>?_,λa b=>(i a b).2,p,sv q⟩;rw[(i a b).1];match A,v with|0,_=>rfl|1,_=>rfl|2,_=>rfl
def FZ{d:Nat}{v:ad}{x:DataW X×List MemPlace}(y:DataW.trod enc prog w 0 (λ_=>true) G d 127 [v]=some x):∃(j:Option ao)(e g:Nat)(b z:Nat->Bool)(k l:Nat->Int),v=ai j e g/\dH w j e 4 (A7 b z k l)/\(∀a,a<e->bu (k a)/\bu (l a))/\e<=g/\g<=9223372036854775807:=by obtain⟨j,e,g,m,n,o,p,q,h⟩:=iV underlying127 (sz:=4) ay an y;(have f:∀a,a<e->∃b:Bool×Bool×Int×Int,m a=[aD b.1,aD b.2.1,ae ah b.2.2.1,ae ah b.2.2.2]/\bu b.2.2.1/\bu b.2.2.2:=λa c=>by obtain⟨_,D,E,r⟩:=h a c;obtain⟨A,k,B,l,n,s,t⟩:=JP r;exact⟨(A,k,B,l),n,s,t⟩);obtain⟨b,i⟩:=choose_lt f;refine⟨j,e,g,λa=>(b a).1,λa=>(b a).2.1,λa=>(b a).2.2.1,λa=>(b a).2.2.2,by simpa using n,iA q λa c C u=>?_,λa c=>(i a c).2,o,sv p⟩;rw[(i a c).1];match C,u with|0,_=>rfl|1,_=>rfl|2,_=>rfl|3,_=>rfl
def JM{c:Nat}{d:List ad}{ci:DataW X×List MemPlace}(a:DataW.trod enc prog w 0 (λ_=>true) G c 131 d=some ci):∃cb:a8,d=cb.kl/\cb.h w:=by have i:=fJ underlying131 a;rw[show prog.cellsOf 131=11 from ay]at i;match d,i with|[co,cp,cr,cs,cv,cy,c0,c1,c2,c3,cc],_=>obtain⟨c4,c5,j⟩:=bP underlying131 a 0 rfl (o:=0) rfl rfl (k:=1) ay;obtain⟨c6,c7,k⟩:=bP underlying131 a 1 rfl (o:=1) rfl rfl (k:=1) ay;obtain⟨da,db,l⟩:=bP underlying131 a 2 rfl (o:=2) rfl rfl (k:=1) ay;obtain⟨dc,dd,m⟩:=bP underlying131 a 3 rfl (o:=3) rfl rfl (k:=1) ay;obtain⟨df,dl,n⟩:=bP underlying131 a 4 rfl (o:=4) rfl rfl (k:=1) ay;obtain⟨dn,dr,o⟩:=bP underlying131 a 5 rfl (o:=5) rfl rfl (k:=1) ay;obtain⟨d0,d1,p⟩:=bP underlying131 a 6 rfl (o:=6) rfl rfl (k:=1) ay;obtain⟨d2,d3,q⟩:=bP underlying131 a 7 rfl (o:=7) rfl rfl (k:=1) ay;obtain⟨d4,d5,r⟩:=bP underlying131 a 8 rfl (o:=8) rfl rfl (k:=1) ay;obtain⟨d6,d7,s⟩:=bP underlying131 a 9 rfl (o:=9) rfl rfl (k:=1) ay;obtain⟨ce,cf,b⟩:=bP underlying131 a 10 rfl (o:=10) rfl rfl (k:=1) ay;simp only[List.drop,List.take]at j k l m n o p q r s b;obtain⟨B,C,D,E,F,J,rfl,K,t,L⟩:=JK j;obtain⟨M,N,P,Q,rfl,R,S⟩:=rB underlying126 underlying151 ay ay an (sz:=3) rfl k;obtain⟨T,U,V,W,Y,Z,ac,rfl,af,u,am⟩:=FZ l;obtain⟨ap,az,aS,a0,rfl,v,a1⟩:=rB underlying128 underlying237 ay ay an (sz:=2) rfl m;obtain⟨a2,rfl,e⟩:=fN underlying3 n;obtain⟨a3,a4,a5,a6,rfl,a7,a9⟩:=rB underlying129 underlying241 ay ay an (sz:=2) rfl o;obtain⟨bd,be,bf,bi,rfl,bp,bs⟩:=FY underlying29 underlying3 ay p;obtain⟨x,rfl,f⟩:=fN underlying3 q;obtain⟨y,rfl,g⟩:=fN underlying3 r;obtain⟨z,rfl,h⟩:=fN underlying3 s;obtain⟨bv,bz,b0,ca,rfl,A⟩:=rC underlying29 underlying3 ay b;exact⟨⟨B,C,D,E,F,J,M,N,P,Q,T,U,V,W,Y,Z,ac,ap,az,aS,a0,a2,a3,a4,a5,a6,bd,be,bf,bi,x,y,z,bv,bz,b0,ca,0⟩,rfl,⟨K,t,R,af,u,v,e,a7,bp,f,g,h,A,⟨L,S,am,a1,a9,bs⟩⟩⟩
end
end
section
open Go.ChangeShapes Go.WideShapes Go.ChangeAt Go.Deep Go.Joins
section
variable{X:Type}{enc:aq×ad->X}{w:ab}{G:Bool}
def F1{c:Nat}{n:ad}{q:DataW X×List MemPlace}(r:DataW.trod enc prog w 0 (λ_=>true) G c 22 [n]=some q):∃(h:Option ao)(e j:Nat)(o:Nat->a8),n=ai h e j/\dH w h e 11 (λa p=>(o a).kl.getD p undef)/\∀a,a<e->(o a).h w:=by obtain⟨h,e,j,k,s,_,_,l,f⟩:=iV underlying22 (sz:=11) ay an r;(have d:∀a,a<e->∃i:a8,k a=i.kl/\i.h w:=λa b=>by obtain⟨_,u,v,m⟩:=f a b;exact JM m);obtain⟨i,g⟩:=kh d;exact⟨h,e,j,i,by simpa using s,iA l λa b p t=>by rw[(g a b).1],λa b=>(g a b).2⟩
def CK{a:Nat}{b:List ad}{k:DataW X×List MemPlace}(h:DataW.trod enc prog w 0 (λ_=>true) G a 71 b=some k):∃(f g:Int),b=[ae ah f,ae ah g]/\bu f/\bu g:=by have c:=fJ underlying71 h;rw[show prog.cellsOf 71=2 from ay]at c;match b,c with|[l,m],_=>obtain⟨n,o,d⟩:=bP underlying71 h 0 rfl (o:=0) rfl rfl (k:=1) ay;obtain⟨p,q,e⟩:=bP underlying71 h 1 rfl (o:=1) rfl rfl (k:=1) ay;simp only[List.drop,List.take]at d e;obtain⟨f,rfl,i⟩:=fN underlying3 d;obtain⟨g,rfl,j⟩:=fN underlying3 e;exact⟨f,g,rfl,i,j⟩
def JN{a:Nat}{b:List ad}{o:DataW X×List MemPlace}(j:DataW.trod enc prog w 0 (λ_=>true) G a 73 b=some o):∃(d:Nat->Int),b=[ae ah<|d 0,ae ah<|d 1,ae ah<|d 2,ae ah<|d 3]/\∀c,bu<|d c:=by have e:=fJ underlying73 j;rw[show prog.cellsOf 73=4 from ay]at e;match b,e with|[p,q,r,s],_=>obtain⟨t,u,f⟩:=bP underlying73 j 0 rfl (o:=0) rfl rfl (k:=2) ay;obtain⟨v,x,g⟩:=bP underlying73 j 1 rfl (o:=2) rfl rfl (k:=2) ay;simp only[List.drop,List.take]at f g;obtain⟨y,z,h,k,l⟩:=CK f;obtain⟨A,B,i,m,n⟩:=CK g;refine⟨λc=>match c with|0=>y|1=>z|2=>A|_=>B,?_,λc=>?_⟩;(.simp only[List.cons.injEq,and_true]at h i;obtain⟨rfl,rfl⟩:=h;obtain⟨rfl,rfl⟩:=i;rfl);.match c with|0=>exact k|1=>exact l|2=>exact m|c+3=>exact n
def F0{c:Nat}{x:ad}{y:DataW X×List MemPlace}(z:DataW.trod enc prog w 0 (λ_=>true) G c 23 [x]=some y):∃(p:Option ao)(i q:Nat)(A:Nat->Nat->Int),x=ai p i q/\i<=q/\ba w p i 4 A:=by obtain⟨p,i,q,j,B,d,_,e,k⟩:=iV underlying23 (sz:=4) ay an z;(have f:∀b,b<i->∃g:Nat->Int,j b=[ae ah<|g 0,ae ah<|g 1,ae ah<|g 2,ae ah<|g 3]/\∀h,bu<|g h:=λb a=>by obtain⟨_,D,E,r⟩:=k b a;exact JN r);obtain⟨g,l⟩:=choose_lt f;obtain⟨s,e⟩:=e;refine⟨p,i,q,g,by simpa using B,d,s,?_,λb a h _=>(l b a).2 h⟩;rcases e with t|⟨C,m,u,n,v⟩;(.exact .inl t);.refine .inr ⟨C,m,u,n,λb a h o=>?_⟩;rw[v b a h o];show some ((j b).getD h undef)=_;rw[(l b a).1];match h,o with|0,_=>rfl|1,_=>rfl|2,_=>rfl|3,_=>rfl
structure fK where(fr:Int)(wa:Option ao)(wn wc:Nat)(wf:Nat->Nat->Int)
instance:Coe fK (Array ad):=⟨λa=>(tC a.fr a.wa a.wn a.wc)⟩
def fK.kl(a:fK):List ad:=[ae ah a.fr,ai a.wa a.wn a.wc]
instance:Nonempty fK:=⟨⟨0,none,0,0,λ_ _=>0⟩⟩
structure fK.h(w:ab)(a:fK):Prop where
 fr:bu a.fr
 gf:I<|ba w a.wa a.wn 3 a.wf
def fK.h.K{w a:ab}{d:Nat}{e:fK}(f:e.h w)(b:aa d w a)(c:w<=d):e.h a:=⟨f.fr,bx f.gf.o b c⟩
def JO{a:Nat}{b:List ad}{n:DataW X×List MemPlace}(g:DataW.trod enc prog w 0 (λ_=>true) G a 115 b=some n):∃m:fK,b=m.kl/\m.h w:=by have c:=fJ underlying115 g;rw[show prog.cellsOf 115=2 from ay]at c;match b,c with|[o,p],_=>obtain⟨q,r,d⟩:=bP underlying115 g 0 rfl (o:=0) rfl rfl (k:=1) ay;obtain⟨s,t,e⟩:=bP underlying115 g 1 rfl (o:=1) rfl rfl (k:=1) ay;simp only[List.drop,List.take]at d e;obtain⟨h,rfl,f⟩:=fN underlying3 d;obtain⟨i,j,wc,k,rfl,l⟩:=mu underlying113 underlying118 ay ay an (sz:=3) rfl e;exact⟨⟨h,i,j,wc,k⟩,rfl,⟨f,l⟩⟩
def F2{c:Nat}{o:ad}{q:DataW X×List MemPlace}(r:DataW.trod enc prog w 0 (λ_=>true) G c 24 [o]=some q):∃(h:Option ao)(e j:Nat)(k:Nat->fK),o=ai h e j/\dH w h e 2 (λa p=>(k a).kl.getD p undef)/\∀a,a<e->(k a).h w:=by obtain⟨h,e,j,l,s,_,_,m,f⟩:=iV underlying24 (sz:=2) ay an r;(have d:∀a,a<e->∃i:fK,l a=i.kl/\i.h w:=λa b=>by obtain⟨_,k,u,n⟩:=f a b;exact JO n);obtain⟨i,g⟩:=kh d;exact⟨h,e,j,i,by simpa using s,iA m λa b p t=>by rw[(g a b).1],λa b=>(g a b).2⟩
structure aN where(pa:Option ao)(T pc:Nat)(p:Nat->a8)(ca:Option ao)(t cc:Nat)(cf:Nat->Nat->Int)(ma:Option ao)(mn mc:Nat)(m:Nat->fK)(w:bc)(da:Option ao)(dn dc:Nat)(df:Nat->Int)(ua:Option ao)(un uc:Nat)(uf:Nat->Int)
instance:Coe aN (Array ad):=⟨λa=>(du a.pa a.T a.pc a.ca a.t a.cc a.ma a.mn a.mc a.w.la a.w.W a.w.lc a.w.na a.w.s a.w.nc a.w.v a.w.id a.w.Z a.w.qu a.w.Y a.w.pp a.da a.dn a.dc a.ua a.un a.uc)⟩
def aN.kl(c:aN):List ad:=[ai c.pa c.T c.pc,ai c.ca c.t c.cc,ai c.ma c.mn c.mc,ai c.w.la c.w.W c.w.lc,ai c.w.na c.w.s c.w.nc,ae ah c.w.v,ae ah c.w.id,ae ah c.w.Z,ae ah c.w.qu,ae ah c.w.Y,ae ah c.w.pp,ai c.da c.dn c.dc,ai c.ua c.un c.uc]
structure aN.h(w:ab)(c:aN):Prop where
 parts:I<|dH w c.pa c.T 11 λi a=>(c.p i).kl.getD a undef
 part:∀i,i<c.T->(c.p i).h w
 nq:I<|ba w c.ca c.t 4 c.cf
 c6:I<|dH w c.ma c.mn 2 λi a=>(c.m i).kl.getD a undef
 mode:∀i,i<c.mn->(c.m i).h w
 pow:c.w.h w
 down:I<|ba w c.da c.dn 1 λi _=>c.df i
 up:I<|ba w c.ua c.un 1 λi _=>c.uf i
 cap:c.t<=c.cc
def aN.h.K{w f:ab}{g:Nat}{c:aN}(d:c.h w)(a:aa g w f)(b:w<=g):c.h f:=⟨dS d.parts.o a b,λi e=>(d.part i e).K a b,bx d.nq.o a b,dS d.c6.o a b,λi e=>(d.mode i e).K a b,d.pow.K a b,bx d.down.o a b,bx d.up.o a b,d.cap⟩
def JL{a:Nat}{b:List ad}{v:DataW X×List MemPlace}(f:DataW.trod enc prog w 0 (λ_=>true) G a 31 b=some v):∃(r:Option ao)(s x:Nat)(y:Nat->Int)(t:Option ao)(u z:Nat)(A:Nat->Int),b=[ai r s x,ai t u z]/\ba w r s 1 (λg _=>y g)/\ba w t u 1 (λg _=>A g):=by have c:=fJ underlying31 f;rw[show prog.cellsOf 31=2 from ay]at c;match b,c with|[B,C],_=>obtain⟨D,E,d⟩:=bP underlying31 f 0 rfl (o:=0) rfl rfl (k:=1) ay;obtain⟨F,J,e⟩:=bP underlying31 f 1 rfl (o:=1) rfl rfl (k:=1) ay;simp only[List.drop,List.take]at d e;obtain⟨h,i,j,k,rfl,l⟩:=rC underlying29 underlying3 ay d;obtain⟨m,n,o,p,rfl,q⟩:=rC underlying29 underlying3 ay e;exact⟨h,i,j,k,m,n,o,p,rfl,l,q⟩
def zv{a:Nat}{b:List ad}{W:DataW X×List MemPlace}(c:DataW.trod enc prog w 0 (λ_=>true) G a 33 b=some W):∃S:aN,b=S.kl/\S.h w:=by have d:=fJ underlying33 c;rw[show prog.cellsOf 33=13 from ay]at d;match b,d with|[Y,Z,ac,af,am,ap,az,aS,a0,a1,T,U,V],_=>obtain⟨a2,a3,e⟩:=bP underlying33 c 0 rfl (o:=0) rfl rfl (k:=1) ay;obtain⟨a4,a5,f⟩:=bP underlying33 c 1 rfl (o:=1) rfl rfl (k:=1) ay;obtain⟨a6,a7,g⟩:=bP underlying33 c 2 rfl (o:=2) rfl rfl (k:=1) ay;obtain⟨a9,bd,h⟩:=bP underlying33 c 3 rfl (o:=3) rfl rfl (k:=8) ay;obtain⟨be,bf,i⟩:=bP underlying33 c 4 rfl (o:=11) rfl rfl (k:=2) ay;simp only[List.drop,List.take]at e f g h i;obtain⟨k,l,m,bi,rfl,n,o⟩:=F1 e;obtain⟨p,q,r,s,rfl,t,u⟩:=F0 f;obtain⟨v,x,y,bp,rfl,z,A⟩:=F2 g;obtain⟨B,C,D⟩:=M3 h;obtain⟨E,F,J,K,L,M,N,P,j,Q,R⟩:=JL i;unfold bc.kl at C;simp only[List.cons.injEq,and_true]at C j;obtain⟨rfl,rfl,rfl,rfl,rfl,rfl,rfl,rfl⟩:=C;obtain⟨rfl,rfl⟩:=j;exact⟨⟨k,l,m,bi,p,q,r,s,v,x,y,bp,B,E,F,J,K,L,M,N,P⟩,rfl,⟨n,o,u,z,A,D,Q,R,t⟩⟩
end
end
def Df(a:a8):Prop:=a.rn<=100/\a.T<=100/\a.on<=100/\a.sn<=100/\a.qn<=100/\a.tn<=100/\a.t<=100
def xo(a:aN):Prop:=(a.T<=100/\a.t<=100/\a.mn<=100/\a.w.W<=100/\a.w.s<=100/\a.dn<=100/\a.un<=100)/\(∀i,i<a.T->Df (a.p i))/\∀i,i<a.mn->(a.m i).wn<=100
def Nw(d:aN)(b:ab)(e:aR)(a:ab):Prop:=∃c:Bool,(c=true↔xo d)/\e=aG (aD c)/\aa b b a
def i1{b:Prop}(c:¬b):(false=true↔b):=⟨(λa=>by cases a),λa=>absurd a c⟩
def tY{a:Prop}(b:a):(true=true↔a):=⟨λ_=>b,λ_=>rfl⟩
def kR{w:ab}{a:Option ao}{h:Nat}{p:Nat->a8}(j:I<|dH w a h 11 λi k=>(p i).kl.getD k undef)(b:Nat)(d:b<h):∃f c,a=some ⟨f,c,none⟩/\f<w.heap.size/\w.cell? (ak f<|c+b*11)=some (ai (p b).ra (p b).rn (p b).rc)/\w.cell? (ak f<|c+b*11+1)=some (ai (p b).pa (p b).T (p b).pc)/\w.cell? (ak f<|c+b*11+2)=some (ai (p b).oa (p b).on (p b).oc)/\w.cell? (ak f<|c+b*11+3)=some (ai (p b).sa (p b).sn (p b).sc)/\w.cell? (ak f<|c+b*11+4)=some (ae ah (p b).fl)/\w.cell? (ak f<|c+b*11+5)=some (ai (p b).qa (p b).qn (p b).qc)/\w.cell? (ak f<|c+b*11+6)=some (ai (p b).ta (p b).tn (p b).tc)/\w.cell? (ak f<|c+b*11+7)=some (ae ah (p b).cap)/\w.cell? (ak f<|c+b*11+8)=some (ae ah (p b).n7)/\w.cell? (ak f<|c+b*11+9)=some (ae ah (p b).k2)/\w.cell? (ak f<|c+b*11+10)=some (ai (p b).ca (p b).t (p b).cc):=by rcases j.2 with l|⟨f,c,m,g,e⟩;(.omega);.exact⟨f,c,m,g,e b d 0 O,e b d 1 O,e b d 2 O,e b d 3 O,e b d 4 O,e b d 5 O,e b d 6 O,e b d 7 O,e b d 8 O,e b d 9 O,e b d 10 O⟩
def zS{w:ab}{i:Option ao}{j:Nat}{d:Nat->fK}(k:I<|dH w i j 2 λl m=>(d l).kl.getD m undef)(b:Nat)(f:b<j):∃c a,i=some ⟨c,a,none⟩/\c<w.heap.size/\w.cell? (ak c<|a+b*2)=some (ae ah (d b).fr)/\w.cell? (ak c<|a+b*2+1)=some (ai (d b).wa (d b).wn (d b).wc):=by rcases k.2 with n|⟨c,a,e,g,h⟩;(.omega);.exact⟨c,a,e,g,h b f 0 O,h b f 1 O⟩
def Nv(a:aN):Array ad:=a
def De(a:aN)(w:ab)(q:a.h w):ag prog 21 #[.agg a] w<|Nw a w:=by have z:=H<|ar.M w (Nv a) 33;have h:I<|aa w w _:=H<|(al w w).Q au<|aj (Nv a) 33;have S:=H<|dS q.parts.o ((al w w).Q au<|aj (Nv a) 33) au;have A:=H<|dS q.c6.o ((al w w).Q au<|aj (Nv a) 33) au;have af:=q.parts.1;have am:=q.c6.1;unfold Nv at z h S A;go_in;by_cases r:a.T<=100/\a.t<=100/\a.mn<=100/\a.w.W<=100/\a.w.s<=100/\a.dn<=100/\a.un<=100;(.have T:=H r;obtain⟨ap,az,aS,a0,a1,a2,a3⟩:=r;go_wp21;generalize w.alloc (aj a 33)=B at z h S A⊢;go_loopw [3](λe wr=>∃b:Nat,b<=a.T/\e=ae ah b/\I (∀e,e<b->Df (a.p e))/\I (aa B B wr))(λe _=>a.T-(intOf e).toNat);exact⟨0,O,rfl,H λe u=>O,aC⟩;obtain⟨b,U,rfl,C,c⟩:=hrel;have s:=(z.D c.o).A;by_cases k:b<a.T;(.obtain⟨a4,D,l,d,v,x,E,F,G,J,K,L,M,N,t⟩:=kR S b k;have a5:=H l;rw[l]at s;have v:=aY c.o v d;have x:=aY c.o x d;have E:=aY c.o E d;have F:=aY c.o F d;have G:=aY c.o G d;have J:=aY c.o J d;have K:=aY c.o K d;have L:=aY c.o L d;have M:=aY c.o M d;have N:=aY c.o N d;have t:=aY c.o t d;clear l;by_cases i:Df<|a.p b;(.have V:=H i;obtain⟨a6,a7,a9,bd,be,bf,bi⟩:=i;go_wp21;have P:I<|∀e,e<b+1->Df (a.p e):=H (λe u=>by by_cases W:e=b;(.subst W;exact V.o);.exact C.o e O);go_roundw;exact⟨b+1,O,ee,P,c.alloc c.size _⟩;exact dw);.have o:I<|¬xo a:=H λq=>i<|q.2.1 b k;(have m:100<(a.p b).rn\/((a.p b).rn<=100/\100<(a.p b).T)\/((a.p b).rn<=100/\(a.p b).T<=100/\100<(a.p b).on)\/((a.p b).rn<=100/\(a.p b).T<=100/\(a.p b).on<=100/\100<(a.p b).sn)\/((a.p b).rn<=100/\(a.p b).T<=100/\(a.p b).on<=100/\(a.p b).sn<=100/\100<(a.p b).qn)\/((a.p b).rn<=100/\(a.p b).T<=100/\(a.p b).on<=100/\(a.p b).sn<=100/\(a.p b).qn<=100/\100<(a.p b).tn)\/((a.p b).rn<=100/\(a.p b).T<=100/\(a.p b).on<=100/\(a.p b).sn<=100/\(a.p b).qn<=100/\(a.p b).tn<=100/\100<(a.p b).t):=by unfold Df at i;omega);clear i;generalize a.p b=bp at*;rcases m with f|⟨f,g⟩|⟨f,g,j⟩|⟨f,g,j,n⟩|⟨f,g,j,n,p⟩|⟨f,g,j,n,p,y⟩|⟨f,g,j,n,p,y,X⟩;all_goals go_wp2;go_ret;exact⟨false,i1 o.o,rfl,(aT h.o c.o).Q (Nat.le_trans h.size c.size) _⟩);.obtain rfl:b=a.T:=O;have h:=cC h c.o;have z:=H<|z.D c.o;have A:=H<|dS A.o c.o au;clear s c S;rename_i Z;have s:=z.A;go_wp21;go_loop [5](λe=>∃b:Nat,b<=a.mn/\e=ae ah b/\I (∀e,e<b->(a.m e).wn<=100))(λe=>a.mn-(intOf e).toNat);exact⟨0,O,rfl,H λe u=>O⟩;obtain⟨b,U,rfl,Q⟩:=hrel;by_cases k:b<a.mn;(.obtain⟨a4,D,l,d,v,x⟩:=zS A b k;rw[l]at s;by_cases i:(a.m b).wn<=100;(.have R:I<|∀e,e<b+1->(a.m e).wn<=100:=H (λe u=>by by_cases W:e=b;(.subst W;exact i);.exact Q.o e O);clear l;go_wp21;go_round;(case rel=>exact⟨b+1,O,ee,R⟩);case measure=>simp[intOf];omega);.have o:I<|¬xo a:=H λq=>i<|q.2.2 b k;have ac:100<(a.m b).wn:=O;clear i l;go_wp2;go_ret;exact⟨false,i1 o.o,rfl,h.o⟩);.obtain rfl:b=a.mn:=O;have Y:I<|xo a:=H ⟨T.o,C.o,Q.o⟩;go_wp2;go_ret;exact⟨true,tY Y.o,rfl,h.o⟩);.have o:I<|¬xo a:=H λq=>r q.1;have m:100<a.T\/(a.T<=100/\100<a.t)\/(a.T<=100/\a.t<=100/\100<a.mn)\/(a.T<=100/\a.t<=100/\a.mn<=100/\100<a.w.W)\/(a.T<=100/\a.t<=100/\a.mn<=100/\a.w.W<=100/\100<a.w.s)\/(a.T<=100/\a.t<=100/\a.mn<=100/\a.w.W<=100/\a.w.s<=100/\100<a.dn)\/(a.T<=100/\a.t<=100/\a.mn<=100/\a.w.W<=100/\a.w.s<=100/\a.dn<=100/\100<a.un):=O;clear r;rcases m with f|⟨f,g⟩|⟨f,g,j⟩|⟨f,g,j,n⟩|⟨f,g,j,n,p⟩|⟨f,g,j,n,p,y⟩|⟨f,g,j,n,p,y,X⟩;all_goals go_wp2;go_ret;exact⟨false,i1 o.o,rfl,h.o⟩
def S4(b:Nat->Nat)(c d:Nat)(e:Nat):(cL (λa=>(b a:Int)) e).set c (ae ah d)=cL (λa=>((T9 b c d a:Nat):Int)) e:=by rw[Js];congr 1;funext a;unfold T9;split<;>rfl
def MR(a:ab):(Instr.makeSlice 29 (aA 9)<|aA 9).run prog a=.ok (ai (av a) 9 9) (a.alloc<|aj jK 3):=ay
structure tx(e f:Nat)(b:ab)(c d g:Nat)(o:Nat->Nat)(wr:ab):Prop where
 R:aa b b wr
 x:∀a,a<4->wr.cell? (ak c a)=some (ae ah<|o8 e a)
 y:∀a,a<4->wr.cell? (ak d a)=some (ae ah<|o8 f a)
 o:wr.ownsRow b.heap.size 3 1 (ai (av g) 9 9) 9<|cL (λa=>(o a:Int)) 9
def tx.drewN{a e:Nat}{w:ab}{b c f:Nat}{g:Nat->Nat}{wr:ab}(d:tx a e w b c f g wr)(n:Nat):tx a e w b c f g<|wr.drewN n:=⟨below_drewN d.R n,d.x,d.y,d.o⟩
def tx.at{g h:Nat}{i:ab}{b c e:Nat}{f:Nat->Nat}{wr:ab}(j:tx g h i b c e f wr)(a:Nat)(d:a<9):wr.cell? (ak e a)=some (ae ah<|f a):=by rw[j.o.cellAt a O,gX _ _ _ d]
def tx.fr{a f:Nat}{g:ab}{b c d:Nat}{h:Nat->Nat}{wr:ab}(i:tx a f g b c d h wr)(e:Nat):wr.frozen? ⟨d,e,none⟩=false:=i.o.frozenAt e
def tx.set{a b:Nat}{w:ab}{c d f:Nat}{n:Nat->Nat}{wr:ab}(g:tx a b w c d f n wr)(k:c≠f)(l:d≠f)(i v:Nat)(o:i<9)(u:Int)(m:u=(v:Int)):tx a b w c d f (T9 n i v)<|wr.setCell (ak f i)<|aA u:=by subst m;refine⟨g.R.setCell (g.o.N f rfl).1 _,λj e=>iO (g.x j e) k,λj e=>iO (g.y j e) l,?_⟩;have h:=(g.o.stored i<|aA v).1;rw[S4]at h;exact h
def Fw(k l:Nat)(z:ab)(aS:k<=9223372036854775807)(a0:l<=9223372036854775807):ag prog 271 (ij k l) z λe R=>∃a5,e=aG (ai (av a5) 9 9)/\R.ownsRow z.heap.size 3 1 (ai (av a5) 9 9) 9 (cL (λb=>(o8 (k*l) b:Int)) 9)/\aa z z R:=by go_in;go_wp21;refine(wH k _ aS).B ?_;rintro e bp⟨bs,rfl,p,m⟩;obtain⟨A,bv,rfl,S,T⟩:=j4 p O;go_wp21;refine(wH l _ a0).B ?_;rintro e d⟨bz,rfl,q,n⟩;obtain⟨B,b0,rfl,U,V⟩:=j4 q O;have r:=bg p n;have E:aa z z d:=m.C<|n.B m.size;have W:=m.size;have X:=n.size;clear m n;have Y:=MR;go_wp21;have J:tx k l z A B d.heap.size (λ_=>0)<|d.alloc<|aj jK 3:=⟨E.Q O _,λb s=>b9 (by rw[r.cellAt b O,gX _ _ _ s]),λb s=>b9 (by rw[q.cellAt b O,gX _ _ _ s]),by have a1:=World.ownsRow_lit (base:=z.heap.size) (e:=3) (size:=1) d jK 9 O (by unfold maxLen;omega) rfl;exact a1⟩;have Z:A≠d:=O;have ac:B≠d:=O;obtain⟨ca,t⟩:=aJ<|d.alloc<|aj jK 3;rw[t]at J;simp only[t];clear t p r q E Y;generalize d.heap.size=a6 at*;clear S T U V W X;go_loopw [8](λc wr=>∃(K:Nat)(h:Nat->Nat),K<=4/\c=ae ah K/\tx k l z A B a6 h wr/\I (∀b,b<9->h b<65536)/\I (Si 9 h=(k%65536^K)*l))(λc _=>4-(intOf c).toNat);exact⟨0,λ_=>0,O,rfl,J,(λb _=>show(0:Nat)<65536 by omega),by simp[I,B9,Nat.mod_one]⟩;obtain⟨c,h,cb,rfl,u,f,o⟩:=hrel;clear J;by_cases a7:c<4;(.obtain⟨af,rfl⟩:∃af:ab,af=wr:=⟨_,rfl⟩;have i:=H<|AR.start f.o o.o;clear f o;go_wp2;go_loopw [9,10](λQ a wr=>∃(L am:Nat)(h:Nat->Nat),L<=5/\a=ae ah L/\Q=ae ah am/\tx k l z A B a6 h wr/\I (AR k l c L h am))(λ_ a _=>5-(intOf a).toNat);exact⟨0,0,h,O,rfl,rfl,u,i⟩;clear u i;obtain⟨a,Q,h,cc,rfl,rfl,u,i⟩:=hrel;by_cases a9:a<5;(.have v:=i.o.le O;have w:=H<|i.o.D O;have bd:=u.x c O;have be:=u.at (c+a) O;have bf:=u.fr<|c+a;have g:=λce cf a2=>H<|(u.drewN ce).set Z ac (c+a) ((h (c+a)+o8 k c*o8 l a+Q)%65536) O cf a2;by_cases ap:a<4;(.have bi:=u.y a ap;generalize h (c+a)=C at*;generalize o8 k c=D at*;generalize o8 l a=M at*;obtain⟨N,P⟩:∃N:Nat,D*M=N:=⟨_,rfl⟩;rw[P]at g w v;(have F:(D:Int)*(M:Int)=(N:Int):=by rw[<-P];simp);(have a3:IntKind.i64.wrap ((D:Int)*M)=N:=by rw[F];exact IntWalk.i64_in _ O);clear P F;have ci:N<=4294967296:=O;have co:C+N+Q<4294967296:=O;go_wp2;go_quiet(fail);clear a3;go_wp2;go_roundw;exact⟨a+1,(C+N+Q)/65536,_,O,ee,ee,(g _ _ ee).o,w⟩;exact dw);.have x:a=4:=O;(have G:o8 l a=0:=by subst x;unfold o8;rw[Nat.div_eq_of_lt O]);rw[G]at g w v;simp only[Nat.mul_zero,Nat.add_zero]at g w v;clear x G;generalize h (c+a)=C at*;generalize o8 k c=D at*;go_wp2;go_quiet(fail);go_wp2;go_roundw;exact⟨a+1,(C+Q)/65536,_,O,ee,ee,(g _ _ ee).o,w⟩;exact dw);.obtain rfl:a=5:=O;have o:=H<|i.o.done O;have f:=i.o.c3;have f:=H f;go_wp2;go_roundw;exact⟨c+1,h,O,ee,u,f,o⟩;exact dw);.obtain rfl:c=4:=O;have az:∀b,b<9->h b=o8 (k*l) b:=Rk o.o O f.o;(have y:cL (λb=>(h b:Int)) 9=cL (λb=>(o8 (k*l) b:Int)) 9:=by unfold cL;refine List.map_congr_left λb s=>?_;have:=az b (by simpa using s);simp only[this]);have j:=u.o;rw[y]at j;have a4:=H j;clear j y az o f;go_wp2;go_ret;exact⟨_,rfl,a4,u.R⟩
