import Derived.Test.YtihckgobeanocaaGreatML
import Derived.Test.YtihckgobeanocaaGreatMJ
import Derived.Test.YtihckgobeanocaaGreatMK
import Derived.Test.YtihckgobeanocaaGreatMP
/- A part of the proof of the rows TopChoices and TopOthers: no conditions. -/
set_option linter.all false
set_option maxRecDepth 100000
set_option maxHeartbeats 0
namespace Go.Proofs.YtihckgobeanocaaGreat
open Go.RowKit Go.Proofs.Tryz
open eJ
open Obj renaming cells->aj
open Value renaming slice->ai,int->ae,pointer->aV,bool->aD
open IntKind renaming i64->ah
open Ending renaming returned->aG
open Go renaming Addr->ao,Calls->ag,Ending->aR,TypeId->aq,Value->ad,World->ab
open Go.RowKit renaming Below->aa
open Go.RowKit.Below renaming refl->al
open Go.World renaming size_alloc->aF
open Int renaming toNat_natCast->aB
open List renaming getElem?_eq_getElem->aO,replicate->aU
open Nat renaming lt_of_lt_of_le->aP,zero_le->aM
open Prod.mk renaming injEq->aw
structure b2 where(Qp call a b c d:Int)
instance:Coe b2 (Array ad):=⟨λa=>(ck a.Qp a.call a.a a.b a.c a.d)⟩
structure rE where(len:Nat)(prog:Nat->b2)(pos rest addr:Int)(data:List Int)(done:Bool)
structure pz where(part gf proc call code value:Int)
structure aX where(part mode gf:Int)(tk:Nat->rE)(a1:dq)(mem:iG)(hr:db)(obj:eB)(act:Nat->Int)(hf:Option gu)(ev:List pz)
def cS(x:aX):gu:=x.hf.getD ⟨0,λ_=>0,λ_=>false⟩
def iW(a:Int):Int:=if a<1 then 1 else if 1073741824<a then 1073741824 else a
def gT(a:rE)(b:Int):rE:={a with pos:=b%(a.len:Int),rest:=iW (a.prog (b%(a.len:Int)).toNat).Qp}
def cj(d:aX)(e b c a:Int):aX:={d with ev:=d.ev++[⟨d.part,d.gf,e,b,c,a⟩]}
def cA(x:aX)(a:Nat)(b:rE):aX:={x with tk:=bE x.tk a b}
def cO(x:aX)(b:Nat)(a:Int):aX:=let d:rE:={gT (x.tk b) 0 with data:=[]};let c:={cA x b d with a1:=(iP x.a1 b a).2};if d.done=true then{c with a1:=(h7 c.a1 b).2}else c
def c8(x:aX)(a:Nat):aX:={cA x a {x.tk a with data:=[]}with a1:=(eW x.a1 a 0).2}
def fg(a:aX)(b:Nat):aX:={cA a b {a.tk b with done:=true}with a1:=(h7 a.a1 b).2,hf:=some (gS a.a1.n (cS a) b)}
def de(f:aX->Nat->aX)(x:aX):Nat->aX|0=>x|k+1=>f (de f x k) k
def ki(x:aX):aX:=de c8 {x with mode:=0} x.a1.n
def eD(x:aX)(a:Bool):aX:=let b:aX:={x with mem:=if a=true then kd x.mem else x.mem,obj:=jA x.obj,hr:=mm x.hr};let c:=de c8 b x.a1.n;de (λd e=>cO d e d.gf) c x.a1.n
def ef(x:aX)(a:Nat)(d:Nat):aX:=let c:=x.act a;let b:=cj x d (-1-(a:Int)) c 0;if c=1 then c8 b d else if c=2 then cO (c8 b d) d b.gf else if c=3 then eD b true else if c=4 then ki b else b
def cI(x:aX)(d:Nat)(b c a:Int):aX:=let e:=cj x d b c a;{cA e d {e.tk d with data:=[]}with a1:=(eW e.a1 d 1).2}
def eM(x:aX)(b:Nat)(a:Int)(c:List Int):aX:=cI {x with mem:=(iQ x.mem (x.tk b).addr c).2} b a 0 (c.length:Int)
def dP(a:Int):Nat->aX->aX|0,x=>x|f+1,x=>let b:=cV x.a1 11 a;if b<0 then x else let c:=fe x.hr a true (x.tk b.toNat).data;let d:aX:={x with hr:=c.2};if c.1=0 then dP a f (cI d b.toNat 11 0 0)else d
def c9(b:Int):Nat->aX->aX|0,x=>x|f+1,x=>let c:=cV x.a1 12 b;if c<0 then x else match j8 x.hr b true with|(some e,d,a)=>if d=0 then c9 b f (eM {x with hr:=a} c.toNat 12 e)else{x with hr:=a}|(none,d,a)=>{x with hr:=a}
def cP(x:aX):aX:=let a:=dz x.a1 x.gf x.a1.n;let y:=a.2.1.foldl (λ(y:aX)(b:Nat)=>cj y b 1 0 0) {x with a1:=a.1};a.2.2.foldl (λ(y:aX)(b:Nat)=>if y.mode=3 then ef y 4 b else y) y
def iq(a:aX):aX:=(pG a.a1 a.gf).foldl (λ(y:aX)(b:Nat)=>cI y b (y.a1.r b).call (if(y.a1.r b).call=2 then 0 else 5) 0) a
def dV:Nat->aX->aX|0,a=>a|f+1,a=>if a.mode=3 then let b:=jf a.a1;if b<0 then a else if 0<mX a.a1.n (cS a).has b then a else dV f (ef (fg a b.toNat) 0 b.toNat)else a
def dE:Nat:=20
def eb:Nat->aX->aX|0,a=>a|p+1,a=>c9 p dE (dP p dE (eb p a))
def dg(q:a8)(x:aX):aX:=let y:aX:={x with gf:=wrap64 (x.gf+1),hf:=some (lP q.cap q.pf),a1:=wt x.a1,tk:=λk=>{x.tk k with done:=false}};if y.mode=3 then dV dE (iq (eb 8 (cP y)))else y
def eY(x:aX):Int:=if x.mode=3 then jf x.a1 else-1
def rD(a b c:Int):Int:=ik (ik a b) c
def fL(x:aX):Int:=if eY x<0 then 0 else rD (x.tk (eY x).toNat).rest (mX x.a1.n (cS x).has (eY x)) (cS x).room
def oE(x:aX):Int:=if eY x<0 then 0 else eQ x.a1.n (cS x)
/-! calls -/
def bB(b:aX)(c:Nat)(d:b2)(a:Int):aX:=cj b c d.call a 0
def jB(f:a8)(d:aX)(c:Nat)(b:b2):aX:=let a:=decide (0<f.pf c 1);if(b.call=1/\a=false)\/(b.call=3/\a=true)then bB d c b 4 else if b.call=1 then fg {d with a1:=(eW d.a1 c 4).2} c else if b.call=3 then let e:=bB d c b 0;{e with a1:=(eW e.a1 c 3).2}else if b.a<1\/1000<b.a then bB d c b 2 else fg {d with a1:=(j6 d.a1 c b.call 0 (wrap64 (d.gf+b.a))).2} c
def ct(e:a8)(b:aX)(c:Nat)(a:b2):aX:=if a.call=1\/a.call=2\/a.call=3 then jB e b c a else if b8 b.a1.n a.a=false\/(a.call=4/\a.a=(c:Int))\/(a.call=7/\(a.b<0\/63<a.b))then bB b c a 2 else let d:=(b.a1.r a.a.toNat).state;if a.call=7/\d=0 then bB b c a 4 else if a.call=7 then bB {b with a1:=(mZ b.a1 a.a a.b).2} c a 0 else if a.call=4/\d=3 then bB {b with a1:=(eW b.a1 a.a 1).2} c a 0 else if a.call=5/\d=0 then bB (cO b a.a.toNat b.gf) c a 0 else if a.call=6/\d≠0 then bB (c8 b a.a.toNat) c a 0 else bB b c a 6
def ht(d:aX)(e:Nat)(a:b2)(b:List Int):aX:=if a.d=0 then bB d e a 1 else let c:=if 0<a.d then wrap64 (d.gf+ik a.d 1000)else-1;{cA d e {d.tk e with addr:=a.b,data:=b}with a1:=(j6 d.a1 e a.call a.a c).2}
def nx(b:aX)(a:Nat)(c:b2):aX:=ef (bB b a c 8) 2 a
def eH(c:aX)(d:Nat)(b:b2)(a:Int):Option (List Int)×aX:=if b.c<1\/a<b.c then(none,bB c d b 2)else match lW c.mem b.b b.c with|some e=>(some e,c)|none=>(none,nx c d b)
def fT(b:aX)(d:Nat)(c:b2)(a:Int):Bool×aX:=if(nI b.mem c.b a true).isSome=true then(true,b)else(false,nx b d c)
def hT(c:aX)(d:Nat)(b:b2)(e:List Int)(a:Int):Bool×aX:=if a=0 then(true,cj {c with mem:=(iQ c.mem b.b e).2} d b.call 0 (e.length:Int))else if b.call=10 then(false,bB c d b a)else(false,ht c d b [])
def cu(i:aX)(f:Nat)(b:b2):aX:=let a:=decide (b.call=11)||decide (b.call=12);let d:=decide (b.call=10)||decide (b.call=12);let c:=j7 i.hr b.a;if ml i.hr b.a a d=false then bB i f b 3 else if d=true then let e:=fT i f b c;if e.1=false then e.2 else let j:=j8 e.2.hr b.a false;let g:aX:={e.2 with hr:=j.2.2};let h:=if a=true then j8 g.hr b.a true else j;(hT {g with hr:=h.2.2} f b (h.1.getD []) h.2.1).2 else match eH i f b c with|(none,g)=>g|(some l,g)=>let e:=fe g.hr b.a a l;let k:aX:={g with hr:=e.2};if a=false then bB k f b e.1 else if e.1=0 then bB k f b 0 else ht k f b l
def gJ(b:aX)(c:Nat)(d:b2)(a:Int):aX:=if a=1 then ht b c d []else bB b c d a
def ft(b:Int):Nat->aX->aX|0,a=>a|f+1,a=>if cV a.a1 17 b<0 then a else ft b f (cI a (cV a.a1 17 b).toNat 17 0 0)
def dA(b:aX)(c:Nat)(a:b2):aX:=let d:=zr b.obj a.a;if a.call=13 then gJ {b with obj:=(ka b.obj a.a).2} c a (ka b.obj a.a).1 else if a.call=14 then let e:=cV b.a1 13 a.a;if 0<=e then cI (bB b c a 0) e.toNat 13 0 0 else bB {b with obj:=(kc 6 b.obj a.a).2} c a (kc 6 b.obj a.a).1 else if a.call=15 then ft a.a dE (bB {b with obj:=(h8 b.obj a.a true).2} c a (h8 b.obj a.a true).1)else if a.call=16 then bB {b with obj:=(h8 b.obj a.a false).2} c a (h8 b.obj a.a false).1 else gJ b c a (if d.2=0/\d.1=false then 1 else d.2)
def nM(b c a:Int):Bool:=decide (0<=b)&&decide (b<ik c a)
def fC(a:aX)(c:Int):aX:=let b:=cV a.a1 18 c;if 0<=b then let d:=mq a.obj c (a.tk b.toNat).data;let e:aX:={a with obj:=d.2};if d.1=0 then cI e b.toNat 18 0 0 else e else a
def eX(a:eB)(c b:Int):Int:=if 0<=b then(if b8 a.nz b=true then(a.sl b.toNat).size else 0)else(if b8 a.np c=true then(a.pl c.toNat).size else 0)
def eu(l:a8)(f:aX)(c:Nat)(a:b2):aX:=let b:=eX f.obj a.a (-1);if nM a.a (l.qn:Int) 4=false then bB f c a 3 else if a.call=19 then let d:=fT f c a b;if d.1=false then d.2 else let g:=mo d.2.obj a.a;let h:=hT {d.2 with obj:=g.2.2} c a (g.1.getD []) g.2.1;if h.1=true then fC h.2 a.a else h.2 else match eH f c a b with|(none,e)=>e|(some i,e)=>let j:=cV e.a1 19 a.a;if 0<=j then eM (bB e c a 0) j.toNat 19 i else let d:=mq e.obj a.a i;let k:aX:={e with obj:=d.2};if d.1=0 then bB k c a 0 else ht k c a i
def fu(b:Int)(c:List Int):Nat->aX->aX|0,a=>a|f+1,a=>if cV a.a1 21 b<0 then a else fu b c f (eM a (cV a.a1 21 b).toNat 21 c)
def eN(i:a8)(c:aX)(d:Nat)(a:b2):aX:=if nM a.a (i.tn:Int) 4=false then bB c d a 3 else let b:=eX c.obj 0 a.a;if a.call=22 then bB {c with obj:=(kb c.obj a.a).2} d a (kb c.obj a.a).1 else if a.call=21 then let f:=fT c d a b;if f.1=false then f.2 else let h:=qo f.2.obj a.a;(hT f.2 d a (h.1.getD []) h.2).2 else match eH c d a b with|(none,e)=>e|(some g,e)=>fu a.a g dE (bB {e with obj:=(k8 e.obj a.a g).2} d a (k8 e.obj a.a g).1)
def eU(b:aX)(d:Nat)(a:b2):aX:=if a.call=25 then let c:=tH b.mem a.a a.b;if c.1=true then cj {b with mem:=c.2} d a.call 0 0 else nx {b with mem:=c.2} d a else let c:=sg b.mem a.a;if c.2=true then cj b d a.call 0 c.1 else nx b d a
def et(b:aX)(c:Nat)(a:b2):aX:=if a.a=0 then ki (bB b c a 0)else if a.a=1\/a.a=2 then eD (bB b c a 0) (decide (a.a=1))else if a.a=3 then bB b c a 6 else bB b c a 2
def dO(d:a8)(b:aX)(c:Nat)(a:b2):aX:=if 1<=a.call/\a.call<=7 then ct d b c a else if a.call=8 then cj b c a.call 0 b.gf else if 9<=a.call/\a.call<=12 then cu b c a else if 13<=a.call/\a.call<=17 then dA b c a else if 18<=a.call/\a.call<=19 then eu d b c a else if 20<=a.call/\a.call<=22 then eN d b c a else if a.call=23 then ef (cj b c a.call 0 a.a) 3 c else if 24<=a.call/\a.call<=25 then eU b c a else if a.call=26 then cj b c a.call 0 b.mode else if a.call=27 then et b c a else ef (cj b c a.call 7 0) 1 c
def eE(q:a8)(x:aX)(a:Int):Int×aX:=let d:=ik a (fL x);if d<1 then(0,x)else let k:=(eY x).toNat;let b:aX:={x with hf:=some (eA x.a1.n (cS x) k d).2};let c:rE:={b.tk k with rest:=(b.tk k).rest-d};let e:=cA b k c;if c.rest=0 then let f:=c.prog c.pos.toNat;(d,dV dE (dO q (cA e k (gT c (c.pos+1))) k f))else(d,dV dE e)
structure iN where(chan gf:Int)(data:List Int)
structure tZ where(due at_ part:Int)
structure ju where(k3 mode hq choice:Int)
instance:Coe ju (Array ad):=⟨λa=>(bO a.k3 a.mode a.hq a.choice)⟩
structure fS where(at_ en mode level:Int)
instance:Coe fS (Array ad):=⟨λa=>(bO a.at_ a.en a.mode a.level)⟩
/-! channels -/
def u7(a:aN):Nat:=if a.cn<=16 then a.cn else 16
def Bk(c:aN)(a:Int):List Nat:=(List.range (u7 c)).filter λb=>decide (c.cf b 0=a)
def iw(c:aN)(a:Int)(b:(Int->Option (List (List Int)))×db×List iN)(d:Nat):(Int->Option (List (List Int)))×db×List iN:=match b.1 (c.cf d 1)with|some h=>(b.1,b.2.1,b.2.2++h.map λe=>⟨(d:Int),a,e⟩)|none=>let f:=jz b.2.1 (c.cf d 1);(λg=>if g=c.cf d 1 then some f.1 else b.1 g,f.2,b.2.2++f.1.map λe=>⟨(d:Int),a,e⟩)
def jE(c:aN)(a b:Int)(d:db):(Int->Option (List (List Int)))×db×List iN:=(Bk c a).foldl (iw c b) (λ_=>none,d,[])
def gd(c:aN)(d:Nat)(a:Nat->db)(b:iN):Nat->db:=if b8 (u7 c) b.chan=true/\b8 d (c.cf b.chan.toNat 2)=true then bE a (c.cf b.chan.toNat 2).toNat (kK (a (c.cf b.chan.toNat 2).toNat) (c.cf b.chan.toNat 3) b.data).2 else a
def i2(c:aN)(g:Nat)(a:Nat)(b:Int)(d:Nat->db):(Nat->db)×List iN:=let f:=jE c a b (d a);let e:=f.2.2.take 4096;(e.foldl (gd c g) (bE d a f.2.1),e)
/-! frames -/
def Bj(c:aN)(a b:Int):Int:=if 0<=a/\a<(c.dn:Int)/\b<c.df a.toNat then wrap64 (a+1)else if 1<=a/\a<=(c.un:Int)/\c.uf (a.toNat-1)<=b then wrap64 (a-1)else a
def sK(a b:Int):Bool:=decide (0<a/\a<=b)
def qy(c:aN)(b a:Int):Int:=if 0<=a/\a<(c.mn:Int)then a else b
def jI(c:aN)(b:fS)(e:ju):Option fS:=let d:=qy c b.mode e.mode;if b8 c.mn d=true then let a:=(c.m d.toNat).fr;if a<1\/1152921504606846976-b.en<a then none else some ⟨b.en,b.en+a,d,Bj c b.level e.k3⟩else none
def eh(c:aN):fS->List ju->List fS|_,[]=>[]|p,f::b=>match jI c p f with|none=>[]|some a=>a::eh c a b
/-! the governor -/
structure hI where(ps:eK)(base done first n hq:Int)
def ep(a:ju):Int:=if a.hq<=-1000000\/1000000<=a.hq then 0 else a.hq
def cg(a:hI):Int×hI:=if a.first<1 then(0,a)else(wrap64 (wrap64 ((if a.first<1000000 then a.first else 1000000)+wrap64 (a.n+1))-1),{a with n:=wrap64 (a.n+1)})
def dT(c:aN)(b:hI)(d:Int):hI:=if d<=b.ps.now then b else let e:=cg b;let f:=sH c.w b.ps.now d e.1;let a:hI:=if 0<=f then{e.2 with ps:=(lL c.pn c.w b.ps f (hV c.w f b.ps.now d) b.hq).2}else e.2;if a.ps.now<d then{a with ps:=(lg c.pn c.w a.ps d).2}else a
def fU(a:hI):hI:={a with ps:=lZ a.ps,base:=a.ps.now,done:=0}
def jL(c:aN)(b:hI)(part:Nat)(a left en:Int):hI:=let e:=cg b;let k:=jH c.w ⟨b.ps.now,b.base,b.done,b.ps.level,left⟩ en e.1;let k:=if k<0 then(c.w.ln:Int)-1 else k;let d:hI:=if k=b.ps.level then e.2 else let f:=(ji c.pn c.w b.ps k).2;{e.2 with ps:=f,base:=f.now,done:=0};{d with ps:=(kp c.pn c.w d.ps part a).2,done:=wrap64 (d.done+a)}
/-! the system -/
structure cN where(cell:Nat->aX)(cy:Nat->Int)(gv:hI)(seen:Nat->Nat)(ev:List pz)(ms:List iN)(bd:List tZ)(c7 c6:List Int)(fi:List (List Int))(late:Int)
def fv(b:cN)(a part:Int):cN:={b with bd:=b.bd++[⟨a,b.gv.ps.now,part⟩],late:=if a<b.gv.ps.now then wrap64 (b.late+1)else b.late}
def Dg(a:aN):Int:=Gy a
def xp(a:aN)(b:Nat):Int:=(a.p b).n7
def dB(c:aN)(x:cN)(part:Nat):Int:=pU c.w (Dg c) (xp c) c.pn x.cy part (fL (x.cell part))
def ds(c:aN)(part:Nat)(en:Int):Nat->cN->cN|0,x=>x|f+1,x=>let a:=dB c x part;if a<1 then x else let b:=eE (c.p part) (x.cell part) a;ds c part en f {x with gv:=jL c x.gv part a (oE (x.cell part)) en,cell:=bE x.cell part b.2,cy:=(gL c.w c.pn x.cy part b.1).2}
def fp(c:aN)(part:Nat)(en:Int)(x:cN):cN:=let a:=ds c part en 400 {x with cell:=bE x.cell part (dg (c.p part) (x.cell part)),gv:=fU x.gv};{a with ev:=a.ev++(a.cell part).ev.drop (a.seen part),seen:=bE a.seen part (a.cell part).ev.length}
def fx(c:aN)(a:Nat)(x:cN):cN:=let d:=i2 c c.pn a (x.cell a).gf λb=>(x.cell b).hr;{x with ms:=x.ms++d.2,cell:=λb=>{x.cell b with hr:=d.1 b}}
def ib(c:aN)(part:Nat)(b en:Int)(a:Bool)(g:cN):cN:=let d:=fv {g with gv:=dT c g.gv b} b part;let e:=if a=true then d else fp c part en d;let f:=fv {e with gv:=dT c e.gv en} en (-1);if a=true then f else fx c part f
def fw(c:aN)(p:fS)(x:cN):Nat->cN|0=>x|j+1=>let b:=(c.m p.mode.toNat).wf;let a:=wrap64 (p.at_+b j 1);ib c (b j 0).toNat a (wrap64 (a+b j 2)) (sK (c.p (b j 0).toNat).k2 p.level) (fw c p x j)
def eC(c:aN)(p:fS)(d:ju)(x:cN):cN:=let b:cN:={x with gv:={x.gv with first:=d.choice,n:=0,hq:=ep d},cy:=λ_=>0};let a:=fw c p b (c.m p.mode.toNat).wn;{a with gv:=dT c a.gv p.en,c7:=a.c7++[p.level],c6:=a.c6++[p.mode],fi:=a.fi++[(List.range c.pn).map λi=>(i0 c.w (a.cy i)).1]}
def dy(c:aN):List (fS×ju)->cN->cN|[],x=>x|a::b,x=>dy c b (eC c a.1 a.2 x)
theorem mC(a:dD->Bool)(d:Nat->dD):∀b,dG a d b=-1\/∃c,c<b/\dG a d b=(c:Int)/\a (d c)=true|0=>.inl rfl|b+1=>by unfold dG;split;(·rename_i e;exact .inr ⟨b,O,rfl,e.1⟩);·rcases mC a d b with e|⟨c,h,f,g⟩;(·exact .inl e);·exact .inr ⟨c,O,f,g⟩
def hJ(a:dD->Bool)(b:Nat->dD):Nat->Nat|0=>0|k+1=>hJ a b k+if a (b k)=true then 1 else 0
theorem nX(a:dD->Bool)(c:Nat->dD):∀b,hJ a c b<=b|0=>au|b+1=>by have:=nX a c b;unfold hJ;split<;>omega
theorem rM{a:dD->Bool}{f c:Nat->dD}:∀{k:Nat},(∀b,b<k->a (c b)=true->a (f b)=true)->hJ a c k<=hJ a f k|0,_=>au|k+1,g=>by have h:=rM (k:=k) λb i=>g b O;have d:=g k O;unfold hJ;by_cases e:a (c k)=true;(·rw[aH e,aH (d e)];omega);·rw[aE e];split<;>omega
theorem xK{a:dD->Bool}{g f:Nat->dD}{c:Nat}(d:a (g c)=true)(e:a (f c)=false):∀{k:Nat},c<k->(∀b,b<k->a (f b)=true->a (g b)=true)->hJ a f k+1<=hJ a g k|0,h,_=>O|k+1,h,i=>by unfold hJ;by_cases n:c=k;(·subst n;rw[aH d,aE (by rw[e];decide)];have:=rM (k:=c) λb j=>i b O;omega);·have:=xK d e (k:=k) O λb j=>i b O;have l:=i k O;by_cases m:a (f k)=true;(·rw[aH m,aH (l m)];omega);·rw[aE m];split<;>omega
def fz(a b:dq):Prop:=b.n=a.n/\∀c,(a.r c).parked=true->(b.r c).parked=true
theorem fz.refl(a:dq):fz a a:=⟨rfl,λ_ b=>b⟩
theorem fz.trans{a b c:dq}(d:fz a b)(k:fz b c):fz a c:=⟨k.1.trans d.1,λi e=>k.2 i (d.2 i e)⟩
theorem DG{a:dq}{b:Nat}{c:dD}{z:Int}(g:(a.r b).parked=true->c.parked=true):fz a {a with r:=bE a.r b c,turns:=z}:=by refine⟨rfl,λd e=>?_⟩;show(bE a.r b c d).parked=true;by_cases f:d=b;(·subst f;rw[bL];exact g e);·rw[bK _ _ _ _ f];exact e
theorem uu(a:dq)(b:Nat)(c:dD)(d:Int)(e:(a.r b).parked=true->c.parked=true):fz a (kI a b c d):=DG e
theorem Ab(a:dq)(b:Nat)(c:dD)(d:(a.r b).parked=true->c.parked=true):fz a (nv a b c):=DG (z:=a.turns) d
theorem lx(a:dq)(c b:Int):fz a (iP a c b).2:=by unfold iP;split;(·exact uu _ _ _ _ λd=>d);·exact fz.refl _
theorem ly(a:dq)(b c:Int):fz a (eW a b c).2:=by unfold eW;split;(·exact uu _ _ _ _ λd=>d);·exact fz.refl _
theorem oT(a:dq)(b c d e:Int):fz a (j6 a b c d e).2:=by unfold j6;split;(·exact uu _ _ _ _ λf=>f);·exact fz.refl _
theorem xJ(a:dq)(b c:Int):fz a (mZ a b c).2:=by unfold mZ;split;(·exact Ab _ _ _ λd=>d);·exact fz.refl _
theorem mE(a:dq)(b:Int):fz a (h7 a b).2:=by unfold h7;split;(·exact Ab _ _ _ λc=>rfl);·exact fz.refl _
theorem DF(a:Int)(b:dq×List Nat×List Nat)(c:Nat):(jy a b c).1.n=b.1.n:=by unfold jy;dsimp only;split;(·rfl);·split<;>rfl
theorem wC(b:dq)(a:Int):∀c,(dz b a c).1.n=b.n|0=>rfl|c+1=>by unfold dz;rw[DF,wC b a c]
theorem ur(c:dq)(a:Int):∀b,(dz c a b).2.1.length+(dz c a b).2.2.length<=b|0=>by simp[dz]|b+1=>by have:=ur c a b;unfold dz jy;dsimp only;split;(·omega);·split<;>simp<;>omega
theorem z8(g:dq)(c:Int):∀f,(∀b,b∈(dz g c f).2.1->b<f)/\∀b,b∈(dz g c f).2.2->b<f|0=>by simp[dz]|f+1=>by obtain⟨d,e⟩:=z8 g c f;unfold dz jy;dsimp only;split;(·exact⟨λb a=>by have:=d b a;omega,λb a=>by have:=e b a;omega⟩);·split;(·refine⟨λb a=>by have:=d b a;omega,λb a=>?_⟩;simp at a;rcases a with a|a;(·have:=e b a;omega);·omega);·refine⟨λb a=>?_,λb a=>by have:=e b a;omega⟩;simp at a;rcases a with a|a;(·have:=d b a;omega);·omega
theorem Aa(b:dq)(a:Int):(pG b a).length<=b.n:=by unfold pG;have:=List.length_filter_le (λc=>qm a (b.r c)) (List.range b.n);simpa using this
theorem K7(c:dq)(a:Int)(d:Nat)(b:d∈pG c a):d<c.n:=by unfold pG at b;simp at b;exact b.1
/-! how many tasks, how many events -/
structure gE(a b:aX)(c:Nat):Prop where
 pk:fz a.a1 b.a1
 ev:b.ev.length<=a.ev.length+c
theorem gE.refl(a:aX):gE a a 0:=⟨fz.refl _,O⟩
theorem gE.trans{x y c:aX}{a b:Nat}(d:gE x y a)(k:gE y c b):gE x c (a+b):=⟨d.pk.trans k.pk,by have:=d.ev;have:=k.ev;omega⟩
theorem gE.le{x a:aX}{b c:Nat}(d:gE x a b)(e:b<=c):gE x a c:=⟨d.pk,by have:=d.ev;omega⟩
theorem qB(a:aX)(b c d e:Int):gE a (cj a b c d e) 1:=⟨fz.refl _,by simp[cj]⟩
theorem jM(b:aX)(c:Nat)(a:Int):gE b (cO b c a) 0:=by unfold cO;dsimp only;split;(·exact⟨(lx _ _ _).trans (mE _ _),by simp[cA]⟩);·exact⟨lx _ _ _,by simp[cA]⟩
theorem hc(x:aX)(a:Nat):gE x (c8 x a) 0:=⟨ly _ _ _,by simp[c8,cA]⟩
theorem kV(a:aX)(b:Nat):gE a (fg a b) 0:=⟨mE _ _,by simp[fg,cA]⟩
theorem pX{f:aX->Nat->aX}(c:∀a b,gE a (f a b) 0)(a:aX):∀b,gE a (de f a b) 0|0=>gE.refl a|b+1=>(pX c a b).trans (c _ _)
theorem uq(a:aX):gE a (ki a) 0:=by have b:=pX hc {a with mode:=0} a.a1.n;exact⟨b.pk,b.ev⟩
theorem oS(a:aX)(b:Bool):gE a (eD a b) 0:=by unfold eD;have e:=pX hc {a with mem:=if b=true then kd a.mem else a.mem,obj:=jA a.obj,hr:=mm a.hr} a.a1.n;have f:=pX (f:=λc g=>cO c g c.gf) (λc g=>jM c g c.gf) (de c8 {a with mem:=if b=true then kd a.mem else a.mem,obj:=jA a.obj,hr:=mm a.hr} a.a1.n) a.a1.n;have d:=e.trans f;exact⟨d.pk,d.ev⟩
theorem i4(c:aX)(a d:Nat):gE c (ef c a d) 1:=by unfold ef;dsimp only;have b:=qB c d (-1-(a:Int)) (c.act a) 0;split;(·exact(b.trans (hc _ _)).le O);·split;(·exact((b.trans (hc _ _)).trans (jM _ _ _)).le O);·split;(·exact(b.trans (oS _ _)).le O);·split;(·exact(b.trans (uq _)).le O);·exact b
theorem gD(x:aX)(a:Nat)(b c d:Int):gE x (cI x a b c d) 1:=⟨ly _ _ _,by simp[cI,cj,cA]⟩
theorem lu(x:aX)(a:Nat)(c:Int)(b:List Int):gE x (eM x a c b) 1:=by have d:=gD {x with mem:=(iQ x.mem (x.tk a).addr b).2} a c 0 (b.length:Int);exact⟨d.pk,d.ev⟩
theorem oU(b:Int):∀c a,gE a (dP b c a) c|0,a=>gE.refl a|c+1,a=>by unfold dP;dsimp only;split;(·exact(gE.refl a).le O);·split;(·have e:=gD {a with hr:=(fe a.hr b true (a.tk (cV a.a1 11 b).toNat).data).2} (cV a.a1 11 b).toNat 11 0 0;have d:gE a (cI {a with hr:=(fe a.hr b true (a.tk (cV a.a1 11 b).toNat).data).2} (cV a.a1 11 b).toNat 11 0 0) 1:=⟨e.pk,e.ev⟩;exact(d.trans (oU b c _)).le O);·exact⟨fz.refl _,aI⟩
theorem pY(b:Int):∀c a,gE a (c9 b c a) c|0,a=>gE.refl a|c+1,a=>by unfold c9;dsimp only;split;(·exact(gE.refl a).le O);·split;(·rename_i f h g d;split;(·have d:=lu {a with hr:=g} (cV a.a1 12 b).toNat 12 f;have e:gE a (eM {a with hr:=g} (cV a.a1 12 b).toNat 12 f) 1:=⟨d.pk,d.ev⟩;exact(e.trans (pY b c _)).le O);·exact⟨fz.refl _,aI⟩);·exact⟨fz.refl _,aI⟩
theorem mD{f:aX->Nat->aX}(d:∀a b,gE a (f a b) 1):∀(c:List Nat)(a:aX),gE a (c.foldl f a) c.length|[],a=>gE.refl a|b::c,a=>by have:=(d a b).trans (mD d c (f a b));exact this.le bh
theorem oR(a:aX):gE a (iq a) a.a1.n:=(mD (λy b=>gD y b _ _ _) _ a).le (Aa _ _)
theorem jU:∀b a,gE a (dV b a) b|0,a=>gE.refl a|b+1,a=>by unfold dV;dsimp only;split;(·split;(·exact(gE.refl a).le O);·split;(·exact(gE.refl a).le O);·exact(((kV a _).trans (i4 _ _ _)).trans (jU b _)).le O);·exact(gE.refl a).le O
theorem lh(a:aX):(cP a).a1.n=a.a1.n/\(cP a).ev.length<=a.ev.length+a.a1.n:=by have c:=mD (f:=λ(y:aX)(b:Nat)=>cj y b 1 0 0) (λy b=>qB y _ _ _ _) (dz a.a1 a.gf a.a1.n).2.1 {a with a1:=(dz a.a1 a.gf a.a1.n).1};have d:=mD (f:=λ(y:aX)(b:Nat)=>if y.mode=3 then ef y 4 b else y) (λy b=>by split;exact i4 _ _ _;exact(gE.refl y).le O) (dz a.a1 a.gf a.a1.n).2.2 ((dz a.a1 a.gf a.a1.n).2.1.foldl (λ(y:aX)(b:Nat)=>cj y b 1 0 0) {a with a1:=(dz a.a1 a.gf a.a1.n).1});have h:=ur a.a1 a.gf a.a1.n;have f:=wC a.a1 a.gf a.a1.n;refine⟨?_,?_⟩;(·unfold cP;have e:=c.pk.1;have g:=d.pk.1;dsimp only at e;rw[g,e,f]);·unfold cP;have e:=c.ev;have g:=d.ev;dsimp only at e⊢;omega
theorem kW:∀b a,gE a (eb b a) (b*40)|0,a=>gE.refl a|b+1,a=>by unfold eb;exact(((kW b a).trans (oU _ _ _)).trans (pY _ _ _)).le (by unfold dE;omega)
theorem Br{a:dq}{b:Nat}{c d:Int}(e:b<a.n)(g:dF c d (a.r b)=true):hJ (dF c d) (eW a b 1).2.r (eW a b 1).2.n+1<=hJ (dF c d) a.r a.n:=by(have j:(eW a b 1).2=kI a b (a.r b) 1:=by unfold eW;rw[aH ⟨by unfold b8;simp;omega,O,O,O⟩,aB]);rw[j];(have f:(kI a b (a.r b) 1).r b=tF a (a.r b) 1:=by show bE a.r b _ b=_;rw[bL]);refine xK g (by rw[f];simp[dF,tF]) e λh k=>?_;by_cases i:h=b;(·subst i;intro _;exact g);·show dF c d (bE a.r b (tF a (a.r b) 1) h)=true->_;rw[bK _ _ _ _ i];exact id
def sR(a:dD):Bool:=!a.parked
theorem NT{a b:dq}(c:fz a b):hJ sR b.r b.n<=hJ sR a.r a.n:=by rw[c.1];refine rM λd f=>?_;unfold sR;intro e;cases g:(a.r d).parked;(·rfl);·rw[c.2 d g]at e;cases e
theorem G8{b:aX}{a:Nat}(d:a<b.a1.n)(e:eP (b.a1.r a)=true):hJ sR (fg b a).a1.r (fg b a).a1.n+1<=hJ sR b.a1.r b.a1.n:=by(have h:(fg b a).a1=nv b.a1 a {b.a1.r a with parked:=true}:=by show(h7 b.a1 a).2=_;unfold h7;rw[aH (by unfold b8;simp;omega),aB]);rw[h];(have c:(nv b.a1 a {b.a1.r a with parked:=true}).r a={b.a1.r a with parked:=true}:=by show bE _ a _ a=_;rw[bL]);refine xK (by unfold eP at e;unfold sR;simp at e;simp[e.2]) (by rw[c];rfl) d λf i=>?_;by_cases g:f=a;(·subst g;rw[c];intro j;cases j);·show sR (bE b.a1.r a _ f)=true->_;rw[bK _ _ _ _ g];exact id
def bN(s:cY)(a:Nat):dp:=if a<s.gn then s.g a else⟨none,0,0,λ_=>⟨none,0,0,λ_ _=>0⟩⟩
def EV(a:dp)(b:Nat):Bool:=decide ((a.p b).n<=64)
def EW(a:dp):Bool:=decide (gl (EV a) a.n=a.n)
def gO(c:aN)(s:cY):Int:=if(hZ c).1≠0 then(hZ c).1 else if 64<s.fn then 3 else if gl (λa=>EW (s.g a)) s.gn=s.gn then 0 else 3
section
variable{w:ab}
theorem EU(s:cY)(b:I (s.Ok w))(c:Nat):ag prog 57 #[.agg s,ae ah c] w λm w'=>m=aG (bN s c).val/\aa w w w':=by obtain⟨h,a,i,t,j,k,l,n⟩:=s;dsimp only;have v:¬((c:Int)<0):=O;by_cases d:c<a;(·have o:I (bN ⟨h,a,i,t,j,k,l,n⟩ c=t c):=H (aH d);have p:(c:Int)<(a:Int):=O;rcases b.row.2 with u|⟨x,f,m,q,r⟩;(·exact absurd d (by have:a=0:=u;omega));have e:=r c d 0 O;rw[Nat.mul_one,Nat.add_zero]at e;have m:h=some ⟨x,f,none⟩:=m;subst m;rw[o.o];have g:=aY ((al w w).alloc au (aj #[ai (some ⟨x,f,none⟩) a i,ai j k l] 37)) e q;unfold dp.val at g⊢;dsimp only at g;clear r e b o q;generalize t c=y at*;go_in;go_wp2;go_ret;exact⟨rfl,aC.alloc au _⟩);·have o:I (bN ⟨h,a,i,t,j,k,l,n⟩ c=⟨none,0,0,λ_=>⟨none,0,0,λ_ _=>0⟩⟩):=H (aE d);have p:(a:Int)<=(c:Int):=O;rw[o.o];unfold dp.val;clear b o d;go_in;go_wp2;go_ret;exact⟨rfl,aC.alloc au _⟩
theorem Ie(f:Option ao)(a g:Nat)(d:Bool)(b:I (decide (a<=64)=d))(w:ab):ag prog 53 #[ai f a g] w λh c=>h=aG (aD (!d))/\w=c:=by go_in;go_wp2;go_ret;refine⟨bw ?_,rfl⟩;rw[<-b.o];by_cases e:a<=64;(·have:¬((64:Int)<(a:Int)):=O;simp[e];omega);·have:((64:Int)<(a:Int)):=O;simp[e];omega
theorem EX(i:dp)(w:ab)(j:I (i.Ok w))(B:Int)(k:I (dK (EV i) i.n=B)):ag prog 125 #[ai i.a i.n i.c,.func (.func 53) #[] #[]] w λc l=>c=aG (aA B)/\aa w w l:=by have t:=j.row.1;obtain⟨C,f,D,g⟩:=i;dsimp only at k t⊢;have u:=H j.row.o;clear j;go_in;go_wp2;go_loopw [8](λv wr=>∃a:Nat,a<=f/\v=ae ah a/\I (∀p,p<a->EV ⟨C,f,D,g⟩ p=true)/\I (aa w w wr))(λv _=>f-(intOf v).toNat);(case atStart=>exact⟨0,O,rfl,H λp x=>O,aC⟩);case round=>obtain⟨a,J,rfl,m,e⟩:=hrel;by_cases d:a<f;(·rcases u.2 with y|⟨E,h,c,q,r⟩;(·exact absurd d (by have:f=0:=y;omega));have b:=r a d 0 O;rw[Nat.mul_one,Nat.add_zero]at b;have c:C=some ⟨E,h,none⟩:=c;subst c;replace b:=aY e.o b q;unfold mN.val at b;dsimp only at b;obtain⟨F,n⟩:=aJ (EV ⟨some ⟨E,h,none⟩,f,D,g⟩ a);have s:=H n;have G:=H λl=>Ie (g a).a (g a).n (g a).c F n l;clear n r q;generalize(g a).a=K at*;generalize(g a).n=L at*;generalize(g a).c=M at*;cases F;(·go_wp2_with fail;refine(G.o _).mono ?_;rintro z A⟨rfl,o⟩;cases o;go_wp2;go_ret;refine⟨cB ?_,e.o⟩;have c:=k.o;unfold dK at c;rw[fO m.o s.o f d,aH d]at c;exact c);·go_wp2_with fail;refine(G.o _).mono ?_;rintro z A⟨rfl,o⟩;cases o;go_wp2;go_roundw;(case rel=>exact⟨a+1,O,ee,H (λp x=>by by_cases c:p=a;(·subst c;exact s.o);·exact m.o p O),e⟩);case measure=>simp[intOf];omega);·obtain rfl:a=f:=O;go_wp2;go_ret;refine⟨cB ?_,e.o⟩;have c:=k.o;unfold dK at c;rw[gm a m.o,aE O]at c;exact c
theorem yv(c:dp)(w:ab)(d:I (c.Ok w))(i:Bool)(a:I (EW c=i)):ag prog 52 #[ai c.a c.n c.c,.func (.func 53) #[] #[]] w λj f=>j=aG (aD (!i))/\aa w w f:=by have a:=a.o;unfold EW at a;obtain⟨k,b⟩:=aJ (dK (EV c) c.n);have l:=H (EX c w d k b);have g:=p6 b a;clear b a d;rcases g with⟨b,rfl⟩|⟨b,rfl⟩;all_goals go_in;go_wp2_with fail;refine l.mono ?_;rintro m n⟨rfl,e⟩;have h:=H e;clear e;go_wp2;go_ret;refine⟨bw ?_,h.o⟩;first|rfl|(simp;done)|(simp;omega)
theorem vJ(s:aN)(V:cY)(D:Int)(w:ab)(E:s.Ok w)(d:I (V.Ok w))(a:I (gO s V=D)):ag prog 25 #[.agg s,.agg V] w λl k=>∃c:Int,l=aG (.tuple (bt D c))/\aa w w k:=by have F:=H λk(X:aa w w k)=>E.below X au;obtain⟨t,h,G,B,J,m,K,aS⟩:=V;have a:=a.o;unfold gO at a;dsimp only at a⊢;obtain⟨i,u,x⟩:∃i u,hZ s=(i,u):=⟨_,_,rfl⟩;rw[x]at a;dsimp only at a;have W:=H λk(X:s.Ok k)=>ES s i u k X x;have e:=H (((al w w).alloc au (aj s 33)).alloc aI (aj #[ai t h G,ai J m K] 37));have y:=H (ar.new (w.alloc (aj s 33)) #[ai t h G,ai J m K] 37);have L:=d.row.1;have f:=d.k4.1;dsimp only at L f;have Y:=H d.row.o;have Z:=H d.QJ;have M:=H f;clear x E d f;by_cases q:i=0;(·subst q;rw[aE an]at a;go_in;go_wp2_with fail;refine(W.o _ (F.o _ e.o)).mono ?_;rintro l z⟨rfl,b⟩;have N:=(y.next b).cell;rw[aF]at N;have n:=H (e.trans (b.mono e.size));clear b y e W;have f:=M.o;by_cases r:64<m;(·rw[aH r]at a;subst a;have r:(64:Int)<(m:Int):=O;go_wp2;go_ret2;exact⟨_,rfl,n.o⟩);·rw[aE r]at a;have r:¬(64:Int)<(m:Int):=O;clear f M;go_wp2_with fail;clear N;go_loopw [26](λac wr=>∃c:Nat,c<=h/\ac=ae ah c/\I (∀C,C<c->EW (B C)=true)/\I (aa w w wr))(λac _=>h-(intOf ac).toNat);(case atStart=>exact⟨0,O,rfl,H λC af=>O,n⟩);case round=>clear n;obtain⟨c,a0,rfl,P,o⟩:=hrel;by_cases j:c<h;(·rcases Y.2 with am|⟨a1,Q,l,R,S⟩;(·exact absurd j (by have:h=0:=am;omega));have g:=S c j 0 O;rw[Nat.mul_one,Nat.add_zero]at g;have l:t=some ⟨a1,Q,none⟩:=l;subst l;replace g:=aY o.o g R;unfold dp.val at g;dsimp only at g;obtain⟨v,A⟩:=aJ (EW (B c));have T:=H A;have U:=H (yv (B c) wr ((Z.o c j).below o.o au) v A);have ap:=H a;clear A S R a;generalize(B c).a=a2 at*;generalize(B c).n=a3 at*;generalize(B c).c=a4 at*;cases v;(·go_wp2_with fail;refine U.mono ?_;rintro i z⟨rfl,b⟩;have p:=H (aT o.o b);clear b;go_wp2;go_ret2;have l:=ap.o;rw[aE (λaz=>by have:=jC.1 az c j;rw[T.o]at this;cases this)]at l;subst l;exact⟨_,rfl,p.o⟩);·go_wp2_with fail;refine U.mono ?_;rintro i z⟨rfl,b⟩;have p:=H (aT o.o b);clear b;go_wp2;go_roundw;(case rel=>exact⟨c+1,O,ee,H (λC af=>by by_cases l:C=c;(·subst l;exact T.o);·exact P.o C O),p⟩);case measure=>simp[intOf];omega);·obtain rfl:c=h:=O;go_wp2;go_ret2;rw[aH (jC.2 P.o)]at a;subst a;exact⟨_,rfl,o.o⟩);·rw[aH q]at a;subst a;(have q:(i==0)=false:=by simpa using q);go_in;go_wp2_with fail;refine(W.o _ (F.o _ e.o)).mono ?_;rintro l z⟨rfl,b⟩;have n:=H (e.trans (b.mono e.size));clear b y e W;go_wp2;go_ret2;exact⟨_,rfl,n.o⟩
end
def OX(a:tZ):Int×Int:=(a.due,a.part)
structure mW(x y:cN):Prop where
 cell:y.cell=x.cell
 cy:y.cy=x.cy
 seen:y.seen=x.seen
 ev:y.ev=x.ev
 ms:y.ms=x.ms
 bd:y.bd.map OX=x.bd.map OX
 c7:y.c7=x.c7
 c6:y.c6=x.c6
 fi:y.fi=x.fi
theorem wG{c d:cN}(a:mW c d)(e b:hI):mW {c with gv:=e} {d with gv:=b}:=⟨a.cell,a.cy,a.seen,a.ev,a.ms,a.bd,a.c7,a.c6,a.fi⟩
theorem o8{b c:cN}(a:mW b c)(d e:Int):mW (fv b d e) (fv c d e):=⟨a.cell,a.cy,a.seen,a.ev,a.ms,by show(c.bd++_).map OX=(b.bd++_).map OX;rw[List.map_append,List.map_append,a.bd];rfl,a.c7,a.c6,a.fi⟩
theorem vN{c:aN}{part:Nat}{en en':Int}:∀(e:Nat)(b d:cN),mW b d->mW (ds c part en e b) (ds c part en' e d)|0,b,d,a=>a|e+1,b,d,a=>by(have f:dB c d part=dB c b part:=by unfold dB;rw[a.cy,a.cell]);unfold ds;dsimp only;rw[f];split;(·exact a);·refine vN e _ _ ⟨?_,?_,a.seen,a.ev,a.ms,a.bd,a.c7,a.c6,a.fi⟩;(·show bE d.cell part _=bE b.cell part _;rw[a.cell]);·show(gL _ _ d.cy _ _).2=(gL _ _ b.cy _ _).2;rw[a.cell,a.cy]
theorem Mh{c:aN}{part:Nat}{en en':Int}{d e:cN}(b:mW d e):mW (fp c part en d) (fp c part en' e):=by have a:=vN (c:=c) (part:=part) (en:=en) (en':=en') 400 {d with cell:=bE d.cell part (dg (c.p part) (d.cell part)),gv:=fU d.gv} {e with cell:=bE e.cell part (dg (c.p part) (e.cell part)),gv:=fU e.gv} ⟨by show bE e.cell part _=bE d.cell part _;rw[b.cell],b.cy,b.seen,b.ev,b.ms,b.bd,b.c7,b.c6,b.fi⟩;unfold fp;dsimp only;exact⟨a.cell,a.cy,by show bE _ part _=bE _ part _;rw[a.seen,a.cell],by show _++_=_++_;rw[a.ev,a.cell,a.seen],a.ms,a.bd,a.c7,a.c6,a.fi⟩
theorem Iv{c:aN}{a:Nat}{d e:cN}(b:mW d e):mW (fx c a d) (fx c a e):=by unfold fx;dsimp only;exact⟨by rw[b.cell],b.cy,b.seen,b.ev,by rw[b.ms,b.cell],b.bd,b.c7,b.c6,b.fi⟩
theorem Mj{e:aN}{b:Nat}{c d:Int}{a:Bool}{f g:cN}(h:mW f g):mW (ib e b c d a f) (ib e b c d a g):=by unfold ib;cases a with|true=>exact o8 (wG (o8 (wG h _ _) _ _) _ _) _ _|false=>exact Iv (o8 (wG (Mh (o8 (wG h _ _) _ _)) _ _) _ _)
theorem yH{c:aN}{p:fS}{x y:cN}(b:mW x y):∀a,mW (fw c p x a) (fw c p y a)|0=>b|a+1=>Mj (yH b a)
theorem Iw{c:aN}{p:fS}{d e:ju}{x y:cN}(b:mW x y):mW (eC c p d x) (eC c p e y):=by have a:=yH (c:=c) (p:=p) (x:={x with gv:={x.gv with first:=d.choice,n:=0,hq:=ep d},cy:=λ_=>0}) (y:={y with gv:={y.gv with first:=e.choice,n:=0,hq:=ep e},cy:=λ_=>0}) ⟨b.cell,rfl,b.seen,b.ev,b.ms,b.bd,b.c7,b.c6,b.fi⟩ (c.m p.mode.toNat).wn;unfold eC;dsimp only;exact⟨a.cell,a.cy,a.seen,a.ev,a.ms,a.bd,by show _++_=_++_;rw[a.c7],by show _++_=_++_;rw[a.c6],by show _++_=_++_;rw[a.fi,a.cy]⟩
def Mi:List ju->List ju->Prop|[],[]=>True|a::c,b::d=>a.k3=b.k3/\a.mode=b.mode/\Mi c d|_,_=>False
theorem yG{e:aN}:∀(f g:List ju)(c:fS),Mi f g->eh e c f=eh e c g|[],[],c,_=>rfl|a::f,b::g,c,d=>by obtain⟨h,i,j⟩:=d;(have k:jI e c a=jI e c b:=by unfold jI;rw[h,i]);unfold eh;rw[k];split;(·rfl);·rw[yG f g _ j]|[],_::_,_,d=>by cases d|_::_,[],_,d=>by cases d
theorem vM{j:aN}:∀(c:List fS)(g h:List ju)(e f:cN),Mi g h->mW e f->mW (dy j (c.zip g) e) (dy j (c.zip h) f)|[],g,h,e,f,_,i=>by simp only[List.zip_nil_left];exact i|p::c,[],[],e,f,_,i=>by simp only[List.zip_nil_right];exact i|p::c,a::g,b::h,e,f,d,i=>by simp only[List.zip_cons_cons];exact vM c g h _ _ d.2.2 (Iw i)|p::c,[],_::_,e,f,d,_=>by cases d|p::c,_::_,[],e,f,d,_=>by cases d
theorem zi{b:aN}{c d:List ju}{e:fS}{f g:cN}(a:Mi c d)(h:mW f g):mW (dy b ((eh b e c).zip c) f) (dy b ((eh b e d).zip d) g):=by rw[<-yG c d e a];exact vM _ _ _ _ _ a h
end Go.Proofs.YtihckgobeanocaaGreat
