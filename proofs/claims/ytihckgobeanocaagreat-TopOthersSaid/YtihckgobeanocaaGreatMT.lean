import Derived.Test.YtihckgobeanocaaGreatMR
import Derived.Test.YtihckgobeanocaaGreatMS
/- A part of the proof of the rows TopChoices and TopOthers: no conditions. -/
set_option linter.all false
set_option maxRecDepth 100000
set_option maxHeartbeats 0
namespace Go.Proofs.YtihckgobeanocaaGreat
open Go.RowKit Go.Proofs.Tryz
open eJ
open Obj renaming cells->aj
open Value renaming slice->ai,int->ae,pointer->aV,bool->aD
open IntKind renaming i64->ah
open Ending renaming returned->aG
open Go renaming Addr->ao,Calls->ag,Ending->aR,TypeId->aq,Value->ad,World->ab
open Go.RowKit renaming Below->aa
open Go.RowKit.Below renaming refl->al
open Go.World renaming size_alloc->aF
open Int renaming toNat_natCast->aB
open List renaming getElem?_eq_getElem->aO,replicate->aU
open Nat renaming lt_of_lt_of_le->aP,zero_le->aM
open Prod.mk renaming injEq->aw
def gh(a:List Int):List ad:=a.map (Value.int ah)
def rj(b:List tZ):List ad:=b.flatMap λa=>[ae ah a.due,ae ah a.at_,ae ah a.part]
structure hx(e:ab)(τ:aW)(h:ab)(a:aN)(b:Nat)(c:ad)(d:Nat->Nat)(f:Nat->Int):Prop where
 ls:I (kx e h a.w (Dg a) (xp a) a.pn b c d f)
 t0:τ b=59
 t1:∀i,i<a.pn->τ (d i)=59
 t2:∀g,c.ownBlock=some g->τ g=59
section
variable{T:Nat->Prop}{h w w':ab}{τ τ':aW}{c:aN}{lb:Nat}{lv:ad}{A:Nat->Nat}{E D:Nat->Int}
theorem hx.upd(r:I (hx h τ w c lb lv A E))(one:∀m,m<h.heap.size->τ m=1)(u:aK T τ w τ' w')(n:¬T 1)(k:¬T 59):I (hx h τ' w' c lb lv A E):=by obtain⟨o,f,g,j⟩:=r.o;have d:=o.o;have a:=d.lm.o;refine H ⟨⟨u.toBelow d.a7 d.a7.size λm p=>Decidable.by_contra λq=>n (by rw[<-one m O];exact p),d.hl,d.ha,d.hv,⟨bm a.box u.1 (by rw[f];exact k),bI a.own u.1 (λl e=>by rw[j l e];exact k),λi b=>bm (a.acc i b) u.1 (by rw[g i b];exact k),a.inj⟩,d.Qh,d.QH,d.hn,d.QA,d.qI⟩,(u.2 _ a.box.lt (by rw[f];exact k)).trans f,λi b=>(u.2 _ (a.acc i b).lt (by rw[g i b];exact k)).trans (g i b),λl e=>(u.2 _ (a.own.lt l e).2 (by rw[j l e];exact k)).trans (j l e)⟩
theorem Oz(i:I (hx h τ w c lb lv A E))(j:ax (Dc c.pn A) w w')(a:I (kx h w' c.w (Dg c) (xp c) c.pn lb lv A D)):aK (λk=>k=59) τ w τ w'/\I (hx h τ w' c lb lv A D):=by obtain⟨l,d,b,e⟩:=i.o;refine⟨aK.of (j.mono λo f=>?_) λ_ _=>rfl,⟨a,d,b,e⟩⟩;obtain⟨m,g,n⟩:=f;rw[n];exact b m g
end
structure rU where(xb:Nat)(ve vm vb vs vo vk:ad)(G:p2)(vl vp vn:ad)(cb pb:Nat->Nat)(lb:Nat)(lv:ad)(la:Nat->Nat)
def jq(c:aN)(a:rU)(x:cN):Array ad:=#[a.ve,a.vm,a.vb,ai none 0 0,ae ah 0,ae ah 0,ae ah 0,ae ah 0,a.vs,a.vo,a.vk,ae ah x.late,aV (av a.G.gb),ai c.pa c.pn c.pc,ai c.ca c.cn c.cc,ai c.ma c.mn c.mc,ai c.w.la c.w.ln c.w.lc,ai c.w.na c.w.nn c.w.nc,ae ah c.w.sw,ae ah c.w.id,ae ah c.w.ch,ae ah c.w.qu,ae ah c.w.sl,ae ah c.w.pp,ai c.da c.dn c.dc,ai c.ua c.un c.uc,a.vl,a.vp,a.vn,aV (av a.lb)]
def yi(b:aW)(e:ab)(h:ad)(c:List (List Int)):Prop:=∃a:List ad,a.length=c.length/\bX 77 b e 29 1 h c.length a/\∀(f:Nat)(g:ad)(d:List Int),a[f]?=some g->c[f]?=some d->bX 1 b e 3 1 g d.length (gh d)
def Av(a:aW)(c:ab)(d:ad)(e:List iN):Prop:=∃b:ky,b.map Prod.fst=e/\bX 73 a c 146 3 d b.length (gN b)/\qZ a c b
structure c4(d:ab)(a:aW)(w:ab)(c:aN)(b:rU)(x:cN):Prop where
 hF:e8 d a w
 box:bW 71 a w b.xb (jq c b x) 101
 hS:bX 72 a w 85 6 b.ve x.ev.length (dZ x.ev)
 Qd:Av a w b.vm x.ms
 Qg:bX 74 a w 68 3 b.vb x.bd.length (rj x.bd)
 shr:bX 75 a w 3 1 b.vs x.c7.length (gh x.c7)
 w0:bX 76 a w 3 1 b.vo x.c6.length (gh x.c6)
 Qf:yi a w b.vk x.fi
 u4:I (eL d a w c b.G x.gv)
 Qi:I (hx d a w c b.lb b.lv b.la x.cy)
 cls:bX 60 a w 176 1 b.vl c.pn (b6 b.cb c.pn)
 Qm:bX 60 a w 179 1 b.vp c.pn (b6 b.pb c.pn)
 pg:bX 78 a w 3 1 b.vn c.pn (cL (λk=>((x.seen k:Nat):Int)) c.pn)
 w9:∀k,k<c.pn->I (kU (7*k+2) a w (b.cb k) {c.p k with gp:=b.pb k} (x.cell k))
section
variable{T:Nat->Prop}{h w w':ab}{τ τ':aW}{c:aN}{L:rU}{x:cN}{k:Nat}
theorem h4{t a:Nat}{d:a8}{y:aX}(e:I (kU t τ w a d y))(u:aK T τ w τ' w')(f:∀v,cG t v->¬T v)(b:¬T 1):I (kU t τ' w' a d y):=by obtain⟨L,g⟩:=e.o;exact H ⟨L,bj.upd g u f b⟩
theorem Av.upd{v:ad}{l:List iN}(e:Av τ w v l)(u:aK T τ w τ' w')(a:¬T 1)(f:¬T 73):Av τ' w' v l:=by obtain⟨g,i,b,d⟩:=e;exact⟨g,i,b.upd u f,d.upd u a⟩
theorem yi.upd{v:ad}{l:List (List Int)}(i:yi τ w v l)(u:aK T τ w τ' w')(b:¬T 1)(j:¬T 77):yi τ' w' v l:=by obtain⟨d,m,e,f⟩:=i;exact⟨d,m,e.upd u j,λk g n a o=>(f k g n a o).upd u b⟩
theorem c4.next(f:I (c4 h τ w c L x))(d:aa w w w')(k:∀b,b<w.heap.size->τ' b=τ b):I (c4 h τ' w' c L x):=by have a:=f.o;have u:=aK.below (T:=λ_=>False) d k;exact H ⟨a.hF.upd u id,a.box.upd u id,a.hS.upd u id,a.Qd.upd u id id,a.Qg.upd u id,a.shr.upd u id,a.w0.upd u id,a.Qf.upd u id id,eL.upd a.u4 u id id id id,hx.upd a.Qi a.hF.one u id id,a.cls.upd u id,a.Qm.upd u id,a.pg.upd u id,λk e=>h4 (a.w9 k e) u (λ_ _=>id) id⟩
theorem c4.step(t:I (c4 h τ w c L x))(u:c.pn<=8)(m:aK T τ w τ' w')(n:∀v,v<71->¬T v)(d e f g i j:ad)(a:cN)(o:a.gv=x.gv)(p:a.cy=x.cy)(q:a.cell=x.cell)(y:bW 71 τ' w' L.xb (jq c {L with ve:=d,vm:=e,vb:=f,vs:=g,vo:=i,vk:=j} a) 101)(z:bX 72 τ' w' 85 6 d a.ev.length (dZ a.ev))(A:Av τ' w' e a.ms)(B:bX 74 τ' w' 68 3 f a.bd.length (rj a.bd))(S:bX 75 τ' w' 3 1 g a.c7.length (gh a.c7))(C:bX 76 τ' w' 3 1 i a.c6.length (gh a.c6))(D:yi τ' w' j a.fi)(E:bX 78 τ' w' 3 1 L.vn c.pn (cL (λk=>((a.seen k:Nat):Int)) c.pn)):I (c4 h τ' w' c {L with ve:=d,vm:=e,vb:=f,vs:=g,vo:=i,vk:=j} a):=by have l:=t.o;have b:=n 1 an;exact H ⟨l.hF.upd m b,y,z,A,B,S,C,D,by rw[o];exact eL.upd l.u4 m b (n _ an) (n _ an) (n _ an),by rw[p];exact hx.upd l.Qi l.hF.one m b (n _ an),l.cls.upd m (n _ an),l.Qm.upd m (n _ an),E,λk r=>by rw[q];exact h4 (l.w9 k r) m (λv s=>n v (by obtain⟨F,G⟩:=s;omega)) b⟩
theorem yh(q:I (c4 h τ w c L x))(r:c.pn<=8)(a:I (aK j3 τ w τ' w')){j:p2}{m:hI}(s:I (eL h τ' w' c j m))(l:j.gb=L.G.gb):I (c4 h τ' w' c {L with G:=j} {x with gv:=m}):=by have b:=q.o;have a:=a.o;(have e:∀d,d≠61->d≠62->d≠63->¬j3 d:=λd v y z l=>by rcases l with l|l|l<;>omega);have g:∀d,71<=d->¬j3 d:=λd n=>e d O O O;have f:¬j3 1:=e 1 an an an;have i:¬j3 60:=e 60 an an an;have p:=b.box.upd a (g _ an);exact H ⟨b.hF.upd a f,by unfold jq at p⊢;dsimp only;rw[l];exact p,b.hS.upd a (g _ an),b.Qd.upd a f (g _ an),b.Qg.upd a (g _ an),b.shr.upd a (g _ an),b.w0.upd a (g _ an),b.Qf.upd a f (g _ an),s,hx.upd b.Qi b.hF.one a f (e _ an an an),b.cls.upd a i,b.Qm.upd a i,b.pg.upd a (g _ an),λk o=>h4 (b.w9 k o) a (λd n=>by obtain⟨t,u⟩:=n;exact e d O O O) f⟩
theorem Es(i:I (c4 h τ w c L x))(j:c.pn<=8){d:Nat->Int}(l:ax (Dc c.pn L.la) w w')(e:I (kx h w' c.w (Dg c) (xp c) c.pn L.lb L.lv L.la d)):I (aK (λa=>a=59) τ w τ w')/\I (c4 h τ w' c L {x with cy:=d}):=by have b:=i.o;obtain⟨a,m⟩:=Oz b.Qi l e;exact⟨a,⟨b.hF.upd a an,b.box.upd a an,b.hS.upd a an,b.Qd.upd a an an,b.Qg.upd a an,b.shr.upd a an,b.w0.upd a an,b.Qf.upd a an an,eL.upd b.u4 a an an an an,m,b.cls.upd a an,b.Qm.upd a an,b.pg.upd a an,λk f=>h4 (b.w9 k f) a (λp g q=>by obtain⟨n,o⟩:=g;omega) an⟩⟩
theorem At(q:I (c4 h τ w c L x))(r:c.pn<=8)(s:k<c.pn){m:aX}(a:I (aK (cG (7*k+2)) τ w τ' w'))(t:I (kU (7*k+2) τ' w' (L.cb k) {c.p k with gp:=L.pb k} m)):I (c4 h τ' w' c L {x with cell:=bE x.cell k m}):=by have b:=q.o;have a:=a.o;(have d:∀l,58<=l->¬cG (7*k+2) l:=λl g f=>by obtain⟨i,j⟩:=f;omega);(have e:¬cG (7*k+2) 1:=λf=>by obtain⟨i,j⟩:=f;omega);refine H ⟨b.hF.upd a e,b.box.upd a (d _ an),b.hS.upd a (d _ an),b.Qd.upd a e (d _ an),b.Qg.upd a (d _ an),b.shr.upd a (d _ an),b.w0.upd a (d _ an),b.Qf.upd a e (d _ an),eL.upd b.u4 a e (d _ an) (d _ an) (d _ an),hx.upd b.Qi b.hF.one a e (d _ an),b.cls.upd a (d _ an),b.Qm.upd a (d _ an),b.pg.upd a (d _ an),λn o=>?_⟩;show I (kU _ _ _ _ _ (bE x.cell k m n));by_cases f:n=k;(·subst f;rw[bL];exact t);·rw[bK _ _ _ _ f];exact h4 (b.w9 n o) a (λl g p=>by obtain⟨i,j⟩:=g;obtain⟨u,v⟩:=p;omega) e
theorem HU{i j:Nat}{o:a8}{e:fy}{p:aX}{q:db}(r:I (bj i τ w j o e p))(b:aK T τ w τ' w')(g:∀l,l<7->l≠3->¬T (i+l))(f:¬T 1)(m:I (hW (i+3) τ' w' e.pb q)):I (bj i τ' w' j o e {p with hr:=q}):=by have a:=r.o;have d:¬T i:=g 0 an an;exact H ⟨a.t1,a.box.upd b d,a.row.upd b d,λk n=>(a.sz k n).upd b d f,a.inj,a.hS.upd b d,lM.upd a.a1 b (g 1 an an),l2.upd a.mem b (g 2 an an),m,ix.upd a.obj b (g 4 an an) f,iT.upd a.Qu b (g 5 an an),pA.upd a.hf b (g 6 an an),a.Qn.upd b f,a.pn,a.cap,a.act⟩
def Au(a:Nat):Nat->Prop:=λb=>∃k,k<a/\b=7*k+5
theorem Et{b a:Nat}(e:b<=8)(g:a=1\/58<=a):¬Au b a:=λd=>by obtain⟨k,f,d⟩:=d;omega
theorem HT(t:I (c4 h τ w c L x))(f:c.pn<=8)(a:I (aK (Au c.pn) τ w τ' w')){g:Nat->db}(u:I (∀k,k<c.pn->I (hW (7*k+5) τ' w' (L.pb k) (g k)))):I (c4 h τ' w' c L {x with cell:=λk=>{x.cell k with hr:=g k}}):=by have b:=t.o;have a:=a.o;have d:∀n,58<=n->¬Au c.pn n:=λn o=>Et f (.inr o);have e:¬Au c.pn 1:=Et f (.inl rfl);refine H ⟨b.hF.upd a e,b.box.upd a (d _ an),b.hS.upd a (d _ an),b.Qd.upd a e (d _ an),b.Qg.upd a (d _ an),b.shr.upd a (d _ an),b.w0.upd a (d _ an),b.Qf.upd a e (d _ an),eL.upd b.u4 a e (d _ an) (d _ an) (d _ an),hx.upd b.Qi b.hF.one a e (d _ an),b.cls.upd a (d _ an),b.Qm.upd a (d _ an),b.pg.upd a (d _ an),λi j=>?_⟩;obtain⟨l,q⟩:=(b.w9 i j).o;have m:l.pb=L.pb i:=q.cap.2;have r:=u.o i j;rw[<-m]at r;exact H ⟨l,HU q a (λz v s m=>by obtain⟨k,y,m⟩:=m;omega) e (by have p:7*i+2+3=7*i+5:=O;rw[p];exact r)⟩
theorem P8(i:I (c4 h τ w c L x))(a:Nat)(b:a<c.pn):I (hW (7*a+5) τ w (L.pb a) (x.cell a).hr):=by obtain⟨d,g⟩:=(i.w9 a b).o;have j:d.pb=L.pb a:=g.cap.2;have e:=g.hr;rw[j]at e;have f:7*a+2+3=7*a+5:=O;rw[f]at e;exact e
end
/-! tags over a flush -/
def n5(a:Nat):Prop:=a=63\/a=64\/a=66\/a=67
instance(a:Nat):Decidable (n5 a):=by unfold n5;infer_instance
def P9(a:aW):aW:=λb=>if n5 (a b)then 58 else a b
def Jk(a:aW)(d:ab)(b:aW):aW:=λc=>if c<d.heap.size/\n5 (a c)then a c else b c
section
variable{h w w':ab}{τ τ':aW}{n:Nat}
theorem OA:aK n5 τ w (P9 τ) w:=⟨ax.refl _ _,λa _ n=>aE n⟩
theorem BR{c:Nat}(d:n<=8)(a:Ot n (if n5 c then 58 else c)):Au n c/\¬n5 c:=by by_cases b:n5 c;(·rw[aH b]at a;exfalso;rcases a with a|a|a|a|⟨f,e,a⟩<;>omega);·rw[aE b]at a;refine⟨?_,b⟩;rcases a with a|a|a|a|a;(·exact absurd (.inl a) b);(·exact absurd (.inr (.inl a)) b);(·exact absurd (.inr (.inr (.inl a))) b);(·exact absurd (.inr (.inr (.inr a))) b);·exact a
theorem LV(b:n<=8)(f:aK (Ot n) (P9 τ) w τ' w'):aK (Au n) τ w (Jk τ w τ') w':=by refine⟨f.1.mono λc a=>(BR b a).1,λc a g=>?_⟩;unfold Jk;by_cases d:n5 (τ c);(·rw[aH ⟨a,d⟩]);·rw[aE λe=>d e.2,f.2 c a λe=>g (BR b e).1];exact aE d
theorem Eu(a:n<=8)(c:aK (Ot n) (P9 τ) w τ' w'):aK (λd=>d=58) τ' w' (Jk τ w τ') w':=by refine⟨ax.refl _ _,λe _ f=>aE λb=>f ?_⟩;rw[c.2 e b.1 λg=>(BR a g).2 b.2];exact aH b.2
end
structure cz(c a:aX)(m:Nat):Prop where
 pk:fz c.a1 a.a1
 room:(cS a).room=(cS c).room
 has:(cS a).has=(cS c).has
 dn:∀b,(cS c).dn b=true->(cS a).dn b=true
 new:∀b,(cS a).dn b=true->(cS c).dn b=true\/(a.a1.r b).parked=true
theorem cz.of{x b:aX}{m:Nat}(a:fz x.a1 b.a1)(k:b.hf=x.hf):cz x b m:=by(have c:cS b=cS x:=by unfold cS;rw[k]);exact⟨a,by rw[c],by rw[c],λi a=>by rw[c];exact a,λi a=>.inl (by rw[<-c];exact a)⟩
theorem cz.refl(a:aX):cz a a 0:=cz.of (fz.refl _) rfl
theorem cz.trans{x y f:aX}{a b:Nat}(d:cz x y a)(k:cz y f b):cz x f (a+b):=⟨d.pk.trans k.pk,k.room.trans d.room,k.has.trans d.has,λi e=>k.dn i (d.dn i e),λi e=>by rcases k.new i e with c|c;(·rcases d.new i c with c|c;(·exact .inl c);·exact .inr (k.pk.2 i c));·exact .inr c⟩
theorem cz.le{x b:aX}{c d:Nat}(a:cz x b c)(e:c<=d):cz x b d:=⟨a.pk,a.room,a.has,a.dn,a.new⟩
theorem cz.to{c d:aX}{a e:Nat}(b:cz c d a):cz c d e:=⟨b.pk,b.room,b.has,b.dn,b.new⟩
theorem cz.same{a y:aX}(b:y.a1=a.a1)(c:y.hf=a.hf):cz a y 0:=cz.of (by rw[b];exact fz.refl _) c
theorem cz.k4{a b c:aX}{d:Nat}(e:cz b c d)(f:fz a.a1 b.a1)(g:b.hf=a.hf):cz a c d:=((cz.of (m:=0) f g).trans e).to
theorem jY(a:aX)(b c d e:Int):cz a (cj a b c d e) 1:=cz.of (fz.refl _) rfl
theorem cU(a:aX)(b:Nat)(c:b2)(d:Int):cz a (bB a b c d) 1:=jY _ _ _ _ _
theorem HY(b:aX)(c:Nat)(a:Int):cz b (cO b c a) 0:=cz.of (jM b c a).pk (jW b c a)
theorem LY(a:aX)(b:Nat):cz a (c8 a b) 0:=cz.of (hc a b).pk rfl
theorem uD(a:aX)(c:Nat):cz a (fg a c) 0:=by refine⟨(kV a c).pk,?_,?_,λd b=>?_,λd b=>?_⟩;(·show(gS a.a1.n (cS a) c).room=_;unfold gS;split<;>rfl);(·show(gS a.a1.n (cS a) c).has=_;unfold gS;split<;>rfl);(·show(gS a.a1.n (cS a) c).dn d=true;unfold gS;split;(·show lH (cS a).dn (c:Int).toNat true d=true;unfold lH;split;(·rfl);·exact b);·exact b);·have b:(gS a.a1.n (cS a) c).dn d=true:=b;show _\/((h7 a.a1 c).2.r d).parked=true;unfold gS at b;split at b;(·rename_i f;have b:lH (cS a).dn (c:Int).toNat true d=true:=b;unfold lH at b;split at b;(·rename_i e;right;rw[aB]at e;subst e;unfold h7;rw[aH (by unfold b8;simp;omega),aB];show(bE a.a1.r d _ d).parked=true;rw[bL]);·exact .inl b);·exact .inl b
theorem LX(a:aX):cz a (ki a) 0:=cz.of (uq a).pk (show(ki a).hf=a.hf from iD (f:=c8) (λ_ _=>rfl) _ _)
theorem BS(b:aX)(a:Bool):cz b (eD b a) 0:=cz.of (oS b a).pk (show(eD b a).hf=b.hf from(iD (f:=dQ) (λc d=>jW c d c.gf) _ _).trans (iD (f:=c8) (λ_ _=>rfl) _ _))
theorem o4(b:aX)(a c:Nat):cz b (ef b a c) 1:=cz.of (i4 b a c).pk (lC b a c)
theorem nG(a:aX)(b:Nat)(c d e:Int):cz a (cI a b c d e) 1:=cz.of (gD a b c d e).pk rfl
theorem vF(a:aX)(b:Nat)(c:Int)(d:List Int):cz a (eM a b c d) 1:=cz.of (lu a b c d).pk rfl
theorem s0(a:aX)(b:Nat)(c:b2):cz a (nx a b c) 2:=(cU a b c 8).trans (o4 _ 2 b)
theorem qP(a:aX)(b:Nat)(c:b2)(d:List Int):cz a (ht a b c d) 1:=by unfold ht;split;(·exact cU _ _ _ _);·exact cz.of (oT _ _ _ _ _) rfl
theorem uE(a:aX)(b:Nat)(c:b2)(d:Int):cz a (eH a b c d).2 2:=by unfold eH;split;(·exact(cU _ _ _ _).le O);·split;(·exact(cz.refl _).le O);·exact s0 _ _ _
theorem n6(a:aX)(b:Nat)(c:b2)(d:Int):cz a (fT a b c d).2 2:=by unfold fT;split;(·exact(cz.refl _).le O);·exact s0 _ _ _
theorem yj(a:aX)(d:Nat)(b:b2)(c:List Int)(e:Int):cz a (hT a d b c e).2 1:=by unfold hT;split;(·exact(show cz a {a with mem:=(iQ a.mem b.b c).2} 0 from cz.same rfl rfl).trans (jY _ _ _ _ _));·split;(·exact cU _ _ _ _);·exact qP _ _ _ _
theorem HX(b:a8)(a:aX)(c:Nat)(d:b2):cz a (jB b a c d) 1:=by unfold jB;dsimp only;(repeat' split);all_goals first|exact cU _ _ _ _|exact cz.le (cz.k4 (uD _ _) (ly _ _ _) rfl) O|exact cz.le (cz.k4 (uD _ _) (oT _ _ _ _ _) rfl) O|exact cz.of (ly _ _ _) rfl
theorem BU(b:a8)(a:aX)(c:Nat)(d:b2):cz a (ct b a c d) 1:=by unfold ct;split;(·exact HX _ _ _ _);split;(·exact cU _ _ _ _);dsimp only;split;(·exact cU _ _ _ _);split;(·exact cz.le (cz.k4 (cU _ _ _ _) (xJ _ _ _) rfl) O);split;(·exact cz.le (cz.k4 (cU _ _ _ _) (ly _ _ _) rfl) O);split;(·exact cz.le ((HY a _ _).trans (cU _ _ _ _)) O);split;(·exact cz.le ((LY a _).trans (cU _ _ _ _)) O);·exact cU _ _ _ _
theorem BV(b:aX)(e:Nat)(d:b2):cz b (cu b e d) 3:=by unfold cu;dsimp only;split;(·exact(cU _ _ _ _).le O);split;(·split;(·exact(n6 _ _ _ _).le O);·exact cz.le (cz.trans (n6 b e d _) (cz.k4 (yj _ _ _ _ _) (fz.refl _) rfl)) O);·have a:=uE b e d (j7 b.hr d.a);generalize eH b e d (j7 b.hr d.a)=h at*;obtain⟨i,f⟩:=h;cases i with|none=>exact a.le O|some j=>dsimp only;have c:∀g:db,cz f {f with hr:=g} 0:=λg=>cz.same rfl rfl;split;(·exact cz.le (a.trans ((c _).trans (cU _ _ _ _))) O);split;(·exact cz.le (a.trans ((c _).trans (cU _ _ _ _))) O);·exact cz.le (a.trans ((c _).trans (qP _ _ _ _))) O
theorem ym(a:aX)(b:Nat)(c:b2)(d:Int):cz a (gJ a b c d) 1:=by unfold gJ;split;(·exact qP _ _ _ _);·exact cU _ _ _ _
theorem yl(c:Int):∀b a,cz a (ft c b a) b|0,a=>cz.refl a|b+1,a=>by unfold ft;split;(·exact(cz.refl a).le O);·exact cz.le ((nG a _ _ _ _).trans (yl c b _)) O
theorem yk(c:Int)(d:List Int):∀b a,cz a (fu c d b a) b|0,a=>cz.refl a|b+1,a=>by unfold fu;split;(·exact(cz.refl a).le O);·exact cz.le ((vF a _ _ _).trans (yk c d b _)) O
theorem Ey(b:aX)(c:Nat)(d:b2):cz b (dA b c d) 21:=by have a:∀e:eB,cz b {b with obj:=e} 0:=λe=>cz.same rfl rfl;unfold dA;dsimp only;split;(·exact cz.le ((a _).trans (ym _ _ _ _)) O);split;(·split;(·exact cz.le ((cU b c d 0).trans (nG _ _ _ _ _)) O);·exact cz.le ((a _).trans (cU _ _ _ _)) O);split;(·exact cz.le (((a _).trans (cU _ _ _ _)).trans (yl _ _ _)) an);split;(·exact cz.le ((a _).trans (cU _ _ _ _)) O);·exact(ym _ _ _ _).le O
theorem Ew(a:aX)(b:Int):cz a (fC a b) 1:=by unfold fC;dsimp only;split;(·split;(·exact cz.le (cz.k4 (nG _ _ _ _ _) (fz.refl _) rfl) O);·exact cz.of (fz.refl _) rfl);·exact(cz.refl a).le O
theorem LW(n:a8)(b:aX)(e:Nat)(a:b2):cz b (eu n b e a) 4:=by unfold eu;dsimp only;split;(·exact(cU _ _ _ _).le O);split;(·have c:=n6 b e a (eX b.obj a.a (-1));generalize fT b e a (eX b.obj a.a (-1))=j at*;obtain⟨o,f⟩:=j;dsimp only at c⊢;split;(·exact c.le O);·have g:∀h k l,cz f (hT {f with obj:=h} e a k l).2 1:=λh k l=>cz.k4 (yj _ _ _ _ _) (fz.refl _) rfl;generalize mo f.obj a.a=m at*;split;(·exact cz.le (c.trans ((g _ _ _).trans (Ew _ _))) O);·exact cz.le (c.trans (g _ _ _)) O);·have d:=uE b e a (eX b.obj a.a (-1));generalize eH b e a (eX b.obj a.a (-1))=j at*;obtain⟨m,f⟩:=j;cases m with|none=>exact d.le O|some o=>dsimp only;have i:∀h:eB,cz f {f with obj:=h} 0:=λh=>cz.same rfl rfl;split;(·exact cz.le (d.trans ((cU f e a 0).trans (vF _ _ _ _))) O);split;(·exact cz.le (d.trans ((i _).trans (cU _ _ _ _))) O);·exact cz.le (d.trans ((i _).trans (qP _ _ _ _))) O
theorem HV(h:a8)(a:aX)(d:Nat)(b:b2):cz a (eN h a d b) 23:=by unfold eN;dsimp only;split;(·exact(cU _ _ _ _).le O);split;(·exact cz.le (cz.k4 (cU _ _ _ _) (fz.refl _) rfl) O);split;(·split;(·exact(n6 _ _ _ _).le O);·exact cz.le ((n6 a d b _).trans (yj _ _ _ _ _)) O);·have c:=uE a d b (eX a.obj 0 b.a);generalize eH a d b (eX a.obj 0 b.a)=i at*;obtain⟨j,f⟩:=i;cases j with|none=>exact c.le O|some k=>dsimp only;have e:∀g:eB,cz f {f with obj:=g} 0:=λg=>cz.same rfl rfl;exact cz.le (c.trans (((e _).trans (cU _ _ _ _)).trans (yk _ _ _ _))) an
theorem Ez(b:aX)(d:Nat)(e:b2):cz b (eU b d e) 2:=by have a:∀c:iG,cz b {b with mem:=c} 0:=λc=>cz.same rfl rfl;unfold eU;dsimp only;split;(·split;(·exact cz.le ((a _).trans (jY _ _ _ _ _)) O);·exact cz.le ((a _).trans (s0 _ _ _)) O);·split;(·exact(jY _ _ _ _ _).le O);·exact s0 _ _ _
theorem Ex(a:aX)(b:Nat)(c:b2):cz a (et a b c) 1:=by unfold et;split;(·exact(cU a b c 0).trans (LX _));split;(·exact(cU a b c 0).trans (BS _ _));split;(·exact cU _ _ _ _);·exact cU _ _ _ _
theorem Ax(c:a8)(a:aX)(b:Nat)(d:b2):cz a (dO c a b d) 23:=by unfold dO;(repeat' split);(·exact(BU _ _ _ _).le O);(·exact(jY _ _ _ _ _).le O);(·exact(BV _ _ _).le O);(·exact(Ey _ _ _).le O);(·exact(LW _ _ _ _).le O);(·exact HV _ _ _ _);(·exact cz.le ((jY a _ _ _ _).trans (o4 _ 3 b)) O);(·exact(Ez _ _ _).le O);(·exact(jY _ _ _ _ _).le O);(·exact(Ex _ _ _).le O);·exact cz.le ((jY a _ _ _ _).trans (o4 _ 1 b)) O
theorem i9:∀b a,cz a (dV b a) 0|0,a=>cz.refl a|b+1,a=>by unfold dV;dsimp only;split;(·split;(·exact cz.refl a);·split;(·exact cz.refl a);·exact(((uD a _).trans (o4 _ _ _)).trans (i9 b _)).to);·exact cz.refl a
structure s6(x:aX):Prop where
 dn:∀a,(cS x).dn a=true->(x.a1.r a).parked=true
 has:∀a,a<x.a1.n->0<=(cS x).has a/\(cS x).has a<=9223372036854775807
 room:0<=(cS x).room/\(cS x).room<=9223372036854775807
theorem s6.sl{x d:aX}{e:Nat}(a:s6 x)(k:cz x d e):s6 d:=⟨λi q=>by rcases k.new i q with b|b;(·exact k.pk.2 i (a.dn i b));·exact b,λi c=>by rw[k.has];exact a.has i (by rw[<-k.pk.1];exact c),by rw[k.room];exact a.room⟩
theorem vE{c e:gu}(h:e.has=c.has)(i:∀b,c.dn b=true->e.dn b=true):∀a,(∀b,b<a->0<=c.has b)->iI e a<=iI c a|0,_=>Int.le_refl _|a+1,d=>by have f:=vE h i a λb j=>d b O;have:=d a O;unfold iI;rw[h];by_cases g:c.dn a=true;(·rw[aH g,aH (i a g)];exact f);·rw[aE g];split<;>omega
theorem Ev{a c:gu}{d:Nat}(f:c.has=a.has)(g:c.room=a.room)(h:∀b,a.dn b=true->c.dn b=true)(e:∀b,b<d->0<=a.has b):eQ d c<=eQ d a:=by have:=vE f h d e;unfold eQ pJ;rw[g];(repeat' split)<;>omega
theorem LZ{a c:aX}{e:Nat}(f:s6 a)(b:cz a c e):eQ c.a1.n (cS c)<=eQ a.a1.n (cS a):=by rw[b.pk.1];exact Ev b.has b.room b.dn λg d=>(f.has g d).1
theorem yn{d:gu}{e:Nat}(h:d.dn e=false):∀a,e<a->(∀c,c<a->0<=d.has c)->d.has e<=iI d a|0,f,_=>O|a+1,f,b=>by have i:=k9 d a λc g=>b c O;have:=b a O;unfold iI;by_cases j:e=a;(·subst j;rw[aE (by rw[h];decide)];omega);·have k:=yn h a O λc g=>b c O;split<;>omega
theorem s5{d:gu}{b:Nat}{c r:Int}(f:d.dn b=false):∀a,iI ⟨r,hB d.has b (d.has b-c),d.dn⟩ a=iI d a-if b<a then c else 0|0=>by simp[iI]|a+1=>by have e:=s5 (r:=r) (c:=c) f a;unfold iI;dsimp only;by_cases h:b=a;(·subst h;rw[aE (by rw[f];decide),aE (by rw[f];decide),e,aE O,aH O];unfold hB;rw[aH rfl];omega);·(have g:hB d.has b (d.has b-c) a=d.has a:=by unfold hB;rw[aE λj=>h j.symm]);rw[g,e];by_cases i:b<a;(·rw[aH i,aH (show b<a+1 by omega)];split<;>omega);·rw[aE i,aE (show¬b<a+1 by omega)];split<;>omega
theorem Aw{a:aX}(c:¬eY a<0):a.mode=3/\∃d,d<a.a1.n/\eY a=(d:Int)/\(a.a1.r d).parked=false:=by unfold eY at c⊢;by_cases e:a.mode=3;(·rw[aH e]at c⊢;refine⟨e,?_⟩;rcases mC eP a.a1.r a.a1.n with h|⟨d,f,g,b⟩;(·exact absurd (by unfold jf;rw[h];omega) c);·refine⟨d,f,g,?_⟩;unfold eP at b;simp at b;exact b.2);·rw[aE e]at c;exact absurd O c
theorem HW{q:a8}{a:aX}(n:s6 a){b:Int}(v:1<=b)(f:b<=fL a):(eE q a b).1=b/\s6 (eE q a b).2/\eQ (eE q a b).2.a1.n (cS (eE q a b).2)+b<=eQ a.a1.n (cS a)/\(cS (eE q a b).2).room=(cS a).room-b/\(eE q a b).2.a1.n=a.a1.n:=by(have t:¬eY a<0:=λt=>by unfold fL at f;rw[aH t]at f;omega);obtain⟨_,c,j,A,o⟩:=Aw t;(have p:(cS a).dn c=false:=by cases q:(cS a).dn c;(·rfl);·rw[n.dn c q]at o;cases o);(have w:mX a.a1.n (cS a).has (eY a)=(cS a).has c:=by unfold mX;rw[A,aH ⟨O,O⟩,aB]);(have C:b<=(cS a).has c/\b<=(cS a).room:=by unfold fL at f;rw[aE t,w]at f;unfold rD ik at f;(repeat' split at f)<;>omega);have D:=n.has c j;have E:=n.room;(have x:ik b (fL a)=b:=by unfold ik;rw[aE O]);(have y:(eA a.a1.n (cS a) c b).2=⟨(cS a).room-b,hB (cS a).has c ((cS a).has c-b),(cS a).dn⟩:=by unfold eA;rw[aH ⟨⟨O,O⟩,v⟩,aB];(have d:ik (ik b (cS a).room) ((cS a).has c)=b:=by unfold ik;rw[aE O,aE O]);simp only[d]);(have r:∀e:aX,e.a1=a.a1->e.hf=some ⟨(cS a).room-b,hB (cS a).has c ((cS a).has c-b),(cS a).dn⟩->s6 e/\eQ e.a1.n (cS e)+b<=eQ a.a1.n (cS a)/\(cS e).room=(cS a).room-b:=by intro e d k;(have g:cS e=⟨(cS a).room-b,hB (cS a).has c ((cS a).has c-b),(cS a).dn⟩:=by unfold cS;rw[k];rfl);have F:=yn p a.a1.n j λl h=>(n.has l h).1;refine⟨⟨λl q=>?_,λl h=>?_,?_⟩,?_,?_⟩;(·rw[g]at q;rw[d];exact n.dn l q);(·rw[g];show 0<=hB (cS a).has c ((cS a).has c-b) l/\hB (cS a).has c ((cS a).has c-b) l<=9223372036854775807;rw[d]at h;have:=n.has l h;unfold hB;split<;>omega);(·rw[g];show 0<=(cS a).room-b/\(cS a).room-b<=_;omega);(·rw[g,d];unfold eQ;rw[s5 p,aH j];unfold pJ;dsimp only;(repeat' split)<;>omega);·rw[g]);(have i:∀e m:aX,∀B,e.a1=a.a1->e.hf=some ⟨(cS a).room-b,hB (cS a).has c ((cS a).has c-b),(cS a).dn⟩->cz e m B->s6 m/\eQ m.a1.n (cS m)+b<=eQ a.a1.n (cS a)/\(cS m).room=(cS a).room-b/\m.a1.n=a.a1.n:=by intro e m B d k u;obtain⟨s,G,z⟩:=r e d k;have:=LZ s u;exact⟨s.sl u,O,by rw[u.room];exact z,by rw[u.pk.1,d]⟩);unfold eE;rw[x];dsimp only;rw[aE O,A,aB,y];split;(·refine⟨rfl,?_⟩;dsimp only;refine i _ _ (23+0) ?_ ?_ (cz.trans (Ax q _ _ _) (i9 dE _));(·rfl);·rfl);·refine⟨rfl,?_⟩;dsimp only;refine i _ _ 0 ?_ ?_ (i9 dE _);(·rfl);·rfl
structure Qb(a:aN):Prop where
 QD:OL a
 pow:(hH a.w).1=0
 pn:1<=a.pn/\a.pn<=8
 cn:a.cn<=16
 mn:1<=a.mn/\a.mn<=4
 wn:∀b,b<a.mn->(a.m b).wn<=16
 part:∀b,b<a.pn->kz (a.p b)=0
 QW:a.dn=a.un/\a.dn<=4
theorem rY{n:aN}(a:(hZ n).1=0):Qb n:=by have j:=B5 a;unfold hZ at a;split at a;(·rename_i g;obtain⟨k,a⟩:=jb a;obtain⟨l,a⟩:=jb a;obtain⟨c,a⟩:=jb a;obtain⟨b,d⟩:=jb a;have g:=cK.1 g;unfold n9 at c;unfold oe at b;unfold wE at d;split at b;(·rename_i h;have h:=cK.1 h;refine⟨j,l,O,?_,O,λm e=>?_,λm e=>ti k m e,?_⟩;(·split at c;(·cases c);·omega);(·have f:=ti b m e;skip;unfold ni at f;split at f;(·rw[aB]at f;unfold wF at f;split at f;(·rename_i i;simp only[Bool.and_eq_true,decide_eq_true_eq]at i;exact i.2.1);·cases f);·cases f);·split at d;(·cases d);·omega);·cases b);·cases a
theorem Ic{c:aN}{q:a8}{x:aX}(u:1<=q.cap/\q.cap<=1000000000)(m:∀e,e<x.a1.n->q.pf e 2<=9223372036854775807):s6 (dg q x)/\(cS (dg q x)).room=q.cap/\(dg q x).a1.n=x.a1.n:=by(have a:∀i:aX,i.hf=some (lP q.cap q.pf)->i.a1.n=x.a1.n->s6 i/\(cS i).room=q.cap:=by intro i n v;(have l:cS i=lP q.cap q.pf:=by unfold cS;rw[n];rfl);(have r:jT q.cap=q.cap:=by unfold jT;rw[aH O]);refine⟨⟨λe s=>?_,λe w=>?_,?_⟩,?_⟩;(·rw[l]at s;cases s);(·rw[l];have:=m e O;show 0<=jT (q.pf e 2)/\jT (q.pf e 2)<=_;unfold jT;split<;>omega);(·rw[l];show 0<=jT q.cap/\jT q.cap<=_;rw[r];omega);·rw[l];exact r);rw[kZ];have b:({gU q x with tk:=λf=>{x.tk f with done:=false}}:aX).a1.n=x.a1.n:=rfl;have d:({gU q x with tk:=λf=>{x.tk f with done:=false}}:aX).hf=some (lP q.cap q.pf):=rfl;have t:({gU q x with tk:=λf=>{x.tk f with done:=false}}:aX).mode=x.mode:=rfl;generalize({gU q x with tk:=λf=>{x.tk f with done:=false}}:aX)=j at*;split;(·(have o:(iq (eb 8 (cP j))).hf=some (lP q.cap q.pf):=by rw[p0,m8,mG];exact d);(have k:(iq (eb 8 (cP j))).a1.n=x.a1.n:=by rw[(oR _).pk.1,(kW 8 _).pk.1,(lh j).1];exact b);obtain⟨g,h⟩:=a _ o k;have p:=i9 dE (iq (eb 8 (cP j)));exact⟨g.sl p,by rw[p.room];exact h,by rw[p.pk.1];exact k⟩);·obtain⟨g,h⟩:=a j d b;exact⟨g,h,b⟩
theorem yt{c:aN}{x:cN}{part:Nat}(a:¬dB c x part<1):1<=dB c x part/\dB c x part<=fL (x.cell part):=by refine⟨O,?_⟩;unfold dB pU at a⊢;(repeat' split at a)<;>(repeat' split)<;>omega
theorem jP{a:a8}(b:kz a=0):wD a=true/\ja a=true/\th a=true/\rV a=true/\tg a=true:=by unfold kz at b;cases c:wD a<;>cases d:ja a<;>cases e:th a<;>cases g:rV a<;>cases f:tg a<;>simp[c,d,e,g,f]at b⊢
theorem jm{c:Nat->Bool}{b d:Nat}(a:gW c b d=true):b<=d/\∀e,e<b->c e=true:=by unfold gW at a;rw[Bool.and_eq_true,decide_eq_true_iff,decide_eq_true_iff]at a;exact⟨a.1,jC.1 a.2⟩
section
variable{h w:ab}{τ:aW}{c:aN}
theorem o6{g:Option ao}{i a:Nat}{j:Nat->Nat->Int}(k:ba h g i a j)(e:e8 h τ w):i3 τ w g i a j:=by refine⟨bx k e.a7 au,λp q l m=>?_⟩;rcases k.2.1 with n|⟨o,f,b,d,_⟩;(·omega);·rw[m]at b;cases b;exact⟨e.one _ d,aP d e.a7.size⟩
theorem OQ(l:I (c.Ok h))(m:Qb c)(b:e8 h τ w)(k:Nat)(j:k<c.pn):I (uC τ w (c.p k)):=by have a:=l.part k j;obtain⟨A,n,o,d,B⟩:=jP (m.part k j);obtain⟨p,q,r,s,t,u⟩:=a.QO;have e:=n;unfold ja at e;rw[Bool.and_eq_true]at e;have v:=jm o;unfold rV at d;simp only[Bool.and_eq_true]at d;obtain⟨⟨⟨C,f⟩,x⟩,D⟩:=d;have y:=jm x;have f:=cK.1 f;refine H ⟨⟨o6 a.QI.o b,o6 a.Qy.o b,o6 a.u9.o b,s,t,u,f,λz g=>?_⟩,o6 a.proc.o b,q,(jm e.2).1,dS a.Qs.o b.a7 au,p,OC (dS a.port.o b.a7 au),r,H λz g=>?_,bx a.act.o b.a7 au,a.cap⟩;(·have:=y.2 z g;unfold td at this;rw[Bool.and_eq_true,cK,cK]at this;omega);·have:=v.2 z g;unfold s9 at this;rw[Bool.and_eq_true]at this;obtain⟨_,i⟩:=this;split at i;(·rw[cK]at i;omega);·have:=eq_of_beq i;omega
def uI(a:mN):List b2:=(List.range a.n).map λb=>⟨a.f b 0,a.f b 1,a.f b 2,a.f b 3,a.f b 4,a.f b 5⟩
def kA(p:dp)(a:Nat):List b2:=if a<p.n then uI (p.p a)else []
theorem rZ(a:mN):(uI a).length=a.n:=by simp[uI]
theorem AA(d:Nat->b2):∀(b e:Nat)(g:ad),(gV ((List.range b).map d))[e]?=some g->e<b*6/\g=ae ah (pw (d (e/6)) (e%6)):=by intro b;induction b with|zero=>intro e g a;simp[gV]at a|succ b j=>intro e g a;rw[List.range_succ,List.map_append,List.map_singleton]at a;(have q:gV (List.map d (List.range b)++[d b])=gV (List.map d (List.range b))++[ae ah (d b).Qp,ae ah (d b).call,ae ah (d b).a,ae ah (d b).b,ae ah (d b).c,ae ah (d b).d]:=by simp[gV]);rw[q]at a;(have k:(gV (List.map d (List.range b))).length=b*6:=by rw[yb];simp);by_cases r:e<b*6;(·rw[List.getElem?_append_left O]at a;obtain⟨s,l⟩:=j e g a;exact⟨O,l⟩);·rw[List.getElem?_append_right O,k]at a;(have f:e-b*6<6:=by refine Nat.lt_of_not_le λi=>?_;rw[List.getElem?_eq_none (by simpa using i)]at a;cases a);obtain⟨p,m⟩:=aJ (e-b*6);rw[m]at a f;have n:e/6=b:=O;have o:e%6=p:=O;rw[n,o];refine⟨O,?_⟩;match p,f,a with|0,_,a=>cases a;rfl|1,_,a=>cases a;rfl|2,_,a=>cases a;rfl|3,_,a=>cases a;rfl|4,_,a=>cases a;rfl|5,_,a=>cases a;rfl
theorem OP{p:dp}(J:p.Ok h)(v:∀f,f<p.n->(p.p f).n<=1000000)(u:e8 h τ w):I (SI w p.a p.n (kA p)):=by refine H ⟨λg d=>aE O,λg d=>?_⟩;have x:kA p g=uI (p.p g):=aH d;rw[x];have b:=(J.u0 g d).o;rcases J.row.2 with y|⟨K,m,L,n,z⟩;(·omega);·refine⟨K,m,(p.p g).a,(p.p g).c,L,aP n u.a7.size,?_,λo=>?_,by rw[rZ];exact v g d,λs q e=>?_⟩;(·have:=z g d 0 O;rw[rZ];have:=aY u.a7 this n;simpa[mN.val]using this);(·refine⟨by rw[yb,rZ],λM j=>?_,?_⟩;(·obtain⟨e,A⟩:=List.getElem?_of_mem j;obtain⟨_,k⟩:=AA _ _ _ _ A;exact⟨_,k⟩);·have B:(p.p g).n≠0:=λC=>o (by unfold uI;rw[C];rfl);rcases b.2.1 with y|⟨D,l,E,i,r⟩;(·omega);·refine .inr ⟨D,l,E,aP i u.a7.size,λe M j=>?_⟩;obtain⟨N,k⟩:=AA _ _ _ _ j;have t:=r (e/6) O (e%6) O;have F:e/6*6+e%6=e:=O;rw[F]at t;rw[k,aY u.a7 t i];have G:e%6<6:=O;generalize e%6=P at*;match P,G with|0,_=>rfl|1,_=>rfl|2,_=>rfl|3,_=>rfl|4,_=>rfl|5,_=>rfl);·unfold uI at q;obtain⟨f,a,rfl⟩:=List.mem_map.1 q;have a:=List.mem_range.1 a;match e with|0=>exact b.2.2 f a 0 O|1=>exact b.2.2 f a 1 O|2=>exact b.2.2 f a 2 O|3=>exact b.2.2 f a 3 O|4=>exact b.2.2 f a 4 O|e+5=>exact b.2.2 f a 5 O
theorem Ig{s:cY}(e:s.Ok h)(d:Nat):(bN s d).Ok h:=by unfold bN;split;(·rename_i a;exact e.QJ d a);·exact⟨⟨by show(0:Nat)<=_;omega,.inl rfl⟩,λf b=>absurd b (Nat.not_lt_zero f)⟩
structure yw(h:ab)(c:aN):Prop where
 ok:I (c.Ok h)
 vd:Qb c
 cap:∀k,k<c.pn->(c.p k).cap<=300
 QV:I (∀k,k<c.cn->∃a,a<c.pn/\c.cf k 2=((a:Nat):Int))
end
structure bY(b c:aX)(m:Nat):Prop where
 part:c.part=b.part
 ev:(∀a,a∈b.ev->a.part=b.part)->∀a,a∈c.ev->a.part=c.part
 pre:∃d,c.ev=b.ev++d
theorem bY.of{x a:aX}{m:Nat}(b:a.ev=x.ev)(k:a.part=x.part):bY x a m:=⟨k,by rw[b,k];exactλc=>c,[],by rw[b,List.append_nil]⟩
theorem bY.refl(a:aX):bY a a 0:=bY.of rfl rfl
theorem bY.trans{x y e:aX}{a b:Nat}(c:bY x y a)(k:bY y e b):bY x e (a+b):=⟨k.part.trans c.part,λf=>k.ev (c.ev f),by obtain⟨l,g⟩:=c.pre;obtain⟨m,d⟩:=k.pre;exact⟨l++m,by rw[d,g,List.append_assoc]⟩⟩
theorem bY.le{x c:aX}{a d:Nat}(b:bY x c a)(e:a<=d):bY x c d:=⟨b.part,b.ev,b.pre⟩
theorem bY.to{c d:aX}{a e:Nat}(b:bY c d a):bY c d e:=⟨b.part,b.ev,b.pre⟩
theorem bY.same{a y:aX}(b:y.ev=a.ev)(c:y.part=a.part):bY a y 0:=bY.of b c
theorem bY.k4{a b c:aX}{d:Nat}(e:bY b c d)(f:b.ev=a.ev)(g:b.part=a.part):bY a c d:=((bY.of (m:=0) f g).trans e).to
theorem bY.QY{c a b:aX}{d:Nat}(e:bY c a d)(f:b.ev=a.ev)(g:b.part=a.part):bY c b d:=(e.trans (bY.of (m:=0) f g)).to
theorem h1(b:aX)(d e f g:Int):bY b (cj b d e f g) 1:=⟨rfl,λi h a=>by have a:h∈b.ev++[⟨b.part,b.gf,d,e,f,g⟩]:=a;rcases List.mem_append.1 a with c|c;(·exact i h c);·rw[List.mem_singleton.1 c];rfl,_,rfl⟩
theorem cR(a:aX)(b:Nat)(c:b2)(d:Int):bY a (bB a b c d) 1:=h1 _ _ _ _ _
theorem r3(b:aX)(c:Nat)(a:Int):bY b (cO b c a) 0:=by unfold cO;dsimp only;split<;>exact bY.of rfl rfl
theorem oh(a:aX)(b:Nat):bY a (c8 a b) 0:=bY.of rfl rfl
theorem AD(a:aX)(b:Nat):bY a (fg a b) 0:=bY.of rfl rfl
theorem tm{f:aX->Nat->aX}(c:∀a b,bY a (f a b) 0)(a:aX):∀b,bY a (de f a b) 0|0=>bY.refl a|b+1=>(tm c a b).trans (c _ _)
theorem AB(a:aX):bY a (ki a) 0:=bY.k4 (tm oh _ _) rfl rfl
theorem tj(b:aX)(a:Bool):bY b (eD b a) 0:=bY.k4 ((tm oh {b with mem:=if a=true then kd b.mem else b.mem,obj:=jA b.obj,hr:=mm b.hr} b.a1.n).trans (tm (f:=λc d=>cO c d c.gf) (λc d=>r3 c d c.gf) _ b.a1.n)) rfl rfl
theorem mO(c:aX)(a d:Nat):bY c (ef c a d) 1:=by unfold ef;dsimp only;have b:=h1 c d (-1-(a:Int)) (c.act a) 0;split;(·exact(b.trans (oh _ _)).to);·split;(·exact((b.trans (oh _ _)).trans (r3 _ _ _)).to);·split;(·exact(b.trans (tj _ _)).to);·split;(·exact(b.trans (AB _)).to);·exact b
theorem iE(b:aX)(c:Nat)(a d e:Int):bY b (cI b c a d e) 1:=bY.QY (h1 b c a d e) rfl rfl
theorem p7(b:aX)(c:Nat)(a:Int)(d:List Int):bY b (eM b c a d) 1:=bY.k4 (iE _ _ _ _ _) rfl rfl
theorem tq(a:aX)(b:Nat)(c:b2):bY a (nx a b c) 2:=(cR a b c 8).trans (mO _ 2 b)
theorem qR(a:aX)(b:Nat)(c:b2)(d:List Int):bY a (ht a b c d) 1:=by unfold ht;split;(·exact cR _ _ _ _);·exact bY.of rfl rfl
theorem uJ(a:aX)(b:Nat)(c:b2)(d:Int):bY a (eH a b c d).2 2:=by unfold eH;split;(·exact(cR _ _ _ _).le O);·split;(·exact(bY.refl _).le O);·exact tq _ _ _
theorem og(a:aX)(b:Nat)(c:b2)(d:Int):bY a (fT a b c d).2 2:=by unfold fT;split;(·exact(bY.refl _).le O);·exact tq _ _ _
theorem yx(a:aX)(d:Nat)(b:b2)(c:List Int)(e:Int):bY a (hT a d b c e).2 1:=by unfold hT;split;(·exact(show bY a {a with mem:=(iQ a.mem b.b c).2} 0 from bY.same rfl rfl).trans (h1 _ _ _ _ _));·split;(·exact cR _ _ _ _);·exact qR _ _ _ _
theorem Ij(d:a8)(a:aX)(b:Nat)(c:b2):bY a (jB d a b c) 1:=by unfold jB;dsimp only;(repeat' split);all_goals first|exact cR _ _ _ _|exact bY.le (bY.k4 (AD _ _) rfl rfl) O|exact bY.QY (cR a b c 0) rfl rfl
theorem B6(b:a8)(a:aX)(c:Nat)(d:b2):bY a (ct b a c d) 1:=by unfold ct;split;(·exact Ij _ _ _ _);split;(·exact cR _ _ _ _);dsimp only;split;(·exact cR _ _ _ _);split;(·exact bY.le (bY.k4 (cR _ _ _ _) rfl rfl) O);split;(·exact bY.le (bY.k4 (cR _ _ _ _) rfl rfl) O);split;(·exact bY.le ((r3 a _ _).trans (cR _ _ _ _)) O);split;(·exact bY.le ((oh a _).trans (cR _ _ _ _)) O);·exact cR _ _ _ _
theorem B7(b:aX)(e:Nat)(d:b2):bY b (cu b e d) 3:=by unfold cu;dsimp only;split;(·exact(cR _ _ _ _).le O);split;(·split;(·exact(og _ _ _ _).le O);·exact bY.le (bY.trans (og b e d _) (bY.k4 (yx _ _ _ _ _) rfl rfl)) O);·have a:=uJ b e d (j7 b.hr d.a);generalize eH b e d (j7 b.hr d.a)=h at*;obtain⟨i,f⟩:=h;cases i with|none=>exact a.le O|some j=>dsimp only;have c:∀g:db,bY f {f with hr:=g} 0:=λg=>bY.same rfl rfl;split;(·exact bY.le (a.trans ((c _).trans (cR _ _ _ _))) O);split;(·exact bY.le (a.trans ((c _).trans (cR _ _ _ _))) O);·exact bY.le (a.trans ((c _).trans (qR _ _ _ _))) O
theorem yz(a:aX)(b:Nat)(c:b2)(d:Int):bY a (gJ a b c d) 1:=by unfold gJ;split;(·exact qR _ _ _ _);·exact cR _ _ _ _
theorem yA(c:Int):∀b a,bY a (ft c b a) b|0,a=>bY.refl a|b+1,a=>by unfold ft;split;(·exact(bY.refl a).le O);·exact bY.le ((iE a _ _ _ _).trans (yA c b _)) O
theorem yB(c:Int)(d:List Int):∀b a,bY a (fu c d b a) b|0,a=>bY.refl a|b+1,a=>by unfold fu;split;(·exact(bY.refl a).le O);·exact bY.le ((p7 a _ _ _).trans (yB c d b _)) O
theorem EZ(b:aX)(c:Nat)(d:b2):bY b (dA b c d) 21:=by have a:∀e:eB,bY b {b with obj:=e} 0:=λe=>bY.same rfl rfl;unfold dA;dsimp only;split;(·exact bY.le ((a _).trans (yz _ _ _ _)) O);split;(·split;(·exact bY.le ((cR b c d 0).trans (iE _ _ _ _ _)) O);·exact bY.le ((a _).trans (cR _ _ _ _)) O);split;(·exact bY.le (((a _).trans (cR _ _ _ _)).trans (yA _ _ _)) an);split;(·exact bY.le ((a _).trans (cR _ _ _ _)) O);·exact(yz _ _ _ _).le O
theorem EY(a:aX)(b:Int):bY a (fC a b) 1:=by unfold fC;dsimp only;split;(·split;(·exact bY.le (bY.k4 (iE _ _ _ _ _) rfl rfl) O);·exact bY.of rfl rfl);·exact(bY.refl a).le O
theorem L6(n:a8)(b:aX)(e:Nat)(a:b2):bY b (eu n b e a) 4:=by unfold eu;dsimp only;split;(·exact(cR _ _ _ _).le O);split;(·have c:=og b e a (eX b.obj a.a (-1));generalize fT b e a (eX b.obj a.a (-1))=j at*;obtain⟨o,f⟩:=j;dsimp only at c⊢;split;(·exact c.le O);·have g:∀h k l,bY f (hT {f with obj:=h} e a k l).2 1:=λh k l=>bY.k4 (yx _ _ _ _ _) rfl rfl;generalize mo f.obj a.a=m at*;split;(·exact bY.le (c.trans ((g _ _ _).trans (EY _ _))) O);·exact bY.le (c.trans (g _ _ _)) O);·have d:=uJ b e a (eX b.obj a.a (-1));generalize eH b e a (eX b.obj a.a (-1))=j at*;obtain⟨m,f⟩:=j;cases m with|none=>exact d.le O|some o=>dsimp only;have i:∀h:eB,bY f {f with obj:=h} 0:=λh=>bY.same rfl rfl;split;(·exact bY.le (d.trans ((cR f e a 0).trans (p7 _ _ _ _))) O);split;(·exact bY.le (d.trans ((i _).trans (cR _ _ _ _))) O);·exact bY.le (d.trans ((i _).trans (qR _ _ _ _))) O
theorem Ih(h:a8)(a:aX)(d:Nat)(b:b2):bY a (eN h a d b) 23:=by unfold eN;dsimp only;split;(·exact(cR _ _ _ _).le O);split;(·exact bY.le (bY.k4 (cR _ _ _ _) rfl rfl) O);split;(·split;(·exact(og _ _ _ _).le O);·exact bY.le ((og a d b _).trans (yx _ _ _ _ _)) O);·have c:=uJ a d b (eX a.obj 0 b.a);generalize eH a d b (eX a.obj 0 b.a)=i at*;obtain⟨j,f⟩:=i;cases j with|none=>exact c.le O|some k=>dsimp only;have e:∀g:eB,bY f {f with obj:=g} 0:=λg=>bY.same rfl rfl;exact bY.le (c.trans (((e _).trans (cR _ _ _ _)).trans (yB _ _ _ _))) an
theorem E2(b:aX)(d:Nat)(e:b2):bY b (eU b d e) 2:=by have a:∀c:iG,bY b {b with mem:=c} 0:=λc=>bY.same rfl rfl;unfold eU;dsimp only;split;(·split;(·exact bY.le ((a _).trans (h1 _ _ _ _ _)) O);·exact bY.le ((a _).trans (tq _ _ _)) O);·split;(·exact(h1 _ _ _ _ _).le O);·exact tq _ _ _
theorem E0(a:aX)(b:Nat)(c:b2):bY a (et a b c) 1:=by unfold et;split;(·exact(cR a b c 0).trans (AB _));split;(·exact(cR a b c 0).trans (tj _ _));split;(·exact cR _ _ _ _);·exact cR _ _ _ _
theorem L5(c:a8)(a:aX)(b:Nat)(d:b2):bY a (dO c a b d) 23:=by unfold dO;(repeat' split);(·exact(B6 _ _ _ _).le O);(·exact(h1 _ _ _ _ _).le O);(·exact(B7 _ _ _).le O);(·exact(EZ _ _ _).le O);(·exact(L6 _ _ _ _).le O);(·exact Ih _ _ _ _);(·exact bY.le ((h1 a _ _ _ _).trans (mO _ 3 b)) O);(·exact(E2 _ _ _).le O);(·exact(h1 _ _ _ _ _).le O);(·exact(E0 _ _ _).le O);·exact bY.le ((h1 a _ _ _ _).trans (mO _ 1 b)) O
theorem nj:∀b a,bY a (dV b a) 0|0,a=>bY.refl a|b+1,a=>by unfold dV;dsimp only;split;(·split;(·exact bY.refl a);·split;(·exact bY.refl a);·exact(((AD a _).trans (mO _ _ _)).trans (nj b _)).to);·exact bY.refl a
theorem tl(c:Int):∀b a,bY a (dP c b a) 0|0,a=>bY.refl a|b+1,a=>by unfold dP;dsimp only;split;(·exact bY.refl a);·split;(·refine bY.to (a:=1+0) (bY.trans ?_ (tl c b _));exact bY.k4 (iE _ _ _ _ _) rfl rfl);·exact bY.of rfl rfl
theorem p9(c:Int):∀b a,bY a (c9 c b a) 0|0,a=>bY.refl a|b+1,a=>by unfold c9;dsimp only;split;(·exact bY.refl a);·split;(·split;(·refine bY.to (a:=1+0) (bY.trans ?_ (p9 c b _));exact bY.k4 (p7 _ _ _ _) rfl rfl);·exact bY.of rfl rfl);·exact bY.of rfl rfl
theorem yy:∀b a,bY a (eb b a) 0|0,a=>bY.refl a|b+1,a=>by unfold eb;exact(((yy b a).trans (tl _ _ _)).trans (p9 _ _ _)).to
theorem qS{f:aX->Nat->aX}(d:∀a b,bY a (f a b) 0):∀(c:List Nat)(a:aX),bY a (c.foldl f a) 0|[],a=>bY.refl a|b::c,a=>((d a b).trans (qS d c (f a b))).to
theorem Ii(a:aX):bY a (iq a) 0:=qS (λb c=>(iE b c _ _ _).to) _ a
theorem zg(a:aX):bY a (cP a) 0:=by have d:=qS (f:=λ(b:aX)(c:Nat)=>cj b c 1 0 0) (λb c=>(h1 b _ _ _ _).to) (dz a.a1 a.gf a.a1.n).2.1 {a with a1:=(dz a.a1 a.gf a.a1.n).1};have e:bY a _ 0:=bY.k4 d rfl rfl;have f:=qS (f:=λ(b:aX)(c:Nat)=>if b.mode=3 then ef b 4 c else b) (λb c=>by show bY b (if b.mode=3 then ef b 4 c else b) 0;split;(·exact(mO _ _ _).to);·exact bY.refl _) (dz a.a1 a.gf a.a1.n).2.2 ((dz a.a1 a.gf a.a1.n).2.1.foldl (λ(b:aX)(c:Nat)=>cj b c 1 0 0) {a with a1:=(dz a.a1 a.gf a.a1.n).1});exact e.trans f
theorem r2(b:a8)(x:aX):bY x (dg b x) 0:=by rw[kZ];have a:bY x ({gU b x with tk:=λk=>{x.tk k with done:=false}}:aX) 0:=bY.of rfl rfl;generalize({gU b x with tk:=λk=>{x.tk k with done:=false}}:aX)=g at*;split;(·have c:=a.trans (zg g);have d:=c.trans (yy 8 _);have e:=d.trans (Ii _);have f:=e.trans (nj dE _);exact f.to);·exact a
theorem E1(b:a8)(a:aX)(c:Int):bY a (eE b a c).2 0:=by unfold eE;dsimp only;generalize(eY a).toNat=d;generalize ik c (fL a)=e;split;(·exact bY.refl a);·split;(·refine bY.to (a:=23+0) (bY.trans ?_ (nj dE _));exact bY.k4 (L5 b _ _ _) rfl rfl);·refine bY.to (a:=0+0) (bY.trans ?_ (nj dE _));exact bY.of rfl rfl
theorem nk:∀c(b:aX),(∃d,b.hf=some d)->∃d,(dV c b).hf=some d|0,b,a=>a|c+1,b,a=>by unfold dV;dsimp only;split;(·split;(·exact a);·split;(·exact a);·exact nk c _ (by rw[lC];exact⟨_,rfl⟩));·exact a
theorem Ik(q:a8)(x:aX):∃a,(dg q x).hf=some a:=by rw[kZ];split;(·exact nk _ _ (by rw[p0,m8,mG];exact⟨_,rfl⟩));·exact⟨_,rfl⟩
theorem vK(d:a8)(x:aX)(j:x.a1.n<=8):(dg d x).ev.length<=x.ev.length+400:=by rw[kZ];have a:({gU d x with tk:=λk=>{x.tk k with done:=false}}:aX).ev=x.ev/\({gU d x with tk:=λk=>{x.tk k with done:=false}}:aX).a1.n=x.a1.n:=⟨rfl,rfl⟩;generalize({gU d x with tk:=λk=>{x.tk k with done:=false}}:aX)=b at*;obtain⟨a,c⟩:=a;split;(·obtain⟨e,f⟩:=lh b;have i:=kW 8 (cP b);have w:=oR (eb 8 (cP b));have l:=jU dE (iq (eb 8 (cP b)));have m:=i.ev;have g:=w.ev;have n:=l.ev;(have h:(eb 8 (cP b)).a1.n=x.a1.n:=by rw[i.pk.1,e,c]);rw[h]at g;rw[a,c]at f;have:dE=20:=rfl;omega);·rw[a];omega
theorem E3(q:a8)(a:aX)(e:Int)(g:∃d,a.hf=some d):(eE q a e).2.ev.length<=a.ev.length+43/\∃d,(eE q a e).2.hf=some d:=by have h:dE=20:=rfl;unfold eE;dsimp only;generalize(eY a).toNat=b;generalize ik e (fL a)=c;split;(·exact⟨Nat.le_add_right _ _,g⟩);·split;(·dsimp only;refine⟨?_,nk _ _ ?_⟩;(·have d:=(jU dE (dO q (cA (cA {a with hf:=some (eA a.a1.n (cS a) b c).2} b {a.tk b with rest:=(a.tk b).rest-c}) b (gT {a.tk b with rest:=(a.tk b).rest-c} ((a.tk b).pos+1))) b ((a.tk b).prog (a.tk b).pos.toNat))).ev;have i:=(qL q (cA (cA {a with hf:=some (eA a.a1.n (cS a) b c).2} b {a.tk b with rest:=(a.tk b).rest-c}) b (gT {a.tk b with rest:=(a.tk b).rest-c} ((a.tk b).pos+1))) b ((a.tk b).prog (a.tk b).pos.toNat)).ev;have f:(cA (cA {a with hf:=some (eA a.a1.n (cS a) b c).2} b {a.tk b with rest:=(a.tk b).rest-c}) b (gT {a.tk b with rest:=(a.tk b).rest-c} ((a.tk b).pos+1))).ev=a.ev:=rfl;rw[f]at i;refine Nat.le_trans d ?_;omega);·exact(qL q _ _ _).sk ⟨_,rfl⟩);·dsimp only;refine⟨?_,nk _ _ ⟨_,rfl⟩⟩;have d:=(jU dE (cA {a with hf:=some (eA a.a1.n (cS a) b c).2} b {a.tk b with rest:=(a.tk b).rest-c})).ev;have f:(cA {a with hf:=some (eA a.a1.n (cS a) b c).2} b {a.tk b with rest:=(a.tk b).rest-c}).ev=a.ev:=rfl;rw[f]at d;exact Nat.le_trans d O
theorem yC{x a:aX}{b:Nat}(c:bY x a b):x.ev.length<=a.ev.length:=by obtain⟨e,d⟩:=c.pre;rw[d,List.length_append];omega
def l3(c:aN)(part:Nat)(en:Int)(x:cN):cN:={x with gv:=jL c x.gv part (dB c x part) (oE (x.cell part)) en,cell:=bE x.cell part (eE (c.p part) (x.cell part) (dB c x part)).2,cy:=(gL c.w c.pn x.cy part (eE (c.p part) (x.cell part) (dB c x part)).1).2}
theorem rl{e:aN}{a:Nat}{b:Int}{c:Nat}{d:cN}(f:dB e d a<1):ds e a b c d=d:=by cases c with|zero=>rfl|succ c=>unfold ds;dsimp only;rw[aH f]
theorem vL{c:aN}{a:Nat}{b:Int}{e:Nat}{d:cN}(f:¬dB c d a<1):ds c a b (e+1) d=ds c a b e (l3 c a b d):=by rw[ds];dsimp only;rw[aE f];rfl
structure OR(c:aN)(a:Nat)(b:Int)(d:cN)(f:Nat)(x:cN):Prop where
 res:ds c a b f x=d
 iv:s6 (x.cell a)
 room:(cS (x.cell a)).room<(f:Int)
 f4:f<=400
 hf:∃e,(x.cell a).hf=some e
theorem L9{c:aN}{part:Nat}{en:Int}{k:cN}{e:Nat}{x:cN}(a:OR c part en k e x)(d:¬dB c x part<1):∃b,e=b+1/\OR c part en k b (l3 c part en x)/\(eE (c.p part) (x.cell part) (dB c x part)).1=dB c x part:=by obtain⟨f,g⟩:=yt d;obtain⟨h,i,l,j,m⟩:=HW (q:=c.p part) a.iv f g;have n:=a.iv.room;have o:=a.room;obtain⟨b,rfl⟩:∃b,e=b+1:=⟨e-1,O⟩;refine⟨b,rfl,⟨?_,?_,?_,by have:=a.f4;omega,?_⟩,h⟩;(·rw[<-vL d];exact a.res);(·show s6 (bE x.cell part _ part);rw[bL];exact i);(·show(cS (bE x.cell part _ part)).room<_;rw[bL,j];omega);·show∃p,(bE x.cell part _ part).hf=some p;rw[bL];exact(E3 _ _ _ a.hf).2
theorem L7{c:aN}{part:Nat}{en:Int}{b:cN}{d:Nat}{x:cN}(e:OR c part en b d x)(a:dB c x part<1):b=x:=by rw[<-e.res];exact rl a
theorem Il{c:aN}{part:Nat}{en:Int}{x:cN}(e:1<=(c.p part).cap/\(c.p part).cap<=300)(a:∀i,i<(x.cell part).a1.n->(c.p part).pf i 2<=9223372036854775807):OR c part en (ds c part en 400 {x with cell:=bE x.cell part (dg (c.p part) (x.cell part)),gv:=fU x.gv}) 400 {x with cell:=bE x.cell part (dg (c.p part) (x.cell part)),gv:=fU x.gv}:=by obtain⟨b,d,f⟩:=Ic (c:=c) (q:=c.p part) (x:=x.cell part) O a;refine⟨rfl,?_,?_,au,?_⟩;(·show s6 (bE x.cell part _ part);rw[bL];exact b);(·show(cS (bE x.cell part _ part)).room<_;rw[bL,d];omega);·show∃g,(bE x.cell part _ part).hf=some g;rw[bL];exact Ik _ _
theorem L8{b:aN}{c:Nat}(d:qQ b c=true):∃e,e<b.pn/\b.cf c 2=((e:Nat):Int):=by unfold qQ OH OJ OI at d;simp only[Bool.and_eq_true,aB]at d;obtain⟨_,_,a,_⟩:=d;unfold o5 at a;split at a;(·rename_i f;unfold OD at f;rw[Bool.and_eq_true,cK]at f;exact⟨(b.cf c 2).toNat,O,O⟩);·cases a
theorem Im{c:aN}(a:(hZ c).1=0):∀d,d<c.cn->∃f,f<c.pn/\c.cf d 2=((f:Nat):Int):=by intro d e;unfold hZ at a;split at a;(·obtain⟨g,a⟩:=jb a;obtain⟨h,a⟩:=jb a;obtain⟨b,a⟩:=jb a;unfold n9 at b;split at b;(·cases b);·have:=ti b d e;unfold EO at this;split at this;(·rename_i i;exact L8 i);·cases this);·cases a
def mP(v:Nat):Prop:=v≠1
def yD(c:ab)(d:aW)(e:ab)(f:aN)(g:rU)(h:cN)(i:ad)(j:aR)(b:ab):Prop:=∃a,j=aG i/\I (aK mP d e a b)/\I (c4 c a b f g h)
section
variable{T:Nat->Prop}{h w w' A:ab}{τ τ' τ1:aW}{c:aN}{L:rU}{x:cN}{k:Nat}
theorem cZ(a:I (aK mP τ w τ1 A))(k:I (aK mP τ1 A τ' w')):I (aK mP τ w τ' w'):=H (a.trans k.o)
theorem eV(a:I (aK mP τ w τ1 A))(k:aa A A w'):I (aK mP τ w τ1 w'):=H (a.trans (aK.below _ k λ_ _=>rfl))
theorem B8(b:I (aK j3 τ w τ' w')):I (aK mP τ w τ' w'):=H (b.mono (λd a=>by rcases a with a|a|a<;>(show d≠1;omega)))
theorem E6(a:I (aK (cG (7*k+2)) τ w τ' w')):I (aK mP τ w τ' w'):=H (a.mono (λb d=>by obtain⟨e,f⟩:=d;show b≠1;omega))
theorem el(a:I (c4 h τ w c L x))(k:aa w w w'):I (c4 h τ w' c L x):=c4.next a k λ_ _=>rfl
theorem qT(e:I (c4 h τ w c L x))(b:c.pn<=8)(a:Int)(d:bu a):ag prog 66 (b7 L.G.gb a) w (yD h τ w c L {x with gv:=dT c x.gv a} (.tuple #[])):=by refine(Hn e.u4 a d).mono ?_;rintro g w'⟨rfl,a,f⟩;exact⟨τ,rfl,B8 a,yh e b a f rfl⟩
theorem Mc(b:I (c4 h τ w c L x))(a:c.pn<=8):ag prog 223 (bo L.G.gb) w (yD h τ w c L {x with gv:=fU x.gv} (.tuple #[])):=by refine(Ho b.u4).mono ?_;rintro f w'⟨rfl,d,e⟩;exact⟨τ,rfl,B8 d,yh b a d e rfl⟩
theorem OW(g:I (c4 h τ w c L x))(d:c.pn<=8)(j:k<c.pn)(a b en:Int)(e:bu a)(f:bu en):ag prog 226 (jJ L.G.gb k a b en) w (yD h τ w c L {x with gv:=jL c x.gv k a b en} (.tuple #[])):=by refine(Ly g.u4 k a b en O e f).mono ?_;rintro m w'⟨τ',rfl,i,l⟩;exact⟨τ',rfl,B8 i,yh g d i l rfl⟩
theorem Iq(e:I (c4 h τ w c L x))(d:c.pn<=8)(a:k<c.pn)(b:(x.cell k).ev.length+400<=1000000000):ag prog 222 (bo (L.cb k)) w (yD h τ w c L {x with cell:=bE x.cell k (dg (c.p k) (x.cell k))} (.tuple #[])):=by refine(DV (e.w9 k a) b).mono ?_;rintro i w'⟨τ',rfl,f,g⟩;exact⟨τ',rfl,E6 f,At e d a f g⟩
theorem Mb(f:I (c4 h τ w c L x))(a:k<c.pn)(b:∃g,(x.cell k).hf=some g)(d:Int)(e:I (fL (x.cell k)=d)):ag prog 225 (bo (L.cb k)) w λi w'=>i=aG (aA d)/\aa w w w':=by obtain⟨j,l⟩:=(f.w9 k a).o;exact xX l b d e
theorem Ma(f:I (c4 h τ w c L x))(a:k<c.pn)(b:∃g,(x.cell k).hf=some g)(d:Int)(e:I (oE (x.cell k)=d)):ag prog 227 (bo (L.cb k)) w λi w'=>i=aG (aA d)/\aa w w w':=by obtain⟨j,l⟩:=(f.w9 k a).o;exact Hh l b d e
theorem OS(e:I (c4 h τ w c L x))(a:k<c.pn)(d:Int)(b:(x.cell k).gf=d):ag prog 144 (bo (L.cb k)) w λf w'=>f=aG (aA d)/\w=w':=by obtain⟨g,i⟩:=(e.w9 k a).o;subst b;exact Ll i
theorem E4(f:I (c4 h τ w c L x))(e:k<c.pn)(d:List pz)(a:I ((x.cell k).ev=d))(b:d.length<=1000000000):ag prog 230 (bo (L.cb k)) w λg w'=>∃v,g=aG v/\w'.ownsRow w.heap.size 85 6 v d.length (dZ d)/\aa w w w':=by obtain⟨i,j⟩:=(f.w9 k e).o;have a:=a.o;subst a;exact BI j b
theorem OT(l:I (c4 h τ w c L x))(g:c.pn<=8)(d:k<c.pn)(i:∃o,(x.cell k).hf=some o)(e:(x.cell k).ev.length+60<=1000000000)(a:Int)(f:bu a)(m:Int)(b:I ((eE (c.p k) (x.cell k) a).1=m)):ag prog 229 (b7 (L.cb k) a) w (yD h τ w c L {x with cell:=bE x.cell k (eE (c.p k) (x.cell k) a).2} (aA m)):=by obtain⟨p,j⟩:=(l.w9 k d).o;have b:=b.o;subst b;refine(LF j a f i e (eE (c.p k) (x.cell k) a).1 (eE (c.p k) (x.cell k) a).2 rfl).mono ?_;rintro q w'⟨τ',rfl,n,j⟩;exact⟨τ',rfl,E6 n,At l g d n j⟩
theorem Ip(g:I (c4 h τ w c L x))(a:Int)(b:bu a)(d:fL (x.cell k)=a)(e:Int)(f:I (dB c x k=e)):ag prog 224 (dU L.lb k a) w λd w'=>d=aG (aA e)/\aa w w w':=Gw g.Qi.ls k a b e (H (by rw[<-f.o,<-d];rfl))
theorem Io(f:I (c4 h τ w c L x))(b:c.pn<=8)(a:Int)(d:bu a):ag prog 228 (dU L.lb k a) w λe w'=>∃g:Int,yD h τ w c L {x with cy:=(gL c.w c.pn x.cy k a).2} (aA g) e w':=by refine(Gx f.Qi.ls k a d (gL c.w c.pn x.cy k a).1 (gL c.w c.pn x.cy k a).2 rfl).mono ?_;rintro e w'⟨rfl,i,j⟩;obtain⟨l,S⟩:=Es f b j i;exact⟨_,τ,rfl,l.mono (λv e=>by show v≠1;omega),S⟩
theorem E5(d:I (c4 h τ w c L x))(a:c.pn<=8):ag prog 62 (bo L.lb) w λb w'=>∃e,yD h τ w c L {x with cy:=λ_=>0} e b w':=by refine(Dd d.Qi.ls).mono ?_;rintro b w'⟨⟨v,rfl⟩,f,g⟩;obtain⟨i,S⟩:=Es d a g f;exact⟨_,τ,rfl,i.mono (λv b=>by show v≠1;omega),S⟩
theorem OV(d:I (c4 h τ w c L x)):ag prog 67 (bo L.lb) w λb w'=>∃a,b=aG a/\I (w'.ownsRow w.heap.size 3 1 a c.pn (cL (λi=>(i0 c.w (x.cy i)).1) c.pn))/\aa w w w':=by refine(Nt d.Qi.ls).mono ?_;rintro b w'⟨a,rfl,_,e,f⟩;exact⟨a,rfl,e,f⟩
theorem OU(d:I (c4 h τ w c L x))(a:Int)(b:x.gv.ps.now=a):ag prog 145 (bo L.G.pb) w λb w'=>b=aG (aA a)/\w=w':=l8 d.u4 a b
theorem AE(j:I (c4 h τ w c L x))(e:k<c.pn)(b:s6 (x.cell k)):0<=fL (x.cell k)/\fL (x.cell k)<=1073741824:=by obtain⟨l,m⟩:=(j.w9 k e).o;unfold fL;by_cases a:eY (x.cell k)<0;(·rw[aH a];exact⟨O,O⟩);·rw[aE a];obtain⟨_,f,d,i,n⟩:=Aw a;have o:=b.has f d;have p:=b.room;have q:=(m.sz f d).rest;(have g:mX (x.cell k).a1.n (cS (x.cell k)).has (eY (x.cell k))=(cS (x.cell k)).has f:=by unfold mX;rw[i,aH ⟨O,O⟩,aB]);rw[g,i,aB];unfold rD ik;(repeat' split)<;>omega
/-! a flush -/
def SL(h:ab)(τ:aW)(w:ab)(c:aN)(L:rU)(x:cN)(b:List iN)(e:aR)(w':ab):Prop:=∃τ' d a,e=aG d/\I (aK mP τ w τ' w')/\I (c4 h τ' w' c L x)/\a.map Prod.fst=b/\I (qZ τ' w' a)/\I (w'.ownsRow 0 146 3 d a.length (gN a))
theorem Ir(o:yw h c)(q:I (c4 h τ w c L x))(r:k<c.pn)(a:Int)(s:Option ao)(f:Nat)(g:L.vp=ai s c.pn f)(b:Nat->db)(i:List iN)(t:I (i2 c c.pn k a (λk=>(x.cell k).hr)=(b,i))):ag prog 143 #[.agg c,ae ah k,ae ah a,ai s c.pn f] w (SL h τ w c L {x with cell:=λk=>{x.cell k with hr:=b k}} i):=by have d:=o.vd.pn.2;have z:=q.o;have j:aK n5 τ w (P9 τ) w:=OA;have l:¬n5 1:=an;have m:¬n5 60:=an;have B:=z.Qm;rw[g]at B;refine(Er o.ok (z.hF.upd j l) o.vd.cn o.QV k r a s f (B.upd j m) (H λp e=>dJ (P8 q p e) j (by unfold n5;omega) l) d b i t).mono ?_;rintro u w'⟨τ',v,E,rfl,C,F,u,G,y⟩;have D:=Eu d C.o;have n:=LV d C.o;refine⟨Jk τ w τ',v,E,rfl,n.mono (λv g=>by obtain⟨p,e,u⟩:=g;show v≠1;omega),HT q d n (H λp e=>dJ (F.o p e) D O an),u,G.upd D an,y.1⟩
end
theorem Qc(a:a8)(b:aX)(c:Int):(eE a b c).2.a1.n=b.a1.n:=by unfold eE;dsimp only;split;(·rfl);·split;(·exact((Ax a _ _ _).trans (i9 _ _)).pk.1);·exact(i9 dE _).pk.1
theorem Md(c:a8)(b:aX):(dg c b).a1.n=b.a1.n:=by rw[kZ];have a:({gU c b with tk:=λd=>{b.tk d with done:=false}}:aX).a1.n=b.a1.n:=rfl;generalize({gU c b with tk:=λd=>{b.tk d with done:=false}}:aX)=e at*;split;(·rw[(i9 dE _).pk.1,(oR _).pk.1,(kW 8 _).pk.1,(lh _).1];exact a);·exact a
theorem qb{f:aN}{b:fK}{a:Nat}(g:cx b.fr 1 1000000000=true)(c:∀i,i<b.wn->mM f b i=true)(e:a<b.wn):0<=b.wf a 0/\b.wf a 0<(f.pn:Int)/\bZ (λa=>b.wf a 1) a+bZ (λa=>b.wf a 2) a<=b.wf a 1/\0<=b.wf a 1/\b.wf a 1<=1000000000/\1<=b.wf a 2/\b.wf a 1+b.wf a 2<=b.fr:=by have d:=c a e;have h:=EM g a λi j=>c i O;have k:=cK.1 g;unfold mM uH at d;simp only[Bool.and_eq_true,cK]at d;omega
structure k5(c:aN)(x:cN)(a:Nat):Prop where
 seen:∀k,k<c.pn->x.seen k=(x.cell k).ev.length
 QE:∀k,k<c.pn->(x.cell k).ev.length<=a
 n:∀k,k<c.pn->(x.cell k).a1.n=(c.p k).pn
 ev:x.ev.length<=a
 ms:x.ms.length<=a
 bd:x.bd.length<=a
 sh:x.c7.length<=a
 md:x.c6.length<=a
 cr:x.fi.length<=a
theorem k5.le{c:aN}{x:cN}{d e:Nat}(a:k5 c x d)(k:d<=e):k5 c x e:=⟨a.seen,λk b=>by have:=a.QE k b;omega,a.n,by have:=a.ev;omega,by have:=a.ms;omega,by have:=a.bd;omega,by have:=a.sh;omega,by have:=a.md;omega,by have:=a.cr;omega⟩
theorem AG(b:a8)(x:aX)(e:Int):x.ev.length<=(eE b x e).2.ev.length/\(eE b x e).2.ev.length<=x.ev.length+43:=by refine⟨yC (E1 b x e),?_⟩;by_cases g:∃d,x.hf=some d;(·exact(E3 b x e g).1);·have h:dE=20:=rfl;unfold eE;dsimp only;generalize(eY x).toNat=k;generalize ik e (fL x)=a;split;(·exact Nat.le_add_right _ _);·split;(·dsimp only;have d:=(jU dE (dO b (cA (cA {x with hf:=some (eA x.a1.n (cS x) k a).2} k {x.tk k with rest:=(x.tk k).rest-a}) k (gT {x.tk k with rest:=(x.tk k).rest-a} ((x.tk k).pos+1))) k ((x.tk k).prog (x.tk k).pos.toNat))).ev;have c:=(qL b (cA (cA {x with hf:=some (eA x.a1.n (cS x) k a).2} k {x.tk k with rest:=(x.tk k).rest-a}) k (gT {x.tk k with rest:=(x.tk k).rest-a} ((x.tk k).pos+1))) k ((x.tk k).prog (x.tk k).pos.toNat)).ev;have f:(cA (cA {x with hf:=some (eA x.a1.n (cS x) k a).2} k {x.tk k with rest:=(x.tk k).rest-a}) k (gT {x.tk k with rest:=(x.tk k).rest-a} ((x.tk k).pos+1))).ev=x.ev:=rfl;rw[f]at c;refine Nat.le_trans d ?_;omega);·dsimp only;have d:=(jU dE (cA {x with hf:=some (eA x.a1.n (cS x) k a).2} k {x.tk k with rest:=(x.tk k).rest-a})).ev;have f:(cA {x with hf:=some (eA x.a1.n (cS x) k a).2} k {x.tk k with rest:=(x.tk k).rest-a}).ev=x.ev:=rfl;rw[f]at d;exact Nat.le_trans d O
structure zh(a:Nat)(b c:cN):Prop where
 cell:∀d,d≠a->c.cell d=b.cell d
 n:(c.cell a).a1.n=(b.cell a).a1.n
 seen:c.seen=b.seen
 ev:c.ev=b.ev
 ms:c.ms=b.ms
 bd:c.bd=b.bd
 sh:c.c7=b.c7
 md:c.c6=b.c6
 cr:c.fi=b.fi
 late:c.late=b.late
theorem zh.refl(a:Nat)(b:cN):zh a b b:=⟨λ_ _=>rfl,rfl,rfl,rfl,rfl,rfl,rfl,rfl,rfl,rfl⟩
theorem zh.trans{part:Nat}{x y c:cN}(a:zh part x y)(k:zh part y c):zh part x c:=⟨λj b=>(k.cell j b).trans (a.cell j b),k.n.trans a.n,k.seen.trans a.seen,k.ev.trans a.ev,k.ms.trans a.ms,k.bd.trans a.bd,k.sh.trans a.sh,k.md.trans a.md,k.cr.trans a.cr,k.late.trans a.late⟩
theorem Me{e:aN}{a:Nat}{b:Int}(c:cN):zh a c (l3 e a b c):=⟨λf d=>bK _ _ _ _ d,by show(bE c.cell a _ a).a1.n=_;rw[bL];exact Qc _ _ _,rfl,rfl,rfl,rfl,rfl,rfl,rfl,rfl⟩
theorem qd{c:aN}{part:Nat}{en:Int}:∀(a:Nat)(x:cN),zh part x (ds c part en a x)/\(x.cell part).ev.length<=((ds c part en a x).cell part).ev.length/\((ds c part en a x).cell part).ev.length<=(x.cell part).ev.length+43*a|0,x=>⟨zh.refl _ _,au,Nat.le_add_right _ _⟩|a+1,x=>by by_cases d:dB c x part<1;(·rw[rl d];exact⟨zh.refl _ _,au,Nat.le_add_right _ _⟩);·rw[vL d];obtain⟨b,e,f⟩:=qd a (l3 c part en x);obtain⟨g,h⟩:=AG (c.p part) (x.cell part) (dB c x part);(have i:((l3 c part en x).cell part).ev.length=(eE (c.p part) (x.cell part) (dB c x part)).2.ev.length:=by show(bE x.cell part _ part).ev.length=_;rw[bL]);exact⟨(Me x).trans b,O,O⟩
theorem AF{c:aN}{part:Nat}{en:Int}{a:cN}{s:Nat}(i:part<c.pn)(n:(c.p part).pn<=8)(f:k5 c a s):k5 c (fp c part en a) (s+17600)/\(fp c part en a).bd=a.bd/\(fp c part en a).ms=a.ms:=by obtain⟨g,o,p⟩:=qd (c:=c) (part:=part) (en:=en) 400 {a with cell:=bE a.cell part (dg (c.p part) (a.cell part)),gv:=fU a.gv};have k:({a with cell:=bE a.cell part (dg (c.p part) (a.cell part)),gv:=fU a.gv}:cN).cell part=dg (c.p part) (a.cell part):=bL _ _ _;rw[k]at o p;have l:=g.n;rw[k,Md]at l;have t:=vK (c.p part) (a.cell part) (by rw[f.n part i];exact n);have u:=yC (r2 (c.p part) (a.cell part));have v:=f.QE part i;unfold fp;dsimp only;generalize ds c part en 400 {a with cell:=bE a.cell part (dg (c.p part) (a.cell part)),gv:=fU a.gv}=e at*;have j:∀b,b≠part->e.cell b=a.cell b:=λb d=>(g.cell b d).trans (bK _ _ _ _ d);have m:e.seen=a.seen:=g.seen;refine⟨⟨λb d=>?_,λb d=>?_,λb d=>?_,?_,?_,?_,?_,?_,?_⟩,g.bd,g.ms⟩;(·show bE e.seen part _ b=_;by_cases h:b=part;(·subst h;rw[bL]);·rw[bK _ _ _ _ h,m,j b h];exact f.seen b d);(·show(e.cell b).ev.length<=_;by_cases h:b=part;(·subst h;omega);·rw[j b h];have:=f.QE b d;omega);(·show(e.cell b).a1.n=_;by_cases h:b=part;(·subst h;rw[l];exact f.n b d);·rw[j b h];exact f.n b d);(·show(e.ev++_).length<=_;have q:e.ev=a.ev:=g.ev;(have r:e.seen part=(a.cell part).ev.length:=by rw[m];exact f.seen part i);rw[List.length_append,List.length_drop,q,r];have:=f.ev;omega);(·show e.ms.length<=_;rw[show e.ms=a.ms from g.ms];have:=f.ms;omega);(·show e.bd.length<=_;rw[show e.bd=a.bd from g.bd];have:=f.bd;omega);(·show e.c7.length<=_;rw[show e.c7=a.c7 from g.sh];have:=f.sh;omega);(·show e.c6.length<=_;rw[show e.c6=a.c6 from g.md];have:=f.md;omega);·show e.fi.length<=_;rw[show e.fi=a.fi from g.cr];have:=f.cr;omega
theorem k1{d:aN}{b:cN}{e:Nat}(a:k5 d b e)(f:hI)(g h:Int):k5 d (fv {b with gv:=f} g h) (e+1):=⟨a.seen,λi c=>by have:=a.QE i c;exact Nat.le_succ_of_le this,a.n,Nat.le_succ_of_le a.ev,Nat.le_succ_of_le a.ms,by show(b.bd++_).length<=_;have:=a.bd;simp;exact this,Nat.le_succ_of_le a.sh,Nat.le_succ_of_le a.md,Nat.le_succ_of_le a.cr⟩
theorem It{c:aN}{a:Nat}{d:cN}{e:Nat}(f:k5 c d e):k5 c (fx c a d) (e+4096):=by have b:=f.le (show e<=e+4096 by omega);refine⟨f.seen,b.QE,f.n,b.ev,?_,b.bd,b.sh,b.md,b.cr⟩;show(d.ms++(i2 c c.pn a (d.cell a).gf λg=>(d.cell g).hr).2).length<=_;(have h:(i2 c c.pn a (d.cell a).gf λg=>(d.cell g).hr).2.length<=4096:=by show(List.take 4096 _).length<=4096;rw[List.length_take];omega);have:=f.ms;rw[List.length_append];omega
theorem Mf{d:aN}{a:Nat}{c e:Int}{b:Bool}{f:cN}{i:Nat}(g:a<d.pn)(h:(d.p a).pn<=8)(j:k5 d f i):k5 d (ib d a c e b f) (i+30000):=by unfold ib;cases b with|true=>exact(k1 (k1 j _ _ _) _ _ _).le O|false=>exact(It (k1 (AF g h (k1 j (dT d f.gv c) c a)).1 _ _ _)).le O
theorem o7{a:aN}{p:fS}{x:cN}{f:Nat}(d:∀b,b<(a.m p.mode.toNat).wn->((a.m p.mode.toNat).wf b 0).toNat<a.pn)(e:∀g,g<a.pn->(a.p g).pn<=8)(h:k5 a x f):∀b,b<=(a.m p.mode.toNat).wn->k5 a (fw a p x b) (f+30000*b)|0,_=>h|b+1,i=>by have c:=d b O;exact(Mf c (e _ c) (o7 d e h b O)).le O
theorem Is{b:aN}{p:fS}{f:ju}{x:cN}{e:Nat}(g:∀i,i<(b.m p.mode.toNat).wn->((b.m p.mode.toNat).wf i 0).toNat<b.pn)(h:∀j,j<b.pn->(b.p j).pn<=8)(k:(b.m p.mode.toNat).wn<=16)(c:k5 b x e):k5 b (eC b p f x) (e+500000):=by have l:=o7 (x:={x with gv:={x.gv with first:=f.choice,n:=0,hq:=ep f},cy:=λ_=>0}) g h ⟨c.seen,c.QE,c.n,c.ev,c.ms,c.bd,c.sh,c.md,c.cr⟩ (b.m p.mode.toNat).wn au;have d:=l.le (show _<=e+499999 by omega);unfold eC;dsimp only;have m:=d.sh;have n:=d.md;have o:=d.cr;have a:=d.le (show _<=e+500000 by omega);exact⟨a.seen,a.QE,a.n,a.ev,a.ms,a.bd,by rw[List.length_append];simp;omega,by rw[List.length_append];simp;omega,by rw[List.length_append];simp;omega⟩
theorem E7(f:a8)(b:Int)(d:Nat->List b2):(i7 f b d).ev=[]/\(i7 f b d).a1.n=(xM f.pf f.pn).n:=by unfold i7;(have j:∀(a:aX)(c:Nat),(cO a c 0).ev=a.ev:=λa c=>by unfold cO;dsimp only;split<;>rfl);(have k:∀e(a:aX),(de (λa c=>cO a c 0) a e).ev=a.ev/\(de (λa c=>cO a c 0) a e).a1.n=a.a1.n:=by intro e;induction e with|zero=>intro a;exact⟨rfl,rfl⟩|succ e g=>intro a;obtain⟨h,i⟩:=g a;exact⟨(j _ _).trans h,(jM _ _ _).pk.1.trans i⟩);exact k _ _
def jr(s:cY):List ju:=(List.range s.fn).map λa=>⟨s.ff a 0,s.ff a 1,s.ff a 2,s.ff a 3⟩
def e0(c:aN)(s:cY):cN:=⟨λa=>i7 (c.p a) a (kA (bN s a)),λ_=>0,⟨jo c.w,0,0,0,0,0⟩,λ_=>0,[],[],[],[],[],[],0⟩
def yE(c:aN)(a:cY):cN:=dy c ((eh c ⟨0,0,0,0⟩ (jr a)).zip (jr a)) (e0 c a)
def c5(c:aN)(s:cY):cN:=if gO c s=0 then yE c s else e0 c s
structure E8 where(ve vm vb vr:ad)(ci cs cc mt:Int)(vs vo vk:ad)
def AH(a:E8)(b:cN):Array ad:=#[a.ve,a.vm,a.vb,a.vr,ae ah a.ci,ae ah a.cs,ae ah a.cc,ae ah a.mt,a.vs,a.vo,a.vk,ae ah b.late]
structure js(w:ab)(c:E8)(a:cN):Prop where
 ev:w.ownsRow 0 85 6 c.ve a.ev.length (dZ a.ev)
 ms:∃d:ky,d.map Prod.fst=a.ms/\w.ownsRow 0 146 3 c.vm d.length (gN d)/\∀e,e∈d->hD w e.2 e.1.data
 bd:w.ownsRow 0 68 3 c.vb a.bd.length (rj a.bd)
 sh:w.ownsRow 0 3 1 c.vs a.c7.length (gh a.c7)
 md:w.ownsRow 0 3 1 c.vo a.c6.length (gh a.c6)
 cr:∃b:List ad,b.length=a.fi.length/\w.ownsRow 0 29 1 c.vk a.fi.length b/\∀(k:Nat)(u:ad)(m:List Int),b[k]?=some u->a.fi[k]?=some m->w.ownsRow 0 3 1 u m.length (gh m)
 len:a.ev.length<=500000000/\a.ms.length<=500000000/\a.bd.length<=500000000
theorem js.next{w w':ab}{m:E8}{x:cN}(n:I (js w m x))(c:aa w w w'):I (js w' m x):=by have d:=n.o;obtain⟨o,q,e,f⟩:=d.ms;obtain⟨g,h,j,k⟩:=d.cr;exact H ⟨bg d.ev c,⟨o,q,bg e c,λp l=>(f p l).next c⟩,bg d.bd c,bg d.sh c,bg d.md c,⟨g,h,bg j c,λi u r a b=>bg (k i u r a b) c⟩,d.len⟩
structure hL(f:ab)(a:aW)(w:ab)(d:aN)(b:rU)(c:cN):Prop where
 hF:e8 f a w
 box:bW 71 a w b.xb (jq d b c) 101
 hS:bX 72 a w 85 6 b.ve c.ev.length (dZ c.ev)
 Qd:Av a w b.vm c.ms
 Qg:bX 74 a w 68 3 b.vb c.bd.length (rj c.bd)
 shr:bX 75 a w 3 1 b.vs c.c7.length (gh c.c7)
 w0:bX 76 a w 3 1 b.vo c.c6.length (gh c.c6)
 Qf:yi a w b.vk c.fi
 u4:I (py f a w d b.G c.gv)
 Qi:I (hx f a w d b.lb b.lv b.la c.cy)
 cls:bX 60 a w 176 1 b.vl d.pn (b6 b.cb d.pn)
 Qm:bX 60 a w 179 1 b.vp d.pn (b6 b.pb d.pn)
 pg:bX 78 a w 3 1 b.vn d.pn (cL (λe=>((c.seen e:Nat):Int)) d.pn)
 w9:∀e,e<d.pn->I (kU (7*e+2) a w (b.cb e) {d.p e with gp:=b.pb e} (c.cell e))
section
variable{h w w':ab}{τ τ':aW}{c:aN}{L:rU}{x:cN}
theorem hL.next(g:I (hL h τ w c L x))(d:aa w w w')(e:∀b,b<w.heap.size->τ' b=τ b):I (hL h τ' w' c L x):=by have a:=g.o;have u:=aK.below (T:=λ_=>False) d e;exact H ⟨a.hF.upd u id,a.box.upd u id,a.hS.upd u id,a.Qd.upd u id id,a.Qg.upd u id,a.shr.upd u id,a.w0.upd u id,a.Qf.upd u id id,a.u4.upd u id id id,hx.upd a.Qi a.hF.one u id id,a.cls.upd u id,a.Qm.upd u id,a.pg.upd u id,λe f=>h4 (a.w9 e f) u (λ_ _=>id) id⟩
theorem MT(b:I (c4 h τ w c L x)):I (hL h τ w c L x):=by have a:=b.o;exact H ⟨a.hF,a.box,a.hS,a.Qd,a.Qg,a.shr,a.w0,a.Qf,a.u4.1,a.Qi,a.cls,a.Qm,a.pg,a.w9⟩
theorem hL.QZ(B:I (hL h τ w c L x))(C:c.pn<=8){d e:Nat}{fi dr:Int}(j:τ d=63/\τ e=63)(l:ar w d (bV fi) 3)(m:ar w e #[ae ah 0] 3)(n:d≠e)(o:bu dr)(A:ax (λp=>p=L.G.gb) w w')(D:ar w' L.G.gb (h6 c {L.G with cv:=.func (.func 139) #[] (c3 d e)} {x.gv with first:=fi,n:=0,hq:=dr}) 107):I (aK mP τ w τ w')/\I (c4 h τ w' c {L with G:={L.G with cv:=.func (.func 139) #[] (c3 d e)}} {x with gv:={x.gv with first:=fi,n:=0,hq:=dr}}):=by have b:=B.o;have f:=b.u4.o;have a:aK (λv=>v=61) τ w τ w':=aK.of (A.mono (λp q=>by show τ p=61;rw[q];exact f.box.1)) λ_ _=>rfl;obtain⟨r,s,t⟩:=f.tp;obtain⟨E,F,G⟩:=f.lt;have J:=A.size;have u:=pO f.pl a.1 (λi g=>by refine Nat.le_of_not_lt λk=>?_;have g:τ i=61:=g;rw[f.t0 i k]at g;cases g) (by rw[r];decide) (by rw[s];decide) (by rw[t];decide);exact⟨a.mono (λv K=>by show v≠1;omega),⟨b.hF.upd a an,b.box.upd a an,b.hS.upd a an,b.Qd.upd a an an,b.Qg.upd a an,b.shr.upd a an,b.w0.upd a an,b.Qf.upd a an an,⟨⟨⟨f.box.1,D⟩,u,f.tp,⟨by show L.G.pb<_;omega,by show L.G.mb<_;omega,by show L.G.rb<_;omega⟩,f.t0,f.QB,o⟩,d,e,rfl,bW.upd ⟨j.1,l⟩ a an,bW.upd ⟨j.2,m⟩ a an,n⟩,hx.upd b.Qi b.hF.one a an an,b.cls.upd a an,b.Qm.upd a an,b.pg.upd a an,λM y=>h4 (b.w9 M y) a (λv z K=>by obtain⟨N,P⟩:=z;omega) an⟩⟩
end
def lE(τ:aW)(b t:Nat):aW:=λa=>if a<b then τ a else t
theorem lF{τ:aW}{b t a:Nat}(c:a<b):lE τ b t a=τ a:=aH c
theorem jG{τ:aW}{a t b:Nat}(c:a<=b):lE τ a t b=t:=aE O
def oj(a:aN)(b c d e:ad)(f:Nat):Array ad:=#[ai none 0 0,ai none 0 0,ai none 0 0,ai none 0 0,ae ah 0,ae ah 0,ae ah 0,ae ah 0,ai none 0 0,ai none 0 0,ai none 0 0,ae ah 0,b,ai a.pa a.pn a.pc,ai a.ca a.cn a.cc,ai a.ma a.mn a.mc,ai a.w.la a.w.ln a.w.lc,ai a.w.na a.w.nn a.w.nc,ae ah a.w.sw,ae ah a.w.id,ae ah a.w.ch,ae ah a.w.qu,ae ah a.w.sl,ae ah a.w.pp,ai a.da a.dn a.dc,ai a.ua a.un a.uc,c,d,e,aV (av f)]
section
variable{T:Nat->Prop}{h w w':ab}{τ τ':aW}{c:aN}{lb:Nat}{lv:ad}{A:Nat->Nat}{D:ad}
def ts(τ:aW)(w:ab):Prop:=∀a,a<w.heap.size->τ a=1\/58<=τ a
theorem ts.u0(e:ts τ w)(t:Nat)(a:58<=t):ts (lE τ w.heap.size t) w':=λb _=>by by_cases d:b<w.heap.size;(·rw[lF d];exact e b d);·rw[jG O];exact .inr a
theorem j2(b:e8 h τ w)(d:aa w w w')(t:Nat):e8 h (lE τ w.heap.size t) w':=b.upd (aK.below (T:=λ_=>False) d λe a=>lF a) id
theorem Mk{a e f:ab}{g:bc}{n:Int}{d:Nat->Int}{o p:Nat}{q:ad}{r:Nat->Nat}{i:Nat->Int}(t:I (kx e f g n d o p q r i))(s:aa a a e)(j:I (ba a g.la g.ln 2 g.lf)):I (kx a f g n d o p q r i):=by have b:=t.o;have k:=s.size;exact H ⟨s.trans (b.a7.mono k),Nat.le_trans k b.hl,λu l=>Nat.le_trans k (b.ha u l),λv m=>Nat.le_trans k (b.hv v m),b.lm,j,b.QH,b.hn,b.QA,b.qI⟩
theorem AI(g:e8 h τ w)(a:I (ba h c.w.la c.w.ln 2 c.w.lf))(f:I (kx w w' c.w (Dg c) (xp c) c.pn lb lv A λ_=>0)):I (hx h (lE τ w.heap.size 59) w' c lb lv A λ_=>0):=by have b:=f.o;exact H ⟨Mk f g.a7 a,jG b.hl,λi d=>jG (b.ha i d),λj e=>jG (b.hv j e)⟩
theorem qV(b:I (hx h τ w c lb lv A λ_=>0))(d:e8 h τ w)(e:aa w w w')(t:Nat):I (hx h (lE τ w.heap.size t) w' c lb lv A λ_=>0):=hx.upd b d.one (aK.below (T:=λ_=>False) e λf a=>lF a) id id
theorem qU{e a f:Nat}{g:aq}{i:ad}{b:List ad}(j:bX e τ w g a i f b)(k:aa w w w')(t:Nat):bX e (lE τ w.heap.size t) w' g a i f b:=j.upd (aK.below (T:=λ_=>False) k λl d=>lF d) id
theorem Fy{e b:Nat}{a:Array ad}{f:aq}(g:bW e τ w b a f)(i:aa w w w')(t:Nat):bW e (lE τ w.heap.size t) w' b a f:=g.upd (aK.below (T:=λ_=>False) i λb d=>lF d) id
theorem SP(a:Nat):(madeCells (Value.int ah 0).cells (a*1))=(cL (λ_=>0) a).toArray:=by apply Array.ext';apply List.ext_getElem?;intro b;by_cases e:b<a;(·have d:b%1=0:=Nat.mod_one b;simp[madeCells,Value.cells,e,d,cL]);·simp[madeCells,Value.cells,e,cL]
theorem Fc(w:ab)(a:Nat)(i:a<=1000):(Instr.makeSlice 29 (aA a) (aA a)).run prog w=.ok (ai (av w) a a) (w.alloc (aj (cL (λ_=>0) a).toArray 3)):=by obtain⟨f,g,d,b,e⟩:=info_parts hQ;have:=run_makeSlice (P:=prog) w 29 3 f (aA 0) underlying29 g d ah ah a a O (Int.le_refl _) (by rw[b];simp;omega) (by rw[e];omega) O;rw[b]at this;simp only[aB]at this;rw[SP]at this;exact this
theorem AJ(τ:aW)(w:ab)(a:Nat)(d:a<=1000):bX 78 (lE τ w.heap.size 78) (w.alloc (aj (cL (λ_=>0) a).toArray 3)) 3 1 (ai (av w) a a) a (cL (λ_=>0) a):=⟨⟨by rw[jR,Nat.mul_one],.inr ⟨w.heap.size,a,_,rfl,aM _,heap_alloc_new w _,au,by unfold maxLen;omega,by simp[jR],by simp[jR,List.take_of_length_le]⟩⟩,λe b=>by cases b;exact jG au⟩
structure Qj(h:ab)(c:aN)(a:Nat)(w:ab)(τ:aW)(lb:Nat)(lv:ad)(A:Nat->Nat)(D:ad):Prop where
 hF:e8 h τ w
 box:bW 71 τ w a (oj c (aV none) (ai none 0 0) (ai none 0 0) D lb) 101
 Qi:I (hx h τ w c lb lv A λ_=>0)
 pg:bX 78 τ w 3 1 D c.pn (cL (λ_=>0) c.pn)
 fr:ts τ w
theorem Jo(d:e8 h τ w)(e:I (hx h τ w c lb lv A λ_=>0))(f:bX 78 τ w 3 1 D c.pn (cL (λ_=>0) c.pn))(g:ts τ w){a:Array ad}(i:a=oj c (aV none) (ai none 0 0) (ai none 0 0) D lb):I (Qj h c w.heap.size (w.alloc (aj a 101)) (lE τ w.heap.size 71) lb lv A D):=by subst i;have b:=(al w w).alloc au (aj (oj c (aV none) (ai none 0 0) (ai none 0 0) D lb) 101);exact H ⟨j2 d b 71,⟨jG au,ar.new _ _ _⟩,qV e d b 71,qU f b 71,ts.u0 g 71 an⟩
structure R7(h:ab)(c:aN)(a:Nat)(w:ab)(τ:aW)(lb:Nat)(lv:ad)(A:Nat->Nat)(D:ad)(b:p2):Prop where
 hF:e8 h τ w
 box:bW 71 τ w a (oj c (aV (av b.gb)) (ai none 0 0) (ai none 0 0) D lb) 101
 Qi:I (hx h τ w c lb lv A λ_=>0)
 pg:bX 78 τ w 3 1 D c.pn (cL (λ_=>0) c.pn)
 u4:I (py h τ w c b ⟨jo c.w,0,0,0,0,0⟩)
 fr:ts τ w
theorem Qe{g d e b:Nat}{a:ab}(M:I (Qj h c g w τ lb lv A D))(m:aa w w a)(v:w<=d)(x:w<=e)(y:w<=b)(t:I (hU h a d e b c.pn c.w (jo c.w)))(n:c.w.ln<=100/\c.w.nn<=100){o:Array ad}(N:o=h6 c ⟨a.heap.size,d,e,b,.nilFunc⟩ ⟨jo c.w,0,0,0,0,0⟩):I (R7 h c g ((a.alloc (aj o 107)).setCell (ak g 12) (aV (av a))) (lE (lE τ w.heap.size 62) a.heap.size 61) lb lv A D ⟨a.heap.size,d,e,b,.nilFunc⟩):=by subst N;have i:=M.o;have P:=m.size;have f:=(al a a).alloc au (aj (h6 c ⟨a.heap.size,d,e,b,.nilFunc⟩ ⟨jo c.w,0,0,0,0,0⟩) 107);have p:=t.box.lt;have q:=t.met.box.lt;have r:=(t.met.own.lt b rfl).2;have Q:=i.box.2.lt;have z:=jG (τ:=τ) (t:=62) v;have B:=jG (τ:=τ) (t:=62) x;have C:=jG (τ:=τ) (t:=62) y;have k:=j2 (j2 i.hF m 62) f 61;have l:=Fy (Fy i.box m 62) f 61;have E:=qV (qV i.Qi i.hF m 62) (j2 i.hF m 62) f 61;have F:=qU (qU i.pg m 62) f 61;have G:=ts.u0 (w':=a.alloc (aj (h6 c ⟨a.heap.size,d,e,b,.nilFunc⟩ ⟨jo c.w,0,0,0,0,0⟩) 107)) (ts.u0 (w':=a) i.fr 62 an) 61 an;have J:=fD t f;have K:py h (lE (lE τ w.heap.size 62) a.heap.size 61) (a.alloc (aj (h6 c ⟨a.heap.size,d,e,b,.nilFunc⟩ ⟨jo c.w,0,0,0,0,0⟩) 107)) c ⟨a.heap.size,d,e,b,.nilFunc⟩ ⟨jo c.w,0,0,0,0,0⟩:=⟨⟨jG au,ar.new _ _ _⟩,J,⟨(lF p).trans z,(lF q).trans B,(lF r).trans C⟩,⟨by rw[aF];exact Nat.lt_succ_of_lt p,by rw[aF];exact Nat.lt_succ_of_lt q,by rw[aF];exact Nat.lt_succ_of_lt r⟩,k.one,n,⟨by show-_<=(0:Int);omega,by show(0:Int)<=_;omega⟩⟩;have R:(a.alloc (aj (h6 c ⟨a.heap.size,d,e,b,.nilFunc⟩ ⟨jo c.w,0,0,0,0,0⟩) 107)).heap.size=a.heap.size+1:=aF _ _;generalize a.alloc (aj (h6 c ⟨a.heap.size,d,e,b,.nilFunc⟩ ⟨jo c.w,0,0,0,0,0⟩) 107)=s at*;generalize lE (lE τ w.heap.size 62) a.heap.size 61=j at*;have u:aK (λS=>S=71) j s j (s.setCell (ak g 12) (aV (av a))):=aK.of (ax.set _ _ _ l.1) λ_ _=>rfl;exact H ⟨k.upd u an,⟨l.1,l.2.set 12 _⟩,hx.upd E k.one u an an,F.upd u an,K.upd u an an an,λU L=>G U (by simpa using L)⟩
theorem Ml{a:Nat}(b:a<=8):nA a=a:=by unfold nA lj;(repeat' split)<;>omega
end
section
variable{A w w' D h:ab}{τ τ':aW}{c:aN}{L:rU}{x:cN}
theorem h2{j f i k C u:Nat}{d q:aq}{v b:ad}{s n:List ad}{l:Array ad}(o:bW 71 τ w f l q)(r:bX j τ w d k v C s)(g:d≠q)(m:aa w w D)(y:D.grownBy h v.ownBlock)(z:h.ownsRow 0 d k b u n)(t:b.ownBlock=v.ownBlock\/b.ownBlock=some D.heap.size):aK (λB=>B=71\/B=j) τ w (bl τ w j) (h.setCell (ak f i) b)/\bW 71 (bl τ w j) (h.setCell (ak f i) b) f (l.setIfInBounds i b) q/\bX j (bl τ w j) (h.setCell (ak f i) b) d k b u n:=by have E:ax (λe=>e=f\/v.ownBlock=some e) w (h.setCell (ak f i) b):=((ax.a6 m).trans (ax.fq y λe a=>.inr a)).trans (ax.set h ⟨f,i,none⟩ b (.inl rfl));have p:ar h f l q:=(o.2.next m).grown y λd=>bb r.1 o.2 g d.symm;refine⟨aK.of (E.mono λe a=>?_) λe a=>aL a,⟨(aL o.2.lt).trans o.1,p.set i b⟩,bI z (ax.set (S:=λe=>e=f) h ⟨f,i,none⟩ b rfl) (λe a d=>by subst d;exact bb z p g a),λe a=>?_⟩;(·show τ e=71\/τ e=j;rcases a with d|d;(·rw[d];exact .inl o.1);·exact .inr (r.2 e d));·rcases t with d|d;(·rw[d]at a;rw[aL (r.1.lt e a).2];exact r.2 e a);·rw[d]at a;cases a;exact bJ m.size
theorem rm{w:ab}{t q:aq}{P:ad}{b e:Nat}(l:(prog.info? q).map (λi=>(i.zero,i.size,i.bytes))=some (some P,b,e))(u:prog.underlying t=some (.slice q))(Q:P.cells.size=b)(R:0<b)(S:e<=100){o:Oper}{a:Act}{ac:Act->ab->Prop}{az:Exit->Act->ab->Prop}(s x:Operand)(y:o.op=.call {callee:=.builtin .append,args:=#[s,x],argTypes:=#[t,t]})(v:ad)(r:Nat)(k:List ad)(z:a.eval s=v)(d:w.ownsRow 0 q b v r k)(N:Option ao)(m c:Nat)(f:List ad)(B:a.eval x=ai N m c)(T:N=none->m=0/\c=0)(C:f.length=m*b)(n:I (∀j,N=some j->∀af E,f[af]?=some E->w.cell? (j.add af)=some E))(U:I (∀E,E∈f->E.oneCell'=true))(V:r+m<=1000000000)(am:∀g w',w'.ownsRow 0 q b g (r+m) (k++f)->w.grownBy w' v.ownBlock->(g.ownBlock=v.ownBlock\/g.ownBlock=some w.heap.size)->ac (a.put o.dst g) w'):Oper.wp prog o a w ac az:=by obtain⟨F,G,J,K,M⟩:=info_parts l;have ap:(r+m)*e<=1000000000*100:=Nat.mul_le_mul V S;cases N with|none=>obtain⟨rfl,rfl⟩:=T rfl;have p:=run_append_owned_none (P:=prog) (w:=w) 0 t o.type q F b u G v r k d;have W:f=[]:=List.eq_nil_of_length_eq_zero (by rw[C,Nat.zero_mul]);unfold Oper.wp;simp[execOp,y,resolve,invoke,builtin,z,B,p,Result.andThen];exact am v w (by rw[W,List.append_nil];exact d) (ot _ _) (.inl rfl)|some j=>obtain⟨g,w',n,X,Y,_,Z⟩:=run_append_own_at (P:=prog) w 0 t o.type q F P b e u G J K M Q R v r k d j m c f C (n.o j rfl) U.o (by unfold maxLen;omega) O (aM _);unfold Oper.wp execOp;simp only[y,resolve,invoke,builtin,Sem.run_bind,Sem.run_pure,Result.andThen_ok,List.map_toArray,List.map_cons,List.map_nil,z,B,n];exact am g w' X Y Z
theorem OZ:(prog.info? 68).map (λi=>(i.zero,i.size,i.bytes))=some (some (.agg hy),3,24):=ay
theorem AK(b:List tZ)(a:tZ):rj (b++[a])=rj b++[ae ah a.due,ae ah a.at_,ae ah a.part]:=by simp[rj]
def SQ(A:ab)(τ:aW)(w:ab)(c:aN)(L:rU)(x:cN)(b:aR)(w':ab):Prop:=∃τ' a,b=aG (.tuple #[])/\I (aK mP τ w τ' w')/\I (c4 A τ' w' c {L with vb:=a} x)
theorem qg(G:I (c4 A τ w c L x))(K:c.pn<=8)(b a:Int)(M:x.bd.length<=900000000):ag prog 141 (dU L.xb b a) w (SQ A τ w c L (fv x b a)):=by obtain⟨j,s,t,bd,u,v,y,be,Z,ac,af,am,ap,az,aS,a0⟩:=L;have e:=G.o;obtain⟨N,P,Q⟩:=e.Qg.form;dsimp only at Q;subst Q;have z:=e.box.2.cell;unfold jq at z;dsimp only at z;have R:=gF e.u4;dsimp only at R;obtain⟨g,k⟩:=aJ x.gv.ps.now;have r:=OU G g k;have a1:=H e.Qg;have a2:=H k;clear e k;dsimp only;go_in;go_wp2_with fail;refine r.mono ?_;rintro J bf⟨rfl,a3⟩;cases a3;go_wp2_with(at_builtin;go_loud(refine o3 _ OZ underlying42 rfl an an rfl _ _ rfl (ai N x.bd.length P) x.bd.length (rj x.bd) rfl (by exact a1.1.alloc _) ⟨w,0,none⟩ 1 1 [ae ah b,ae ah g,ae ah a] rfl rfl ?c1 ?c2 O ?_));(case c1=>exact H (λi f d=>by match i,d with|0,d=>simp at d;subst d;go_simp|1,d=>simp at d;subst d;go_simp|2,d=>simp at d;subst d;go_simp|i+3,d=>simp at d));(case c2=>exact H (λf S=>by simp only[List.mem_cons,List.not_mem_nil,or_false]at S;rcases S with rfl|rfl|rfl<;>rfl));intro bi h B C T;obtain⟨l,m,rfl⟩:=bn B;have E:aa w w (w.alloc (aj (bq b g a) 68)):=aC.alloc au _;have e:=G.o;have F:=H (h2 (i:=2) e.box a1.o an E C B (by rw[aF];exact T));have p:ar h j (jq c ⟨j,s,t,ai N x.bd.length P,u,v,y,be,Z,ac,af,am,ap,az,aS,a0⟩ x) 101:=(e.box.2.next E).grown C λJ=>bb a1.1 e.box.2 an J.symm;have U:=p.cell;have bp:=p.frozen;have V:=(p.set 2 (ai l (x.bd.length+1) m)).cell;have bs:=(p.set 2 (ai l (x.bd.length+1) m)).frozen;have W:=H (p.set 2 (ai l (x.bd.length+1) m));unfold jq at U V;simp only[bR]at U V;clear e p B C T E z R r;have e:=G.o;have q:I (fv x b a={x with bd:=x.bd++[⟨b,g,a⟩],late:=if b<g then wrap64 (x.late+1)else x.late}):=H (by unfold fv;rw[a2.o]);by_cases X:b<g;(·rw[aH X]at q;go_wp2;go_end0;have Y:aK (λf=>f=71) (bl τ w 74) (h.setCell (ak j 2) (ai l (x.bd.length+1) m)) (bl τ w 74) ((h.setCell (ak j 2) (ai l (x.bd.length+1) m)).setCell (ak j 11) (aA (wrap64 (x.late+1)))):=aK.of ((ax.set (S:=λa9=>a9=j) _ ⟨j,11,none⟩ _ rfl).mono (λa9 M=>by rw[M];exact F.2.1.1)) λ_ _=>rfl;have f:=F.1.trans (Y.mono λo J=>.inl J);have a4:=F.2.2.upd Y an;have n:=W.set 11 (aA (wrap64 (x.late+1)));have a5:∀o,o<71->¬(o=71\/o=74):=λo a6 a7=>O;rw[q.o];unfold jq at n;simp only[bR]at n;exact⟨_,_,rfl,f.mono (λo J=>by show o≠1;omega),c4.step G K f a5 s t (ai l (x.bd.length+1) m) u v y _ rfl rfl rfl ⟨F.2.1.1,n⟩ (e.hS.upd f an) (e.Qd.upd f an an) (by show bX _ _ _ _ _ _ (x.bd++[_]).length (rj (x.bd++[_]));rw[List.length_append,AK];exact a4) (e.shr.upd f an) (e.w0.upd f an) (e.Qf.upd f an an) (e.pg.upd f an)⟩);·rw[aE X]at q;go_wp2;go_end0;have f:=F.1;have a4:=F.2.2;have n:=W.o;have a5:∀o,o<71->¬(o=71\/o=74):=λo a6 a7=>O;rw[q.o];unfold jq at n;simp only[bR]at n;exact⟨_,_,rfl,f.mono (λo J=>by show o≠1;omega),c4.step G K f a5 s t (ai l (x.bd.length+1) m) u v y _ rfl rfl rfl ⟨F.2.1.1,n⟩ (e.hS.upd f an) (e.Qd.upd f an an) (by show bX _ _ _ _ _ _ (x.bd++[_]).length (rj (x.bd++[_]));rw[List.length_append,AK];exact a4) (e.shr.upd f an) (e.w0.upd f an) (e.Qf.upd f an an) (e.pg.upd f an)⟩
end
end Go.Proofs.YtihckgobeanocaaGreat
