import Derived.Test.YtihckgobeanocaaGreatRows
import Derived.ShutString
import Derived.Test.YtihckgobeanocaaGreatE3
/- The row TopExact: each window begins and ends at just the time that is configured. Conditions: none. -/
set_option linter.all false
set_option maxRecDepth 100000
set_option maxHeartbeats 0
namespace Go.Proofs.YtihckgobeanocaaGreat
open Go.RowKit Go.Proofs.Tryz Tryz eJ
open Value renaming slice->ai,int->ae,bool->aD
open IntKind renaming i64->ah
open Bool renaming and_eq_true->jZ
open Go renaming TypeId->aq,Value->ad,World->ab
open Go.RowKit renaming Below->aa
open List renaming replicate->aU
section
open Go.ChangeShapes Go.WideShapes Go.ChangeAt
def pt{w:Type}{e:aq×ad->w}{k:Program}(l:laidOutB k=true){m n:ab}(o:aa m m n):∀{b:List aq}{g:List ad}{h:List (DataW w)}{c:List MemPlace},(∀p∈b,k.readableRec p=true/\p<k.types.size)->(∀q∈c,q.block<m)->DataW.TrodAll e k m 0 (λ_=>true) true b g h c->DataW.TrodAll e k n 0 (λx=>decide<|x<m.heap.size) true b g h c|[],[],[],_,_,_,a=>a|p::b,v::g,d::h,c,i,f,a=>by obtain⟨y,z,r,s,rfl⟩:=a;refine⟨y,z,Below.trod l (i p aI).1 (i p aI).2 r o λq j=>f q (by simp[j]),?_,rfl⟩;exact pt l o (λt u=>i t (by simp[u])) (λq j=>f q (by simp[j])) s|[],_::_,_,_,_,_,a=>a.elim|[],[],_::_,_,_,_,a=>a.elim|_::_,[],_,_,_,_,a=>by cases a|_::_,_::_,[],_,_,_,a=>a.elim
def wI{i:Type}{enc:aq×ad->i}{e:Program}{j:Func}{h:ChangeSpec}{k l:ab}{b:Array ad}{a d:List (DataW i)}{c:List MemPlace}{m:aq}(v:laidOutB e=true)(n:(j.params.toList.all λf=>e.readableRec f&&decide (f<e.types.size))=true)(o:e.underlying m=some .bool)(p:j.resultTypes=#[m])(q:h.vars=[])(g:DataW.Whole enc e j.params.toList h.vars false k b.toList a d c)(w:(h.fn i<|a++d).results=[.lit<|.bool true])(x:(h.fn i<|a++d).args=a)(r:(h.fn i<|a++d).vars=[])(s:aa k k l):h.post enc e j false true false false k b (aD true) l:=by(have y:∀f∈j.params.toList,e.readableRec f=true/\f<e.types.size:=λf z=>by have:=List.all_eq_true.1 n f z;simpa using this);obtain⟨A,G,B,t,rfl,E,F⟩:=id g;rw[q]at t;obtain⟨rfl,rfl⟩:=trodVars_none t;have u:∀C∈A,C.block<k:=λC D=>g.lt C (by simp[D]);refine⟨a,[],A++[],[],A,[],g,?_,?_,?_,s.frame _,λz=>by cases z⟩;(.rw[w,p];exact trodAll_cons_mk (shut_bool o true) trodAll_mk0);(.rw[x];exact pt v s y u B);.rw[r,q];rfl
end
section
open Go.ChangeShapes Go.WideShapes Go.ChangeAt
theorem TP:ownKnob prog.godebug=none:=ay
theorem Tr(g:Os)(d:g.Started)(X:Type)(enc:aq×ad->X):ReturnsInHanded {} Tryz.checked g 3 .any (Rows.topExactSpec.pre6 enc prog Tryz.f3 Rows.topExactRow.domain false)<|Rows.topExactSpec.post enc prog Tryz.f3 false true false false:=by refine returnsInHanded_of_change (C:=Tryz.checked) TP d ay func3 (ChangeSpec.witness6 (enc:=enc) (C:=Tryz.checked) false ⟨#[],#[.agg #[ai none 0 0,ai none 0 0,ai none 0 0,ai none 0 0,ai none 0 0,ae ah 0,ae ah 0,ae ah 0,ae ah 0,ae ah 0,ae ah 0,ai none 0 0,ai none 0 0],.agg #[ai none 0 0,ai none 0 0]],[]⟩ 8 ay ay ay ay) ?_;intro u f a v Y h c i hcnd _;have b:∀(L:Nat)M N,Tryz.f3.params[L]?=some M->a[L]?=some N->Value.okWide prog u .any f M N:=c;have j:=i;obtain⟨Z,a1,e,w,rfl,P,Q⟩:=i;have k:DataW.TrodAll enc prog u 0 (λ_=>true) true Tryz.f3.params.toList a.toList v Z:=e;rw[params3]at k b;obtain⟨l,R,ac,S,af,am,r,rfl,rfl,x,y⟩:=trodAll_cons k;obtain⟨m,T,ap,U,az,aS,rfl,rfl,rfl,z,A⟩:=trodAll_cons y;obtain⟨rfl,rfl,rfl⟩:=trodAll_nil A;(obtain rfl:a=#[l,m]:=by cases a;simp_all);obtain⟨rfl,rfl⟩:=trodVars_none w;obtain⟨V,rfl,B⟩:=okWide_struct underlying33<|b 0 33 l rfl rfl;obtain⟨s,n⟩:=x;obtain⟨C,D,o⟩:=zv n;obtain rfl:=oD D;obtain⟨W,rfl,E⟩:=okWide_struct underlying37<|b 1 37 m rfl rfl;obtain⟨t,p⟩:=z;obtain⟨F,G,q⟩:=vI p;obtain rfl:=oD G;clear e c;refine(Th C F u o q).B λa2 a0⟨J,K⟩=>?_;subst J;exact⟨_,rfl,wI ay ay underlying4 rfl rfl j rfl rfl rfl K⟩
theorem Ud:Rows.topExactRow.wf (OpenSpec.ofChange Rows.topExactSpec)=true:=ay
theorem T7:laidOutB Tryz.pinned.checked.prog=true:=ay
theorem Ug:mapsRowed Tryz.pinned.checked.prog=true:=ay
theorem Uc:Tryz.f3.params.all (Tryz.pinned.checked.prog.readableRec ·)=true:=ay
theorem Uh:namedTie Tryz.pinned.checked.prog Rows.topExactRow.named Rows.topExactSpec.vars=true:=ay
theorem Ue:(Rows.topExactRow.stops==[])=true:=ay
theorem Uf:(Tryz.pinned.checked.prog.stops==[])=true:=ay
theorem Ua:(Rows.topExactRow.knobs==[])=true:=ay
theorem T8:(Tryz.pinned.checked.prog.stopKnobs==[])=true:=ay
theorem Ub:(Rows.topExactRow.inPlace==Tryz.pinned.checked.prog.inPlace 3)=true:=ay
theorem TR:(Rows.topExactRow.unfollowed==Tryz.pinned.checked.prog.unfollowed 3)=true:=ay
theorem T0:(Rows.topExactRow.recurses==Tryz.pinned.checked.prog.recurses 3)=true:=ay
theorem T1:(Rows.topExactRow.named==Tryz.pinned.checked.prog.varsNamed 3)=true:=ay
theorem T6:(Rows.topExactRow.maps==(Tryz.f3.params.toList++Rows.topExactSpec.plain.varTypes Tryz.pinned.checked.prog).any (Tryz.pinned.checked.prog.mapsRec ·))=true:=ay
theorem TI:(Rows.topExactRow.ifaces==(Tryz.f3.params.toList++Rows.topExactSpec.plain.varTypes Tryz.pinned.checked.prog).any (Tryz.pinned.checked.prog.ifacesRec ·))=true:=ay
theorem TL:(Rows.topExactRow.mapsOut==Tryz.pinned.checked.prog.mapsAmong Tryz.f3.resultTypes.toList)=true:=ay
theorem TZ:(Rows.topExactRow.loops==(Tryz.f3.params.toList++Rows.topExactSpec.plain.varTypes Tryz.pinned.checked.prog).any (Tryz.pinned.checked.prog.loopsFrom ·))=true:=ay
theorem TX:(Rows.topExactRow.wideKeys==(Tryz.f3.params.toList++Rows.topExactSpec.plain.varTypes Tryz.pinned.checked.prog++Tryz.f3.resultTypes.toList).any (Tryz.pinned.checked.prog.wideKeysFrom ·))=true:=ay
theorem TJ:Rows.topExactSpec.vars.all (Tryz.pinned.checked.prog.varReadable ·)=true:=ay
theorem TU:Tryz.f3.resultTypes.all (λa=>Tryz.pinned.checked.prog.readableRec a&&decide (a<Tryz.pinned.checked.prog.types.size))=true:=ay
theorem TS:(Rows.topExactRow.ifacesOut==Tryz.f3.resultTypes.toList.any (Tryz.pinned.checked.prog.ifacesRec ·))=true:=ay
theorem T3:(Rows.topExactRow.loopsOut==Tryz.f3.resultTypes.toList.any (Tryz.pinned.checked.prog.loopsFrom ·))=true:=ay
theorem TV:(Rows.topExactRow.plainKeys==Tryz.pinned.checked.prog.plainKeys)=true:=ay
theorem T2:Rows.topExactRow.shortTexts.isNone=true:=ay
theorem TT:Tryz.pinned.checked.prog.stopsHeard=true:=ay
theorem TH:Tryz.pinned.checked.prog.mayEnter=true:=ay
theorem T4:(Rows.topExactRow.lifted==Tryz.pinned.checked.prog.liftsFinal)=true:=ay
theorem T5:(Tryz.pinned.checked.prog.make==some Rows.topExactRow.make)=true:=ay
theorem TG:(Rows.topExactRow.kinds==(if Rows.topExactRow.domain.isEmpty then []else Tryz.f3.params.toList.map λa=>match Tryz.pinned.checked.prog.underlying a with|some (.int b)=>some b|_=>none))=true:=ay
theorem TK:(Rows.topExactRow.pinned==Rows.topExactRow.pinnedBy)=true:=ay
theorem TM:(Rows.topExactRow.veiled==(Tryz.f3.params.toList++Rows.topExactSpec.plain.varTypes Tryz.pinned.checked.prog++Tryz.f3.resultTypes.toList).any (Tryz.pinned.checked.prog.veiledRec ·))=true:=ay
theorem TQ:Rows.topExactRow.veiledFits Tryz.pinned.checked.prog Tryz.f3.params.toList (Tryz.f3.params.toList++Rows.topExactSpec.plain.varTypes Tryz.pinned.checked.prog++Tryz.f3.resultTypes.toList)=true:=ay
theorem mW{a b:Bool}(c:a=true)(d:b=true):(a&&b)=true:=by rw[c,d];rfl
theorem Ts:joinedFacts Tryz.pinned.checked.prog 3 Tryz.f3 Rows.topExactSpec Rows.topExactRow=true:=(mW (mW (mW (mW (mW (mW (mW (mW (mW (mW (mW (mW (mW (mW (mW (mW (mW (mW (mW (mW (mW (mW (mW (mW (mW (mW (mW (mW (mW (mW (mW Ud T7) Ug) Uc) Uh) Ue) Uf) Ua) T8) Ub) TR) T0) T1) T6) TI) TL) TZ) TX) TJ) TU) TS) T3) TV) T2) TT) TH) T4) T5) TG) TK) TM) TQ)
theorem TW:Tryz.pinned.checked.prog.funcNamed Rows.topExactRow.func=some 3:=ay
theorem TY:Tryz.f3.isInstance Tryz.pinned.checked.prog Rows.topExactRow.origin Rows.topExactRow.targs:=of_decide_eq_true ay
theorem TN:Tryz.f3.isWrapper Tryz.pinned.checked.prog Rows.topExactRow.wrapper Rows.topExactRow.mainSum:=by unfold Func.isWrapper;first|(rw[aH yT];kernel_rfl)|(rw[aE yT];exact⟨rfl,rfl⟩)
theorem TA:Rows.topExactRow.holds Tryz.pinned<|OpenSpec.ofChange Rows.topExactSpec:=OpenClaim.holds_of_wide 3 Tryz.f3 rfl rfl rfl rfl rfl rfl rfl ⟨rfl,rfl,rfl,rfl,rfl⟩ rfl rfl rfl rfl rfl TW func3 Ts TY TN λc a d b _=>Tr c a d b
theorem proved:Rows.TopExactSaid:=TA
