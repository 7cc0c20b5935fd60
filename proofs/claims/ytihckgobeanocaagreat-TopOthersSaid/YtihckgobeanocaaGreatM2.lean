import Derived.Test.YtihckgobeanocaaGreatM3
/- The row TopOthers: whatever programs others get, in a partition to which no channel leads the same happens. Conditions: none. -/
set_option linter.all false
set_option maxRecDepth 100000
set_option maxHeartbeats 0
namespace Go.Proofs.YtihckgobeanocaaGreat
open Go.RowKit Go.Proofs.Tryz Tryz
open eJ
open Obj renaming cells->aj
open Value renaming slice->ai,int->ae,pointer->aV,bool->aD
open IntKind renaming i64->ah
open Ending renaming returned->aG
open Go renaming Addr->ao,Calls->ag,Ending->aR,TypeId->aq,Value->ad,World->ab
open Go.RowKit renaming Below->aa
open Go.RowKit.Below renaming refl->al
open Go.World renaming size_alloc->aF
open Int renaming toNat_natCast->aB
open List renaming getElem?_eq_getElem->aO,replicate->aU
open Nat renaming lt_of_lt_of_le->aP,zero_le->aM
open Prod.mk renaming injEq->aw
section
open Go.ChangeShapes Go.WideShapes Go.ChangeAt
theorem Tp:ownKnob prog.godebug=none:=ay
theorem Ps(j:Os)(d:j.Started)(a9:Type)(enc:aq×ad->a9):ReturnsInHanded {} Tryz.checked j 6 .any (Rows.topOthersSpec.pre6 enc prog Tryz.f6 Rows.topOthersRow.domain false) (Rows.topOthersSpec.post enc prog Tryz.f6 false true false false):=by refine returnsInHanded_of_change (C:=Tryz.checked) Tp d ay func6 (ChangeSpec.witness6 (enc:=enc) (C:=Tryz.checked) false ⟨#[],#[.agg #[ai none 0 0,ai none 0 0,ai none 0 0,ai none 0 0,ai none 0 0,ae ah 0,ae ah 0,ae ah 0,ae ah 0,ae ah 0,ae ah 0,ai none 0 0,ai none 0 0],.agg #[ai none 0 0,ai none 0 0],ai none 0 0],[]⟩ 8 ay ay ay ay) ?_;intro B g a C bd k c l hcnd _;have b:∀(Z:Nat)ac af,Tryz.f6.params[Z]?=some ac->a[Z]?=some af->Value.okWide prog B .any g ac af:=c;have m:=l;obtain⟨be,cf,f,D,rfl,am,ap⟩:=l;have n:DataW.TrodAll enc prog B 0 (λ_=>true) true Tryz.f6.params.toList a.toList C be:=f;rw[params6]at n b;obtain⟨o,az,bf,aS,bi,bp,w,rfl,rfl,E,F⟩:=trodAll_cons n;obtain⟨p,a0,bs,a1,bv,bz,rfl,rfl,rfl,G,J⟩:=trodAll_cons F;obtain⟨q,a2,ca,a3,cb,cc,rfl,rfl,rfl,K,L⟩:=trodAll_cons J;obtain⟨rfl,rfl,rfl⟩:=trodAll_nil L;(obtain rfl:a=#[o,p,q]:=by cases a;simp_all);obtain⟨rfl,rfl⟩:=trodVars_none D;obtain⟨a4,rfl,M⟩:=okWide_struct underlying33 (b 0 33 o rfl rfl);obtain⟨x,r⟩:=E;obtain⟨N,P,s⟩:=zv r;obtain rfl:=oD P;obtain⟨a5,rfl,Q⟩:=okWide_struct underlying37 (b 1 37 p rfl rfl);obtain⟨y,t⟩:=G;obtain⟨R,S,u⟩:=vI t;obtain rfl:=oD S;obtain⟨T,U,V,rfl⟩:=okWide_slice underlying34 (b 2 34 q rfl rfl);obtain⟨z,v⟩:=K;obtain⟨a6,a7,A,W,e,h,i⟩:=yu v;simp only[Value.slice.injEq]at e;obtain⟨rfl,rfl,rfl⟩:=e;clear f c;refine(MS N R T U V W B s u h i).mono λch ce⟨X,Y⟩=>?_;subst X;exact⟨_,rfl,wI ay ay underlying4 rfl rfl m rfl rfl rfl Y⟩
theorem T1:Rows.topOthersRow.wf (OpenSpec.ofChange Rows.topOthersSpec)=true:=ay
theorem T0:laidOutB Tryz.pinned.checked.prog=true:=ay
theorem T5:mapsRowed Tryz.pinned.checked.prog=true:=ay
theorem T7:Tryz.f6.params.all (Tryz.pinned.checked.prog.readableRec ·)=true:=ay
theorem TZ:namedTie Tryz.pinned.checked.prog Rows.topOthersRow.named Rows.topOthersSpec.vars=true:=ay
theorem T2:(Rows.topOthersRow.stops==[])=true:=ay
theorem T8:(Tryz.pinned.checked.prog.stops==[])=true:=ay
theorem T6:(Rows.topOthersRow.knobs==[])=true:=ay
theorem T3:(Tryz.pinned.checked.prog.stopKnobs==[])=true:=ay
theorem T4:(Rows.topOthersRow.inPlace==Tryz.pinned.checked.prog.inPlace 6)=true:=ay
theorem TH:(Rows.topOthersRow.unfollowed==Tryz.pinned.checked.prog.unfollowed 6)=true:=ay
theorem TG:(Rows.topOthersRow.recurses==Tryz.pinned.checked.prog.recurses 6)=true:=ay
theorem TE:(Rows.topOthersRow.named==Tryz.pinned.checked.prog.varsNamed 6)=true:=ay
theorem TL:(Rows.topOthersRow.maps==(Tryz.f6.params.toList++Rows.topOthersSpec.plain.varTypes Tryz.pinned.checked.prog).any (Tryz.pinned.checked.prog.mapsRec ·))=true:=ay
theorem TM:(Rows.topOthersRow.ifaces==(Tryz.f6.params.toList++Rows.topOthersSpec.plain.varTypes Tryz.pinned.checked.prog).any (Tryz.pinned.checked.prog.ifacesRec ·))=true:=ay
theorem TN:(Rows.topOthersRow.mapsOut==Tryz.pinned.checked.prog.mapsAmong Tryz.f6.resultTypes.toList)=true:=ay
theorem TF:(Rows.topOthersRow.loops==(Tryz.f6.params.toList++Rows.topOthersSpec.plain.varTypes Tryz.pinned.checked.prog).any (Tryz.pinned.checked.prog.loopsFrom ·))=true:=ay
theorem Tt:(Rows.topOthersRow.wideKeys==(Tryz.f6.params.toList++Rows.topOthersSpec.plain.varTypes Tryz.pinned.checked.prog++Tryz.f6.resultTypes.toList).any (Tryz.pinned.checked.prog.wideKeysFrom ·))=true:=ay
theorem TI:Rows.topOthersSpec.vars.all (Tryz.pinned.checked.prog.varReadable ·)=true:=ay
theorem Tz:Tryz.f6.resultTypes.all (λa=>Tryz.pinned.checked.prog.readableRec a&&decide (a<Tryz.pinned.checked.prog.types.size))=true:=ay
theorem TB:(Rows.topOthersRow.ifacesOut==Tryz.f6.resultTypes.toList.any (Tryz.pinned.checked.prog.ifacesRec ·))=true:=ay
theorem Ts:(Rows.topOthersRow.loopsOut==Tryz.f6.resultTypes.toList.any (Tryz.pinned.checked.prog.loopsFrom ·))=true:=ay
theorem Tu:(Rows.topOthersRow.plainKeys==Tryz.pinned.checked.prog.plainKeys)=true:=ay
theorem Ty:Rows.topOthersRow.shortTexts.isNone=true:=ay
theorem Tv:Tryz.pinned.checked.prog.stopsHeard=true:=ay
theorem To:Tryz.pinned.checked.prog.mayEnter=true:=ay
theorem TK:(Rows.topOthersRow.lifted==Tryz.pinned.checked.prog.liftsFinal)=true:=ay
theorem TD:(Tryz.pinned.checked.prog.make==some Rows.topOthersRow.make)=true:=ay
theorem TC:(Rows.topOthersRow.kinds==(if Rows.topOthersRow.domain.isEmpty then []else Tryz.f6.params.toList.map λa=>match Tryz.pinned.checked.prog.underlying a with|some (.int b)=>some b|_=>none))=true:=ay
theorem Tq:(Rows.topOthersRow.pinned==Rows.topOthersRow.pinnedBy)=true:=ay
theorem Tw:(Rows.topOthersRow.veiled==(Tryz.f6.params.toList++Rows.topOthersSpec.plain.varTypes Tryz.pinned.checked.prog++Tryz.f6.resultTypes.toList).any (Tryz.pinned.checked.prog.veiledRec ·))=true:=ay
theorem Tr:Rows.topOthersRow.veiledFits Tryz.pinned.checked.prog Tryz.f6.params.toList (Tryz.f6.params.toList++Rows.topOthersSpec.plain.varTypes Tryz.pinned.checked.prog++Tryz.f6.resultTypes.toList)=true:=ay
theorem dx{a b:Bool}(c:a=true)(d:b=true):(a&&b)=true:=by rw[c,d];rfl
theorem Pt:joinedFacts Tryz.pinned.checked.prog 6 Tryz.f6 Rows.topOthersSpec Rows.topOthersRow=true:=(dx (dx (dx (dx (dx (dx (dx (dx (dx (dx (dx (dx (dx (dx (dx (dx (dx (dx (dx (dx (dx (dx (dx (dx (dx (dx (dx (dx (dx (dx (dx T1 T0) T5) T7) TZ) T2) T8) T6) T3) T4) TH) TG) TE) TL) TM) TN) TF) Tt) TI) Tz) TB) Ts) Tu) Ty) Tv) To) TK) TD) TC) Tq) Tw) Tr)
theorem TJ:Tryz.pinned.checked.prog.funcNamed Rows.topOthersRow.func=some 6:=ay
theorem TA:Tryz.f6.isInstance Tryz.pinned.checked.prog Rows.topOthersRow.origin Rows.topOthersRow.targs:=of_decide_eq_true ay
theorem Tx:Tryz.f6.isWrapper Tryz.pinned.checked.prog Rows.topOthersRow.wrapper Rows.topOthersRow.mainSum:=by unfold Func.isWrapper;first|(rw[aH yT];kernel_rfl)|(rw[aE yT];exact⟨rfl,rfl⟩)
theorem Sf:Rows.topOthersRow.holds Tryz.pinned (OpenSpec.ofChange Rows.topOthersSpec):=OpenClaim.holds_of_wide 6 Tryz.f6 rfl rfl rfl rfl rfl rfl rfl ⟨rfl,rfl,rfl,rfl,rfl⟩ rfl rfl rfl rfl rfl TJ func6 Pt TA Tx λc a d b _=>Ps c a d b
theorem proved:Rows.TopOthersSaid:=Sf
end
end Go.Proofs.YtihckgobeanocaaGreat
