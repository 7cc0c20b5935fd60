import Derived.Test.YtihckgobeanocaaGreatMW
/- The row TopChoices: what the governor chooses, and how wrong the oscillator is, shows nowhere but in what is taken and in boundaries that are late, for every configuration, script and list. Conditions: none. -/
set_option linter.all false
set_option maxRecDepth 100000
set_option maxHeartbeats 0
namespace Go.Proofs.YtihckgobeanocaaGreat
open Go.RowKit Go.Proofs.Tryz Tryz
open eJ
open Obj renaming cells->aj
open Value renaming slice->ai,int->ae,pointer->aV,bool->aD
open IntKind renaming i64->ah
open Ending renaming returned->aG
open Go renaming Addr->ao,Calls->ag,Ending->aR,TypeId->aq,Value->ad,World->ab
open Go.RowKit renaming Below->aa
open Go.RowKit.Below renaming refl->al
open Go.World renaming size_alloc->aF
open Int renaming toNat_natCast->aB
open List renaming getElem?_eq_getElem->aO,replicate->aU
open Nat renaming lt_of_lt_of_le->aP,zero_le->aM
open Prod.mk renaming injEq->aw
section
variable{A:Type}{enc:aq×ad->A}{w:ab}{h:Bool}
theorem MO{i:Nat}{D:ad}{F:DataW A×List MemPlace}(G:DataW.trod enc prog w 0 (λ_=>true) h i 62 [D]=some F):∃(q:Option ao)(l r:Nat)(J:Nat->Nat->Int),D=ai q l r/\ba w q l 2 J:=by obtain⟨q,l,r,m,K,E,n,s,o⟩:=iV underlying62 (sz:=2) ay an G;(have j:∀b,b<l->∃g:Nat->Int,m b=[ae ah (g 0),ae ah (g 1)]/\bu (g 0)/\bu (g 1):=λb a=>by obtain⟨t,M,N,u⟩:=o b a;obtain⟨g,_,c⟩:=M4 underlying65 underlying3 ay ay u;obtain⟨d,v⟩:=c 0 O;obtain⟨e,x⟩:=c 1 O;refine⟨g,?_,v,x⟩;match m b,t,d,e with|[P,Q],_,d,e=>simp at d e;rw[d,e]);obtain⟨g,c⟩:=kh j;refine⟨q,l,r,λb k=>g b k,by simpa using K,by unfold maxLen at n;omega,?_,λb a k f=>?_⟩;(·rcases s.2 with y|⟨L,p,z,B,C⟩;(·exact .inl y);·refine .inr ⟨L,p,z,B,λb a k f=>?_⟩;have:=C b a k f;dsimp only at this;rw[(c b a).1]at this;match k,f with|0,_=>exact this|1,_=>exact this);·match k,f with|0,_=>exact(c b a).2.1|1,_=>exact(c b a).2.2
end
theorem MP(j:aN)(k:cY)(a:Option ao)(b d:Nat)(e:Nat->Nat->Int)(c:ab)(g:j.Ok c)(f:k.Ok c)(h:I (ba c a b 2 e)):ag prog 5 #[.agg j,.agg k,ai a b d] c λl i=>l=aG (aD true)/\aa c c i:=MN g f a b d e h
section
open Go.ChangeShapes Go.WideShapes Go.ChangeAt
theorem SY:ownKnob prog.godebug=none:=ay
theorem Pq(i:Os)(d:i.Started)(a7:Type)(enc:aq×ad->a7):ReturnsInHanded {} Tryz.checked i 5 .any (Rows.topChoicesSpec.pre6 enc prog Tryz.f5 Rows.topChoicesRow.domain false) (Rows.topChoicesSpec.post enc prog Tryz.f5 false true false false):=by refine returnsInHanded_of_change (C:=Tryz.checked) SY d ay func5 (ChangeSpec.witness6 (enc:=enc) (C:=Tryz.checked) false ⟨#[],#[.agg #[ai none 0 0,ai none 0 0,ai none 0 0,ai none 0 0,ai none 0 0,ae ah 0,ae ah 0,ae ah 0,ae ah 0,ae ah 0,ae ah 0,ai none 0 0,ai none 0 0],.agg #[ai none 0 0,ai none 0 0],ai none 0 0],[]⟩ 8 ay ay ay ay) ?_;intro A g a B a9 j c k hcnd _;have b:∀(Y:Nat)Z ac,Tryz.f5.params[Y]?=some Z->a[Y]?=some ac->Value.okWide prog A .any g Z ac:=c;have l:=k;obtain⟨bd,ce,f,C,rfl,af,am⟩:=k;have m:DataW.TrodAll enc prog A 0 (λ_=>true) true Tryz.f5.params.toList a.toList B bd:=f;rw[params5]at m b;obtain⟨n,ap,be,az,bf,bi,v,rfl,rfl,D,E⟩:=trodAll_cons m;obtain⟨o,aS,bp,a0,bs,bv,rfl,rfl,rfl,F,G⟩:=trodAll_cons E;obtain⟨p,a1,bz,a2,ca,cb,rfl,rfl,rfl,J,K⟩:=trodAll_cons G;obtain⟨rfl,rfl,rfl⟩:=trodAll_nil K;(obtain rfl:a=#[n,o,p]:=by cases a;simp_all);obtain⟨rfl,rfl⟩:=trodVars_none C;obtain⟨a3,rfl,L⟩:=okWide_struct underlying33 (b 0 33 n rfl rfl);obtain⟨w,q⟩:=D;obtain⟨M,N,r⟩:=zv q;obtain rfl:=oD N;obtain⟨a4,rfl,P⟩:=okWide_struct underlying37 (b 1 37 o rfl rfl);obtain⟨x,s⟩:=F;obtain⟨Q,R,t⟩:=vI s;obtain rfl:=oD R;obtain⟨S,T,U,rfl⟩:=okWide_slice underlying62 (b 2 62 p rfl rfl);obtain⟨y,u⟩:=J;obtain⟨a5,a6,z,V,e,h⟩:=MO u;simp only[Value.slice.injEq]at e;obtain⟨rfl,rfl,rfl⟩:=e;clear f c;refine(MP M Q S T U V A r t h).mono λcf cc⟨W,X⟩=>?_;subst W;exact⟨_,rfl,wI ay ay underlying4 rfl rfl l rfl rfl rfl X⟩
theorem TR:Rows.topChoicesRow.wf (OpenSpec.ofChange Rows.topChoicesSpec)=true:=ay
theorem TQ:laidOutB Tryz.pinned.checked.prog=true:=ay
theorem TV:mapsRowed Tryz.pinned.checked.prog=true:=ay
theorem TX:Tryz.f5.params.all (Tryz.pinned.checked.prog.readableRec ·)=true:=ay
theorem TP:namedTie Tryz.pinned.checked.prog Rows.topChoicesRow.named Rows.topChoicesSpec.vars=true:=ay
theorem TS:(Rows.topChoicesRow.stops==[])=true:=ay
theorem TY:(Tryz.pinned.checked.prog.stops==[])=true:=ay
theorem TW:(Rows.topChoicesRow.knobs==[])=true:=ay
theorem TT:(Tryz.pinned.checked.prog.stopKnobs==[])=true:=ay
theorem TU:(Rows.topChoicesRow.inPlace==Tryz.pinned.checked.prog.inPlace 5)=true:=ay
theorem Th:(Rows.topChoicesRow.unfollowed==Tryz.pinned.checked.prog.unfollowed 5)=true:=ay
theorem Tf:(Rows.topChoicesRow.recurses==Tryz.pinned.checked.prog.recurses 5)=true:=ay
theorem Td:(Rows.topChoicesRow.named==Tryz.pinned.checked.prog.varsNamed 5)=true:=ay
theorem Tl:(Rows.topChoicesRow.maps==(Tryz.f5.params.toList++Rows.topChoicesSpec.plain.varTypes Tryz.pinned.checked.prog).any (Tryz.pinned.checked.prog.mapsRec ·))=true:=ay
theorem Tm:(Rows.topChoicesRow.ifaces==(Tryz.f5.params.toList++Rows.topChoicesSpec.plain.varTypes Tryz.pinned.checked.prog).any (Tryz.pinned.checked.prog.ifacesRec ·))=true:=ay
theorem Tn:(Rows.topChoicesRow.mapsOut==Tryz.pinned.checked.prog.mapsAmong Tryz.f5.resultTypes.toList)=true:=ay
theorem Te:(Rows.topChoicesRow.loops==(Tryz.f5.params.toList++Rows.topChoicesSpec.plain.varTypes Tryz.pinned.checked.prog).any (Tryz.pinned.checked.prog.loopsFrom ·))=true:=ay
theorem S2:(Rows.topChoicesRow.wideKeys==(Tryz.f5.params.toList++Rows.topChoicesSpec.plain.varTypes Tryz.pinned.checked.prog++Tryz.f5.resultTypes.toList).any (Tryz.pinned.checked.prog.wideKeysFrom ·))=true:=ay
theorem Ti:Rows.topChoicesSpec.vars.all (Tryz.pinned.checked.prog.varReadable ·)=true:=ay
theorem S8:Tryz.f5.resultTypes.all (λa=>Tryz.pinned.checked.prog.readableRec a&&decide (a<Tryz.pinned.checked.prog.types.size))=true:=ay
theorem Ta:(Rows.topChoicesRow.ifacesOut==Tryz.f5.resultTypes.toList.any (Tryz.pinned.checked.prog.ifacesRec ·))=true:=ay
theorem S1:(Rows.topChoicesRow.loopsOut==Tryz.f5.resultTypes.toList.any (Tryz.pinned.checked.prog.loopsFrom ·))=true:=ay
theorem S3:(Rows.topChoicesRow.plainKeys==Tryz.pinned.checked.prog.plainKeys)=true:=ay
theorem S7:Rows.topChoicesRow.shortTexts.isNone=true:=ay
theorem S4:Tryz.pinned.checked.prog.stopsHeard=true:=ay
theorem SX:Tryz.pinned.checked.prog.mayEnter=true:=ay
theorem Tk:(Rows.topChoicesRow.lifted==Tryz.pinned.checked.prog.liftsFinal)=true:=ay
theorem Tc:(Tryz.pinned.checked.prog.make==some Rows.topChoicesRow.make)=true:=ay
theorem Tb:(Rows.topChoicesRow.kinds==(if Rows.topChoicesRow.domain.isEmpty then []else Tryz.f5.params.toList.map λa=>match Tryz.pinned.checked.prog.underlying a with|some (.int b)=>some b|_=>none))=true:=ay
theorem SZ:(Rows.topChoicesRow.pinned==Rows.topChoicesRow.pinnedBy)=true:=ay
theorem S5:(Rows.topChoicesRow.veiled==(Tryz.f5.params.toList++Rows.topChoicesSpec.plain.varTypes Tryz.pinned.checked.prog++Tryz.f5.resultTypes.toList).any (Tryz.pinned.checked.prog.veiledRec ·))=true:=ay
theorem S0:Rows.topChoicesRow.veiledFits Tryz.pinned.checked.prog Tryz.f5.params.toList (Tryz.f5.params.toList++Rows.topChoicesSpec.plain.varTypes Tryz.pinned.checked.prog++Tryz.f5.resultTypes.toList)=true:=ay
theorem dw{a b:Bool}(c:a=true)(d:b=true):(a&&b)=true:=by rw[c,d];rfl
theorem Pr:joinedFacts Tryz.pinned.checked.prog 5 Tryz.f5 Rows.topChoicesSpec Rows.topChoicesRow=true:=(dw (dw (dw (dw (dw (dw (dw (dw (dw (dw (dw (dw (dw (dw (dw (dw (dw (dw (dw (dw (dw (dw (dw (dw (dw (dw (dw (dw (dw (dw (dw TR TQ) TV) TX) TP) TS) TY) TW) TT) TU) Th) Tf) Td) Tl) Tm) Tn) Te) S2) Ti) S8) Ta) S1) S3) S7) S4) SX) Tk) Tc) Tb) SZ) S5) S0)
theorem Tj:Tryz.pinned.checked.prog.funcNamed Rows.topChoicesRow.func=some 5:=ay
theorem S9:Tryz.f5.isInstance Tryz.pinned.checked.prog Rows.topChoicesRow.origin Rows.topChoicesRow.targs:=of_decide_eq_true ay
theorem S6:Tryz.f5.isWrapper Tryz.pinned.checked.prog Rows.topChoicesRow.wrapper Rows.topChoicesRow.mainSum:=by unfold Func.isWrapper;first|(rw[aH yT];kernel_rfl)|(rw[aE yT];exact⟨rfl,rfl⟩)
theorem Se:Rows.topChoicesRow.holds Tryz.pinned (OpenSpec.ofChange Rows.topChoicesSpec):=OpenClaim.holds_of_wide 5 Tryz.f5 rfl rfl rfl rfl rfl rfl rfl ⟨rfl,rfl,rfl,rfl,rfl⟩ rfl rfl rfl rfl rfl Tj func5 Pr S9 S6 λc a d b _=>Pq c a d b
theorem proved:Rows.TopChoicesSaid:=Se
end
end Go.Proofs.YtihckgobeanocaaGreat
