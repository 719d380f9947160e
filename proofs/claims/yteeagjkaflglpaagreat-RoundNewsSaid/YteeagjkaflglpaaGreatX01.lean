/- Laws that the proof needs, part 1. Conditions: none. -/
import Derived.Test.YteeagjkaflglpaaGreatRows
import Derived.Conc.WgGenN3
import Derived.Laws.Sem
import Derived.Test.YteeagjkaflglpaaGreatX00
set_option maxRecDepth 100000
set_option maxHeartbeats 8000000
set_option linter.all false
namespace Go.Proofs
open Go
@[simp] def V.func4:V.prog.funcs[4]? =some Tryz.f4:=by kernel_rfl
@[simp] def V.func26:V.prog.funcs[26]? =some Tryz.f26:=by kernel_rfl
@[simp] def V.func27:V.prog.funcs[27]? =some Tryz.f27:=by kernel_rfl
@[simp] def V.func28:V.prog.funcs[28]? =some Tryz.f28:=by kernel_rfl
@[simp] def V.func30:V.prog.funcs[30]? =some Tryz.f30:=by kernel_rfl
@[simp] def V.func35:V.prog.funcs[35]? =some Tryz.f35:=by kernel_rfl
@[simp] def V.func38:V.prog.funcs[38]? =some Tryz.f38:=by kernel_rfl
@[simp] def V.func42:V.prog.funcs[42]? =some Tryz.f42:=by kernel_rfl
@[simp] def V.func43:V.prog.funcs[43]? =some Tryz.f43:=by kernel_rfl
@[simp] def V.func44:V.prog.funcs[44]? =some Tryz.f44:=by kernel_rfl
@[simp] def V.func45:V.prog.funcs[45]? =some Tryz.f45:=by kernel_rfl
@[simp] def V.func48:V.prog.funcs[48]? =some Tryz.f48:=by kernel_rfl
@[simp] def V.func53:V.prog.funcs[53]? =some Tryz.f53:=by kernel_rfl
@[simp] def V.func55:V.prog.funcs[55]? =some Tryz.f55:=by kernel_rfl
@[simp] def V.func58:V.prog.funcs[58]? =some Tryz.f58:=by kernel_rfl
@[simp] def V.func59:V.prog.funcs[59]? =some Tryz.f59:=by kernel_rfl
@[simp] def V.func60:V.prog.funcs[60]? =some Tryz.f60:=by kernel_rfl
@[simp] def V.func69:V.prog.funcs[69]? =some Tryz.f69:=by kernel_rfl
@[simp] def V.func71:V.prog.funcs[71]? =some Tryz.f71:=by kernel_rfl
@[simp] def V.func95:V.prog.funcs[95]? =some Tryz.f95:=by kernel_rfl
@[simp] def V.func96:V.prog.funcs[96]? =some Tryz.f96:=by kernel_rfl
@[simp] def V.func97:V.prog.funcs[97]? =some Tryz.f97:=by kernel_rfl
@[simp] def V.func104:V.prog.funcs[104]? =some Tryz.f104:=by kernel_rfl
@[simp] def V.func105:V.prog.funcs[105]? =some Tryz.f105:=by kernel_rfl
@[simp] def V.func106:V.prog.funcs[106]? =some Tryz.f106:=by kernel_rfl
@[simp] def V.func107:V.prog.funcs[107]? =some Tryz.f107:=by kernel_rfl
@[simp] def V.func108:V.prog.funcs[108]? =some Tryz.f108:=by kernel_rfl
@[simp] def V.func109:V.prog.funcs[109]? =some Tryz.f109:=by kernel_rfl
@[simp] def V.func113:V.prog.funcs[113]? =some Tryz.f113:=by kernel_rfl
@[simp] def V.func114:V.prog.funcs[114]? =some Tryz.f114:=by kernel_rfl
@[simp] def V.func115:V.prog.funcs[115]? =some Tryz.f115:=by kernel_rfl
@[simp] def V.func116:V.prog.funcs[116]? =some Tryz.f116:=by kernel_rfl
@[simp] def V.func117:V.prog.funcs[117]? =some Tryz.f117:=by kernel_rfl
@[simp] def V.func119:V.prog.funcs[119]? =some Tryz.f119:=by kernel_rfl
@[simp] def V.func120:V.prog.funcs[120]? =some Tryz.f120:=by kernel_rfl
@[simp] def V.func121:V.prog.funcs[121]? =some Tryz.f121:=by kernel_rfl
@[simp] def V.func122:V.prog.funcs[122]? =some Tryz.f122:=by kernel_rfl
@[simp] def V.func123:V.prog.funcs[123]? =some Tryz.f123:=by kernel_rfl
@[simp] def V.func125:V.prog.funcs[125]? =some Tryz.f125:=by kernel_rfl
@[simp] def V.func128:V.prog.funcs[128]? =some Tryz.f128:=by kernel_rfl
@[simp] def V.call128 (args:Array ce) (w:cd):Sem.run V.prog (callFunc 128 args) w=Result.ok (Next.enter 128 args) w:=by kernel_rfl
@[simp] def V.func129:V.prog.funcs[129]? =some Tryz.f129:=by kernel_rfl
@[simp] def V.func130:V.prog.funcs[130]? =some Tryz.f130:=by kernel_rfl
@[simp] def V.func131:V.prog.funcs[131]? =some Tryz.f131:=by kernel_rfl
@[simp] def V.func133:V.prog.funcs[133]? =some Tryz.f133:=by kernel_rfl
@[simp] def V.func134:V.prog.funcs[134]? =some Tryz.f134:=by kernel_rfl
@[simp] def V.func135:V.prog.funcs[135]? =some Tryz.f135:=by kernel_rfl
@[simp] def V.func137:V.prog.funcs[137]? =some Tryz.f137:=by kernel_rfl
@[simp] def V.func144:V.prog.funcs[144]? =some Tryz.f144:=by kernel_rfl
@[simp] def V.func146:V.prog.funcs[146]? =some Tryz.f146:=by kernel_rfl
@[simp] def V.func153:V.prog.funcs[153]? =some Tryz.f153:=by kernel_rfl
@[simp] def V.func154:V.prog.funcs[154]? =some Tryz.f154:=by kernel_rfl
@[simp] def V.func155:V.prog.funcs[155]? =some Tryz.f155:=by kernel_rfl
@[simp] def V.func156:V.prog.funcs[156]? =some Tryz.f156:=by kernel_rfl
@[simp] def V.func157:V.prog.funcs[157]? =some Tryz.f157:=by kernel_rfl
@[simp] def V.func158:V.prog.funcs[158]? =some Tryz.f158:=by kernel_rfl
@[simp] def V.func159:V.prog.funcs[159]? =some Tryz.f159:=by kernel_rfl
@[simp] def V.func160:V.prog.funcs[160]? =some Tryz.f160:=by kernel_rfl
@[simp] def V.func161:V.prog.funcs[161]? =some Tryz.f161:=by kernel_rfl
@[simp] def V.func162:V.prog.funcs[162]? =some Tryz.f162:=by kernel_rfl
@[simp] def V.func163:V.prog.funcs[163]? =some V.f163:=by kernel_rfl
@[simp] def V.func164:V.prog.funcs[164]? =some Tryz.f164:=by kernel_rfl
@[simp] def V.func165:V.prog.funcs[165]? =some Tryz.f165:=by kernel_rfl
@[simp] def V.func166:V.prog.funcs[166]? =some Tryz.f166:=by kernel_rfl
@[simp] def V.func167:V.prog.funcs[167]? =some Tryz.f167:=by kernel_rfl
@[simp] def V.func168:V.prog.funcs[168]? =some Tryz.f168:=by kernel_rfl
@[simp] def V.func169:V.prog.funcs[169]? =some Tryz.f169:=by kernel_rfl
@[simp] def V.func170:V.prog.funcs[170]? =some Tryz.f170:=by kernel_rfl
@[simp] def V.func171:V.prog.funcs[171]? =some Tryz.f171:=by kernel_rfl
@[simp] def V.func172:V.prog.funcs[172]? =some Tryz.f172:=by kernel_rfl
@[simp] def V.func173:V.prog.funcs[173]? =some Tryz.f173:=by kernel_rfl
@[simp] def V.func174:V.prog.funcs[174]? =some Tryz.f174:=by kernel_rfl
@[simp] def V.func175:V.prog.funcs[175]? =some Tryz.f175:=by kernel_rfl
@[simp] def V.func176:V.prog.funcs[176]? =some Tryz.f176:=by kernel_rfl
@[simp] def V.func178:V.prog.funcs[178]? =some Tryz.f178:=by kernel_rfl
@[simp] def V.func179:V.prog.funcs[179]? =some Tryz.f179:=by kernel_rfl
@[simp] def V.func180:V.prog.funcs[180]? =some Tryz.f180:=by kernel_rfl
@[simp] def V.func184:V.prog.funcs[184]? =some Tryz.f184:=by kernel_rfl
@[simp] def V.func185:V.prog.funcs[185]? =some Tryz.f185:=by kernel_rfl
@[simp] def V.func186:V.prog.funcs[186]? =some Tryz.f186:=by kernel_rfl
@[simp] def V.func190:V.prog.funcs[190]? =some Tryz.f190:=by kernel_rfl
@[simp] def V.func193:V.prog.funcs[193]? =some Tryz.f193:=by kernel_rfl
@[simp] def V.func194:V.prog.funcs[194]? =some Tryz.f194:=by kernel_rfl
@[simp] def V.call194 (args:Array ce) (w:cd):Sem.run V.prog (callFunc 194 args) w=Result.ok (Next.enter 194 args) w:=by kernel_rfl
@[simp] def V.func195:V.prog.funcs[195]? =some Tryz.f195:=by kernel_rfl
@[simp] def V.func196:V.prog.funcs[196]? =some Tryz.f196:=by kernel_rfl
@[simp] def V.func197:V.prog.funcs[197]? =some Tryz.f197:=by kernel_rfl
@[simp] def V.func198:V.prog.funcs[198]? =some Tryz.f198:=by kernel_rfl
@[simp] def V.func199:V.prog.funcs[199]? =some Tryz.f199:=by kernel_rfl
@[simp] def V.func200:V.prog.funcs[200]? =some Tryz.f200:=by kernel_rfl
@[simp] def V.func215:V.prog.funcs[215]? =some Tryz.f215:=by kernel_rfl
@[simp] def V.call215 (args:Array ce) (w:cd):Sem.run V.prog (callFunc 215 args) w=Result.ok (Next.enter 215 args) w:=by kernel_rfl
@[simp] def V.func216:V.prog.funcs[216]? =some Tryz.f216:=by kernel_rfl
@[simp] def V.call216 (args:Array ce) (w:cd):Sem.run V.prog (callFunc 216 args) w=Result.ok (Next.enter 216 args) w:=by kernel_rfl
@[simp] def V.func227:V.prog.funcs[227]? =some Tryz.f227:=by kernel_rfl
@[simp] def V.call227 (args:Array ce) (w:cd):Sem.run V.prog (callFunc 227 args) w=Result.ok (Next.enter 227 args) w:=by kernel_rfl
@[simp] def V.func228:V.prog.funcs[228]? =some Tryz.f228:=by kernel_rfl
@[simp] def V.func229:V.prog.funcs[229]? =some Tryz.f229:=by kernel_rfl
end Go.Proofs
namespace Go.Proofs
abbrev Tryz.link:Go.Conc.Lib.WgLink:={add:=187,done:=189,wait:=192,relMerge:=202,disable:=203,enable:=204,inBubble:=205,associate:=206,fatal:=207,uOr:=208,uAdd:=209,raceRead:=210,uLoad:=211,uStore:=212,disassociate:=213,semrelease:=214,acquire:=217,isAssociated:=218,uCas:=219,raceWrite:=220,semacquire:=221,orU64:=223,addU64:=224,loadU64:=225,storeU64:=226,casU64:=230,tWgP:=255,tUP:=257,tAssoc:=258,tWg:=241,tAU:=238,tU64:=119,tUint:=132,tU32:=239,tPU32:=262,tPAU:=270,tPU64:=272,tNoCopy:=234,tANoCopy:=235,tAlign64:=236}
def Tryz.wO:Go.Conc.Lib.WgLib Tryz.prog Tryz.link:=
 ⟨Tryz.func187,Tryz.func189,Tryz.func192,Tryz.func202,Tryz.func203,Tryz.func204,Tryz.func205,Tryz.func206,Tryz.func207,Tryz.func208,Tryz.func209,Tryz.func210,Tryz.func211,Tryz.func212,Tryz.func213,Tryz.func214,Tryz.func217,Tryz.func218,Tryz.func219,Tryz.func220,Tryz.func221,Tryz.func223,Tryz.func224,Tryz.func225,Tryz.func226,Tryz.func230,Tryz.underlying255,Tryz.runUnderlying255,Tryz.sizeOf255,Tryz.isAgg255,Tryz.zeroValue255,Tryz.underlying257,Tryz.runUnderlying257,Tryz.sizeOf257,Tryz.isAgg257,Tryz.zeroValue257,Tryz.underlying258,Tryz.runUnderlying258,Tryz.sizeOf258,Tryz.isAgg258,Tryz.zeroValue258,Tryz.underlying241,Tryz.runUnderlying241,Tryz.sizeOf241,Tryz.isAgg241,Tryz.zeroValue241,Tryz.underlying238,Tryz.runUnderlying238,Tryz.sizeOf238,Tryz.isAgg238,Tryz.zeroValue238,Tryz.underlying119,Tryz.runUnderlying119,Tryz.sizeOf119,Tryz.isAgg119,Tryz.zeroValue119,Tryz.underlying132,Tryz.runUnderlying132,Tryz.sizeOf132,Tryz.isAgg132,Tryz.zeroValue132,Tryz.underlying239,Tryz.runUnderlying239,Tryz.sizeOf239,Tryz.isAgg239,Tryz.zeroValue239,Tryz.underlying262,Tryz.runUnderlying262,Tryz.sizeOf262,Tryz.isAgg262,Tryz.zeroValue262,Tryz.underlying270,Tryz.runUnderlying270,Tryz.sizeOf270,Tryz.isAgg270,Tryz.zeroValue270,Tryz.underlying272,Tryz.runUnderlying272,Tryz.sizeOf272,Tryz.isAgg272,Tryz.zeroValue272,Tryz.underlying0,Tryz.runUnderlying0,Tryz.sizeOf0,Tryz.isAgg0,Tryz.zeroValue0,Tryz.underlying3,Tryz.runUnderlying3,Tryz.sizeOf3,Tryz.isAgg3,Tryz.zeroValue3,Tryz.underlying4,Tryz.runUnderlying4,Tryz.sizeOf4,Tryz.isAgg4,Tryz.zeroValue4,Tryz.underlying9,Tryz.runUnderlying9,Tryz.sizeOf9,Tryz.isAgg9,Tryz.zeroValue9,Tryz.underlying20,Tryz.runUnderlying20,Tryz.sizeOf20,Tryz.isAgg20,Tryz.zeroValue20,Tryz.underlying21,Tryz.runUnderlying21,Tryz.sizeOf21,Tryz.isAgg21,Tryz.zeroValue21,(by kernel_rfl),(by kernel_rfl)⟩
end Go.Proofs
namespace Go.cF
section
variable{P:cf}{ρ:cR}
theorem SR.Bi{α d:Type}{f:α->Sem d}:∀(l:List α) {ρ:cR},(∀x∈l,∀c,SE P c (f x) (f x))->SE P ρ (l.mapM f) (l.mapM f)
 |[],_,_=>by rw[List.mapM_nil];exact .dT rfl
 |x::l,ρ,h=>by rw[List.mapM_cons];refine(h x (by simp) ρ).du λ_ a b _ e=>?_;subst e;refine(SR.Bi l λy g=>h y (by simp[g])).du λ_ a b _ e=>?_;subst e;exact .dT rfl
theorem SR.mapM{α d:Type}{f:α->Sem d}(xs:Array α)(h:∀x∈xs,∀c,SE P c (f x) (f x)):SE P ρ (xs.mapM f) (xs.mapM f):=by rw[Iz];refine SR.du (f:=λl=>Pure.pure l.toArray) (f':=λl=>Pure.pure l.toArray) (SR.Bi xs.toList λx g=>h x (by simpa using g)) λ_ a b _ e=>?_;subst e;exact .dT rfl
theorem SR.forIn_list{α g:Type}{f f':α->g->Sem (ForInStep g)}:∀(l:List α) (b:g) {ρ:cR},(∀x∈l,∀r c,cR.Le ρ c->SE P c (f x r) (f' x r))->SE P ρ (forIn l b f) (forIn l b f')
 |[],b,_,_=>by simp only[List.forIn_nil];exact .dT rfl
 |x::l,b,ρ,h=>by
  simp only[List.forIn_cons];refine(h x (by simp) b ρ (.refl _)).du λi a m j e=>?_;subst e;cases a with
  |done b=>exact .dT rfl
  |yield b=>exact SR.forIn_list l b λy k r c d=>h y (by simp[k]) r c (j.trans d)
theorem SR.alloc{S:cm->Bool}{dim:Bool}(F:Fit P S dim)(t:cg)(v:ce):SV P ρ (Instr.alloc t true v) (Instr.alloc t true v):=by unfold Instr.alloc;refine(SR.zero F t).du λc z g d e=>?_;refine SR.du (SR.newVar t e) λb a h _ f=>?_;exact .dT (.ptr f)
theorem SR.box(t:cg){v c:ce}(h:VR ρ v c):SV P ρ (Instr.box t v) (Instr.box t c):=by unfold Instr.box;refine SR.du (SR.newVar t h) λb a e _ d=>?_;exact .dT (.ptr d)
inductive oy (ρ:cR):List (Nat×ce)->List (Nat×ce)->Prop
 |nil:oy ρ [] []
 |cons {i:Nat} {v v':ce} {l l':List (Nat×ce)} (h:VR ρ v v') (t:oy ρ l l'):oy ρ ((i,v)::l) ((i,v')::l')
theorem oy.mono{ρ a:cR}(b:cR.Le ρ a){l l':List (Nat×ce)}(h:oy ρ l l'):oy a l l':=by
 induction h with
 |nil=>exact .nil
 |cons h _ c=>exact .cons (h.mono b) c
theorem vK{ev ev':dj->ce}:∀{l:List (Nat×dj)},(∀x∈l,VR ρ (ev x.2) (ev' x.2))->oy ρ (l.map λ(i,x)=>(i,ev x)) (l.map λ(i,x)=>(i,ev' x))
 |[],_=>.nil
 |(i,x)::l,h=>.cons (h (i,x) (by simp)) (vK λy a=>h y (by simp[a]))
def Md{l l':List ce}(h:qo ρ l l')(b:Nat):∀(n:Nat) {cs a:Array ce},eT ρ cs a->
 eT ρ ((l.zipIdx n).foldl (λcs (x:ce×Nat)=>cs.setIfInBounds (b+x.2) x.1) cs) ((l'.zipIdx n).foldl (λcs (x:ce×Nat)=>cs.setIfInBounds (b+x.2) x.1) a):=by
 induction h with
 |nil=>exactλn cs a c=>c
 |cons h _ d=>
  intro n cs a c;simp only[List.zipIdx_cons,mP];exact d (n+1) (c.set _ h)
def GQ(a:Nat->Option (Nat×Nat)){l l':List (Nat×ce)}(h:oy ρ l l'):∀{cs b:Array ce},eT ρ cs b->(Instr.fill a cs l=none/\Instr.fill a b l'=none)\/∃r r',Instr.fill a cs l=some r/\Instr.fill a b l'=some r'/\eT ρ r r':=by
 induction h with
 |nil=>exactλc=>.inr ⟨_,_,rfl,rfl,c⟩
 | @cons i v j l l' h _ e=>
  intro cs b c;simp only[Instr.fill];cases a i with
  |none=>exact .inl ⟨rfl,rfl⟩
  |some p=>
   obtain⟨d,size⟩:=p;have f:=h.cells.size;have g:=c.size;simp only[<-f,<-g];split;exact .inl ⟨rfl,rfl⟩;refine e ?_;have:=Md h.cells.list d 0 c;rw[<-L3,<-L3,Array.toList_zipIdx,Array.toList_zipIdx];exact this
theorem SR.build{S:cm->Bool}{dim:Bool}(F:Fit P S dim)(t:cg){ps j:Array (Nat×ce)}(h:oy ρ ps.toList j.toList):SV P ρ (Instr.build t ps) (Instr.build t j):=by unfold Instr.build;refine(SR.zero F t).du λm z w n s=>?_;have u:=h.mono n;refine(SR.under t).du λo a b d e=>?_;obtain⟨rfl,_⟩:=e;have q:=u.mono d;have k:=(s.mono d).cells;split;refine SR.du (SR.mapM _ λx _ m=>?_) λf a b c e=>?_;refine(SR.size _).du λ_ a b _ e=>?_;obtain⟨rfl,_⟩:=e;exact .dT rfl;subst e;rcases GQ (a[·]?) (q.mono c) (k.mono c)with⟨g,l⟩|⟨r,v,g,l,p⟩;simp only[g];exact .stuck;simp only[g,l];exact .dT p.agg;rename_i e _;refine(SR.size e).du λf a b c e=>?_;obtain⟨rfl,_⟩:=e;rcases GQ (λi=>some (i*a,a)) (q.mono c) (k.mono c)with⟨g,l⟩|⟨r,v,g,l,p⟩;simp only[g];exact .stuck;simp only[g,l];exact .dT p.agg;exact .stuck
def CC{z b:Array ce}(h:eT ρ z b)(n:Nat):eT ρ ((Array.range n).map (z[·%z.size]!)) ((Array.range n).map (b[·%b.size]!)):=by
 refine eT.map _ _ _ λi _=>?_;have e:∀(a:Array ce) (i:Nat),a[i]! =(a[i]?).getD default:=λa i=>by simp[getElem!_def];cases a[i]? <;>rfl
 rw[e,e,<-h.size];rcases h.get? (i%z.size)with⟨c,d⟩|⟨v,g,c,d,f⟩;rw[c,d];exact .bool _;rw[c,d];exact f
theorem SR.buildSlice{S:cm->Bool}{dim:Bool}(F:Fit P S dim)(t:cg)(n:Nat){ps j:Array (Nat×ce)}(h:oy ρ ps.toList j.toList):SV P ρ (Instr.buildSlice t n ps) (Instr.buildSlice t n j):=by
 unfold Instr.buildSlice;refine(SR.under t).du λo a b f e=>?_;obtain⟨rfl,_⟩:=e;have v:=h.mono f;split;rename_i e _;refine(SR.size e).du λk a b g e=>?_;obtain⟨rfl,_⟩:=e;have w:=v.mono g;dsimp only;split;exact .fA;have tail:∀d z l,cR.Le k d->eT d z l->SV P d
  (match Instr.fill (λi=>some (i*a,a)) (Array.map (λx=>z[x%z.size]!) (Array.range (n*a))) ps.toList with
    |some cells=>do Pure.pure (Value.slice (some (<-Go.newRow e cells)) n n)
    |_=>Go.stuck "buildSlice: a part of the wrong size")
  (match Instr.fill (λi=>some (i*a,a)) (Array.map (λx=>l[x%l.size]!) (Array.range (n*a))) j.toList with
    |some cells=>do Pure.pure (Value.slice (some (<-Go.newRow e cells)) n n)
    |_=>Go.stuck "buildSlice: a part of the wrong size"):=by
  intro d z l c m;rcases GQ (λi=>some (i*a,a)) (w.mono c) (CC m (n*a))with⟨p,u⟩|⟨r,D,p,u,y⟩;simp only[p];exact .stuck;simp only[p,u];refine SR.du (SR.newRow _ y) λq x E _ B=>?_;exact .dT (.slice _ _ B)
 split;exact SR.du (A:=λρ a b=>eT ρ a b) (.dT .nil) λd z l c m=>tail _ _ _ c m;refine(SR.zero F _).du λC z l s m=>?_;exact SR.du (A:=λρ a b=>eT ρ a b) (.dT m.cells) λd z l c m=>tail _ _ _ (s.trans c) m;exact .stuck
theorem SR.loadAt(t:cg){v b:ce}(h:VR ρ v b):SV P ρ (Instr.loadAt t v) (Instr.loadAt t b):=by unfold Instr.loadAt;exact(SR.sure h).du λ_ a d _ c=>SR.loadVar t c
theorem SR.storeAt(t:cg){v c x d:ce}(h:VR ρ v c)(e:VR ρ x d):SE P ρ (Instr.storeAt t v x) (Instr.storeAt t c d):=by unfold Instr.storeAt;exact(SR.sure h).du λ_ a g b f=>SR.storeVar t f (e.mono b)
theorem SR.fieldAt(s:cg)(i:Nat)(g:GK P (λ_=>false) false false (.fieldAddr s (.tmp 0) i)=true){v r:ce}(h:VR ρ v r):SV P ρ (Instr.fieldAt s v i) (Instr.fieldAt s r i):=by unfold Instr.fieldAt;refine(SR.under s).du λm a b c e=>?_;obtain⟨rfl,t⟩:=e;have u:=h.mono c;simp only[GK,t]at g;split;rename_i k;split;rename_i f w;simp only[w]at g;refine(SR.sure u).du λo a x l p=>?_;refine SR.du (A:=λρ a b=>AR ρ a b) ?_ λ_ a x _ p=>.dT (.ptr p);unfold fieldPlace;refine(SR.size _).du λq n z d e=>?_;obtain⟨rfl,j,y,rfl⟩:=e;simp only[y,bne_iff_ne,ne_eq]at g;rw[cr g,cr g];exact .dT ((p.mono d).add _);exact .stuck;exact .stuck
theorem SR.indexAt(t:cg){x D i E:ce}(F:VR ρ x D)(G:VR ρ i E):SV P ρ (Instr.indexAt t x i) (Instr.indexAt t D E):=by
 unfold Instr.indexAt;refine(SR.intOf G).du λv a b o e=>?_;obtain⟨rfl,_,_⟩:=e;have w:=F.mono o;obtain⟨k,i⟩:=a;dsimp only;refine(SR.under t).du λy a b q e=>?_;obtain⟨rfl,_⟩:=e;have s:=w.mono q;cases a with
 |array j g=>
  refine(SR.sure s).du λz p B u C=>?_;refine SR.du (A:=λ_ a b=>a=(some p,j,g)/\b=(some B,j,g)) (.dT ⟨rfl,rfl⟩) λl a b d e=>?_;obtain⟨rfl,rfl⟩:=e;dsimp only;refine(SR.under t).du λm a b f e=>?_;obtain⟨rfl,_⟩:=e;split;refine(SR.size _).du λr n H h e=>?_;obtain⟨rfl,_⟩:=e;exact .dT (.ptr ((((C.mono d).mono f).mono h).add _))
  ·repeat' split
   all_goals first|exact .fA|exact SR.boundsPanic _ _ _ _
 |slice g=>
  cases s with
  |fc j c=>
   refine SR.du (A:=λ_ a b=>a=(none,j,g)/\b=(none,j,g)) (.dT ⟨rfl,rfl⟩) λl a b d e=>?_;obtain⟨rfl,rfl⟩:=e;dsimp only;refine(SR.under t).du λm a b f e=>?_;obtain⟨rfl,_⟩:=e;exact SR.boundsPanic _ _ _ _
  | @slice p B j c C=>
   refine SR.du (A:=λ_ a b=>a=(some p,j,g)/\b=(some B,j,g)) (.dT ⟨rfl,rfl⟩) λl a b d e=>?_;obtain⟨rfl,rfl⟩:=e;dsimp only;refine(SR.under t).du λm a b f e=>?_;obtain⟨rfl,_⟩:=e;split;refine(SR.size _).du λr n H h e=>?_;obtain⟨rfl,_⟩:=e;exact .dT (.ptr (((C.mono d).mono f).mono h|>.add _))
   ·repeat' split
    all_goals first|exact .fA|exact SR.boundsPanic _ _ _ _
  |_=>exact .dead rfl
 |_=>exact .dead rfl
def SR.bound{x g:ce}(h:VR ρ x g)(y:Nat)(c:BoundsCode):SE P ρ (Instr.sliceBound x y c) (Instr.sliceBound g y c):=by unfold Instr.sliceBound;refine(SR.intOf h).du λf a b d e=>?_;obtain⟨rfl,_,_⟩:=e;obtain⟨k,i⟩:=a;dsimp only;split;exact .dT rfl;exact SR.boundsPanic _ _ _ _
inductive qR (ρ:cR):Option ce->Option ce->Prop
 |none:qR ρ none none
 |some {v v':ce} (h:VR ρ v v'):qR ρ (some v) (some v')
theorem qR.mono{ρ a:cR}(b:cR.Le ρ a){o o':Option ce}(h:qR ρ o o'):qR a o o':=by
 cases h with
 |none=>exact .none
 |some h=>exact .some (h.mono b)
def V1(h m:Nat)(c:BoundsCode)(g d:Option ce):qR ρ g d->SE P ρ (match g with|some v=>do let l<-Instr.sliceBound v h c;Pure.pure (l,h,m)|none=>do let l<-Pure.pure 0;Pure.pure (l,h,m))
 (match d with|some v=>do let l<-Instr.sliceBound v h c;Pure.pure (l,h,m)|none=>do let l<-Pure.pure 0;Pure.pure (l,h,m)):=by
 intro f;cases f with
 |none=>exact SR.du (A:=λ_ a b=>a=b) (.dT rfl) λ_ a b _ e=>by subst e;exact .dT rfl
 |some f=>exact SR.du (SR.bound f _ _) λ_ a b _ e=>by subst e;exact .dT rfl
def SR.bounds(l:Bool)(n cap:Nat){s i v o w p:Option ce}(y:qR ρ s i)(x:qR ρ v o)(t:qR ρ w p):SE P ρ (Instr.sliceBounds l n cap s v w) (Instr.sliceBounds l n cap i o p):=by
 unfold Instr.sliceBounds;have j:=λq (u:cR.Le ρ q) h m c=>V1 h m c (ρ:=q) s i (y.mono u) (P:=P);cases t with
 |none=>
  dsimp only;refine SR.du (A:=λ_ a b=>a=b) (.dT rfl) λk m r d e=>?_;subst e;cases x with
  |none=>
   dsimp only;refine SR.du (A:=λ_ a b=>a=b) (.dT rfl) λg m r f e=>?_;subst e;exact j _ (d.trans f) _ _ _
  |some h=>
   dsimp only;refine SR.du (SR.bound (h.mono d) _ _) λg m r f e=>?_;subst e;exact j _ (d.trans f) _ _ _
 |some t=>
  dsimp only;refine SR.du (SR.bound t _ _) λk m r d e=>?_;subst e;cases x with
  |none=>exact .dead rfl
  |some h=>
   dsimp only;refine SR.du (SR.bound (h.mono d) _ _) λg m r f e=>?_;subst e;exact j _ (d.trans f) _ _ _
theorem SR.slice(t:cg){x B:ce}{C q D r v k:Option ce}(F:VR ρ x B)(G:qR ρ C q)(H:qR ρ D r)(E:qR ρ v k):SV P ρ (Instr.slice t x C D v) (Instr.slice t B q r k):=by
 unfold Instr.slice;refine(SR.under t).du λw a b f e=>?_;obtain⟨rfl,_⟩:=e;have l:=F.mono f;have m:=G.mono f;have o:=H.mono f;have s:=E.mono f;have I:v.isSome=k.isSome:=by cases E<;>rfl
 cases a with
 |string=>
  cases l<;>first
   |exact .stuck
   |(dsimp only;rw[<-I];split;exact .stuck;refine(SR.bounds _ _ _ m o .none).du λg a b _ e=>?_;subst e;exact .dT (.string _))
 |slice h=>
  cases l<;>first
   |exact .stuck
   |(dsimp only;refine(SR.bounds _ _ _ m o s).du λg a b d e=>?_;subst e;refine(SR.size h).du λp n J c e=>?_;obtain⟨rfl,_⟩:=e;refine .dT ?_;split;first|exact .fc _ _|exact .slice _ _ ((AR.mono d ‹_›).mono c)
     first|exact .fc _ _|exact .slice _ _ (((AR.mono d ‹_›).mono c).add _))
 |pointer y=>
  refine(SR.asAddr l).du λg a L d K=>?_;refine(SR.under y).du λp a b c e=>?_;obtain⟨rfl,_⟩:=e;cases a with
  |array n h=>
   refine(SR.bounds _ _ _ ((m.mono d).mono c) ((o.mono d).mono c) ((s.mono d).mono c)).du λz a b i e=>?_;subst e;refine(SR.size h).du λA n J j e=>?_;obtain⟨rfl,_⟩:=e;have u:=((K.mono c).mono i).mono j;refine .dT (.slice _ _ ?_);split;exact u;exact u.add _
  |_=>exact .stuck
 |_=>exact .stuck
theorem SR.sliceAt(t:cg){x w:ce}{y h z i A j:Option ce}(B:VR ρ x w)(C:qR ρ y h)(D:qR ρ z i)(E:qR ρ A j):SV P ρ (Instr.sliceAt t x y z A) (Instr.sliceAt t w h i j):=by
 unfold Instr.sliceAt;refine(SR.under t).du λr a b c e=>?_;obtain⟨rfl,_⟩:=e;have k:=B.mono c;have l:=C.mono c;have m:=D.mono c;have o:=E.mono c;cases a with
 |array n p=>
  refine(SR.sure k).du λs a G d F=>?_;refine(SR.bounds _ _ _ (l.mono d) (m.mono d) (o.mono d)).du λu a b f e=>?_;subst e;refine(SR.size p).du λv n H g e=>?_;obtain⟨rfl,_⟩:=e;have q:=(F.mono f).mono g;refine .dT (.slice _ _ ?_);split;exact q;exact q.add _
 |_=>exact SR.slice t k l m o
theorem SR.index(t:cg){x p i q:ce}(r:VR ρ x p)(s:VR ρ i q):SV P ρ (Instr.index t x i) (Instr.index t p q):=by
 unfold Instr.index;refine(SR.intOf s).du λj a b c e=>?_;obtain⟨rfl,_,_⟩:=e;have l:=r.mono c;obtain⟨k,i⟩:=a;refine(SR.under t).du λm a b d e=>?_;obtain⟨rfl,_⟩:=e;have h:=l.mono d;cases a with
 |array u g=>
  cases h<;>first
   |exact .stuck
   |(dsimp only;split;refine(SR.size g).du λo n v f e=>?_;obtain⟨rfl,_⟩:=e;exact SR.part g (eT.mono f ⟨‹_›,‹_›⟩) _;exact SR.boundsPanic _ _ _ _)
 |string=>
  cases h<;>first
   |exact .stuck
   |(dsimp only;split;exact .dT (.int _ _);exact SR.boundsPanic _ _ _ _)
 |_=>exact .stuck
theorem SR.field(t:cg){x k:ce}(l:VR ρ x k)(i:Nat):SV P ρ (Instr.field t x i) (Instr.field t k i):=by
 unfold Instr.field;refine(SR.under t).du λg a b c e=>?_;obtain⟨rfl,_⟩:=e;have h:=l.mono c;cases a with
 |struct d=>
  dsimp only;split;refine(SR.asAgg h).du λj a n f m=>?_;exact SR.part _ m _;exact .stuck
 |_=>exact .stuck
theorem SR.extract{x c:ce}(e:VR ρ x c)(i:Nat):SV P ρ (Instr.extract x i) (Instr.extract c i):=by
 unfold Instr.extract;cases e with
 |tuple f g=>
  dsimp only;rcases eT.get? ⟨f,g⟩ i with⟨b,d⟩|⟨v,j,b,d,h⟩;rw[b];exact .stuck;rw[b,d];exact .dT h
 |CB k a=>simp;exact .stuck
 |_=>exact .stuck
theorem SR.unary(a:UnOp){x b:ce}(c:VR ρ x b):SV P ρ (Op.unary a x) (Op.unary a b):=by
 unfold Op.unary;cases a<;>cases c<;>first
  |exact .stuck
  |exact .fA
  |exact .dT (.int _ _)
  |exact .dT (.bool _)
end
section
variable{P:cf}{ρ:cR}
theorem AR.block{a c b d:Addr}(h:AR ρ a c)(k:AR ρ b d):(a.block=b.block↔c.block=d.block)/\(a=b↔c=d):=by
 cases h with
 | @mk f g l m h=>
  cases k with
  | @mk i j n o k=>
   have e:f=i↔g=j:=⟨λe=>by subst e;exact ρ.inj₁ _ _ _ h k,λe=>by subst e;exact ρ.inj₂ _ _ _ h k⟩;refine⟨e,?_⟩;simp only[Addr.mk.injEq,e];constructor;rintro⟨rfl,rfl,rfl⟩;exact⟨rfl,rfl,rfl⟩;rintro⟨rfl,p,rfl⟩;exact⟨rfl,by omega,rfl⟩
theorem AR.r{a b:Addr}(h:AR ρ a b):ρ.r a.block b.block:=by cases h with|mk o s h=>exact h
theorem AR.off{a b:Addr}(h:AR ρ a b):a.off+(ρ.sh b.block).getD 0=b.off/\a.spot=b.spot:=by cases h with|mk o s h=>exact⟨rfl,rfl⟩
def SR.Vr{r r':Nat}(h:ρ.r r r'):SR P (λρ a b=>(ρ.sh r'=none/\a=b)\/∃m y,a=some (qO,m)/\b=some y) ρ (Go.shape r) (Go.shape r'):=.shape h (λc x=>.pure (.inl ⟨c,rfl⟩)) λ_ m y=>.pure (.inr ⟨m,y,rfl,rfl⟩)
theorem SR.viewAt{r r':Nat}(h:ρ.r r r'):SE P ρ (Go.viewAt r) (Go.viewAt r'):=by
 unfold Go.viewAt;refine(SR.Vr h).du λc a b d e=>?_;rcases e with⟨_,rfl⟩|⟨m,y,rfl,rfl⟩;case inr=>exact .dT rfl
 try dsimp only
 split;exact .dT rfl;refine SR.du (A:=λρ a b=>jJ ρ a b) (.getObj (d.r _ _ h) λo i f _=>.pure f) λg o i _ f=>?_;cases f<;>exact .dT rfl
theorem SR.numberAt{r r':Nat}(h:ρ.r r r'):SR P (λρ a b=>(a=none/\b=none)\/∃x y l,a=some (x,l)/\b=some (y,l)/\AR ρ x y) ρ (Go.numberAt r) (Go.numberAt r'):=by
 unfold Go.numberAt;refine(SR.Vr h).du λc a b d e=>?_;rcases e with⟨_,rfl⟩|⟨m,y,rfl,rfl⟩;case inr=>exact .dT (.inl ⟨rfl,rfl⟩)
 try dsimp only
 split;exact .dT (.inl ⟨rfl,rfl⟩);refine SR.du (A:=λρ a b=>jJ ρ a b) (.getObj (d.r _ _ h) λo i f _=>.pure f) λg o i _ f=>?_;cases f with
 |number l h=>exact .dT (.inr ⟨_,_,l,rfl,rfl,h⟩)
 |_=>exact .dT (.inl ⟨rfl,rfl⟩)
def SR.behind{a f:Addr}(h:AR ρ a f):SR P (λρ a b=>AR ρ a.1 b.1/\a.2=b.2) ρ (behindNumber a) (behindNumber f):=by unfold behindNumber;refine(SR.numberAt h.r).du λc x y d e=>?_;rcases e with⟨rfl,rfl⟩|⟨x,y,l,rfl,rfl,g⟩;exact .dT ⟨h.mono d,rfl⟩;exact .dT ⟨g,rfl⟩
theorem SR.noView{a c:Addr}(h:AR ρ a c):SE P ρ (Go.noView a) (Go.noView c):=by unfold Go.noView;refine(SR.viewAt h.r).du λb x y d e=>?_;subst e;split;exact .fA;exact .dT rfl
theorem SR.byteOf{a i:Addr}(h:AR ρ a i)(n:ρ.sh i.block=none):SE P ρ (Go.byteOf a) (Go.byteOf i):=by
 have o:a.off=i.off:=by have:=h.off.1;rw[n]at this;exact this
 unfold Go.byteOf;rw[<-h.off.2];try dsimp only
 split;exact .dT rfl;refine SR.prog.du λk x y d e=>?_;obtain⟨rfl,rfl⟩:=e;try simp only[ff,jx,gX,gW,eB,eL,fl,eN]
 refine(SR.noView (h.mono d)).du λf _ _ c _=>?_;have l:f.sh i.block=none:=by rw[<-c.g,<-d.g];exact n
 refine SR.du (A:=λ_ a b=>a=b) (.shape (((h.mono d).mono c).r) (λ_ x=>.pure rfl) λh=>absurd l h) λm x y j e=>?_;subst e;try dsimp only
 split;rw[<-o];split;exact .dT rfl;split;exact .dT rfl;exact .stuck;exact .stuck
def SR.add{S:cm->Bool}{dim:Bool}(E:Fit P S dim)(at_:Array cg)(t:cg){p C y v:ce}(h:VR ρ p C)(F:VR ρ y v)(G:∃a,p=.pointer a):
 SR P (λρ a b=>VR ρ a b/\∃x,a=.pointer x) ρ (Builtin.unsafeAdd_ at_ t #[p,y]) (Builtin.unsafeAdd_ at_ t #[C,v]):=by
 obtain⟨a,rfl⟩:=G;have k:∀(o u:Option Addr),((o=none/\u=none)\/∃a l,o=some a/\u=some l/\AR ρ a l)->
  SR P (λρ a b=>VR ρ a b/\∃x,a=.pointer x) ρ (Builtin.unsafeAdd_ at_ t #[.pointer o,y]) (Builtin.unsafeAdd_ at_ t #[.pointer u,v]):=by
  intro o u h;unfold Builtin.unsafeAdd_;refine(SR.asInt F).du λw n m f e=>?_;subst e;dsimp only;rcases h with⟨rfl,rfl⟩|⟨a,l,rfl,rfl,q⟩
  ·dsimp only;repeat' split
   all_goals exact .dead rfl
  dsimp only;split;refine(SR.viewAt (q.mono f).r).du λz x y j e=>?_;subst e;split;exact .fA;exact .dT ⟨.ptr ((q.mono f).mono j),_,rfl⟩;split;exact .fA
  ·refine(SR.Vr (q.mono f).r).du λA x y d e=>?_;rcases e with⟨D,rfl⟩|⟨m,y,rfl,rfl⟩;case inr=>
    refine SR.prog.du λi x y c e=>?_;obtain⟨rfl,rfl⟩:=e;have H:x.cellsOf qO=0:=by simp[Program.cellsOf,E.bad]
    simp only[cellAtBytes,H,true_or,cX];exact .fA
   try dsimp only
   split;refine SR.prog.du λi x y c e=>?_;obtain⟨rfl,rfl⟩:=e;try simp only[ff,jx,gX,gW,eB,eL,fl,eN]
   have I:a.off=l.off:=by have:=((q.mono f).mono d).off.1;rw[D]at this;exact this
   rw[<-I];split;refine .dT ⟨.ptr ?_,_,rfl⟩;have:=((q.mono f).mono d).mono c;have B:i.sh l.block=none:=by rw[<-c.g];exact D
   cases this with|mk o s h=>exact .of _ _ h B
   exact .fA;exact .fA
 cases h with
 |iw=>exact k _ _ (.inl ⟨rfl,rfl⟩)
 |ptr h=>exact k _ _ (.inr ⟨_,_,rfl,rfl,h⟩)
theorem SR.asNumber{a c:Addr}(l:Bool)(h:AR ρ a c):SV P ρ (Go.asNumber a l) (Go.asNumber c l):=by unfold Go.asNumber;refine SR.du (A:=λρ a b=>ρ.r a b/\ρ.sh b=none) (.new (.number l h) λn i j k e=>.pure ⟨cR.rW _ _ _ _ _,e⟩) λf a b g d=>?_;exact .dT (.ptr (.of _ _ d.1 d.2))
def SR.Bj{S:cm->Bool}{dim:Bool}(F:Fit P S dim)(t:cg){x n y o:ce}(s:VR ρ x n)(u:VR ρ y o)(A:∃a,x=.pointer a):SV P ρ (movedNumber t x y) (movedNumber t n o):=by
 unfold movedNumber;refine(SR.under t).du λj a b c e=>?_;obtain⟨rfl,_⟩:=e;have k:=s.mono c;have f:=u.mono c;try dsimp only
 split;exact .fA;obtain⟨a,rfl⟩:=A;cases k with
 |iw=>exact(SR.add F #[] t .iw f ⟨_,rfl⟩).qA λ_ _ _ _ h=>h.1
 |ptr B=>
  dsimp only;refine(SR.behind B).du λl p q d e=>?_;obtain⟨g,r⟩:=e;obtain⟨D,E⟩:=p;obtain⟨G,H⟩:=q;simp only at r g;subst r;dsimp only;refine(SR.add F #[] t (.ptr g) (f.mono d) ⟨_,rfl⟩).du λm v w i e=>?_;obtain⟨C,z,rfl⟩:=e;cases C with
  |iw=>exact .dT .iw
  |ptr h=>exact SR.asNumber _ h
def SR.Me{S:cm->Bool}{dim:Bool}(F:Fit P S dim)(t:cg){x d y f:ce}(j:VR ρ x d)(g:VR ρ y f)(k:∃a,x=.pointer a):SV P ρ (movedPointer t x y) (movedPointer t d f):=by
 unfold movedPointer;obtain⟨a,rfl⟩:=k;cases j with
 |iw=>exact(SR.add F #[] t .iw g ⟨_,rfl⟩).qA λ_ _ _ _ h=>h.1
 |ptr i=>
  dsimp only;refine(SR.numberAt i.r).du λc p q b e=>?_;have l:p.isSome=q.isSome:=by rcases e with⟨rfl,rfl⟩|⟨_,_,_,rfl,rfl,_⟩<;>rfl
  rw[<-l];split;exact .fA;exact(SR.add F #[] t (.ptr (i.mono b)) (g.mono b) ⟨_,rfl⟩).qA λ_ _ _ _ h=>h.1
theorem SR.twoPlaces{S:cm->Bool}{dim:Bool}(F:Fit P S dim){A:cR->Nat×Nat->Nat×Nat->Prop}(a b f g:Addr):SR P A ρ (Op.twoPlaces a b) (Op.twoPlaces f g):=by
 unfold Op.twoPlaces;have e:∀c:Bool,(c||decide (a.block>=P.globals.size))=true:=λc=>by simp[F.globals]
 refine SR.prog.du λd x y h i=>?_;obtain⟨rfl,rfl⟩:=i;try simp only[ff,jx,gX,gW,eB,eL,fl,eN]
 rw[cx (e _)];exact .dead rfl
theorem SR.addrMod(f:P.info? qO=none)(k:IntKind){a o:Addr}(h:AR ρ a o)(n:Int):SV P ρ (Op.addrMod k a n) (Op.addrMod k o n):=by
 unfold Op.addrMod;refine(SR.Vr h.r).du λi x y c e=>?_;rcases e with⟨p,rfl⟩|⟨m,y,rfl,rfl⟩;case inr=>
  refine .never λw=>?_;obtain⟨d,q⟩:∃d,(typeInfo qO).run P w=.halt (.stuck d) w:=by unfold typeInfo;rw[Sem.run_bind];simp only[show(Go.program).run P w=.ok P w from rfl,Result.andThen_ok,f];exact⟨_,rfl⟩
  refine⟨.stuck d,w,?_,rfl⟩;dsimp only;rw[Sem.run_bind,q];rfl
 try dsimp only
 split;refine(SR.info _).du λj x y b e=>?_;obtain⟨rfl,_⟩:=e;try dsimp only
 split;exact .fA;refine(SR.byteOf ((h.mono c).mono b) (by rw[<-b.g];exact p)).du λl x y _ e=>?_;subst e;exact .dT (.int _ _);exact .fA
theorem SR.V2   {S : FuncId → Bool} {dim : Bool} (F : Fit P S dim) (m : Nat) : ∀ (d : Nat) (t : TypeId), eK       P m t = true → m ≤ d → ∀ {ρ : cR}  {x x' y y' : Value}, VR ρ x x' → VR ρ y y' → SE P ρ (Op.equalIn d t x y) (Op.equalIn d t x' y') := by
  induction m with
  | zero => intro d t h; simp [eK]       at h
  | succ m ih =>
    intro d t hf Z3  ρ x x' y y' hx hy
    obtain _ | d := d
    · omega
    have T9   : m ≤ d := by omega
    unfold Op.equalIn
    refine (SR.under t).du  fun Re a b Mf   e => ?_
    obtain ⟨rfl, hu⟩ := e
    have TQ  := hx.mono Mf
    have Pi  := hy.mono Mf
    simp only [eK,       hu] at hf
    cases a with
    | bool => cases TQ  <;> cases Pi  <;> first | exact .dT  rfl | exact .stuck
    | string => cases TQ  <;> cases Pi  <;> first | exact .dT  rfl | exact .stuck
    | slice e => cases TQ  <;> cases Pi  <;> first | exact .dT  rfl | exact .stuck
    | int k =>
      cases TQ  with
      | ptr ha => cases Pi  with
        | ptr hb =>
           refine (SR.behind ha).du  fun Rf p q tp   e => ?_
           refine (SR.behind (hb.mono tp)).du    fun Rg p' q' tq   e' => ?_
           dsimp only
           have hg : ∀ (c : Bool) (n : Nat), (c && decide (n < P.globals.size)) = false := fun c n => by simp [F.globals]
           refine SR.prog.du  fun IF x y CE   e1 => ?_
           obtain ⟨rfl, rfl⟩ := e1
           try simp only [ff,             jx,        gX,          gW,          eB,              eL,             fl,              eN]
           rw [hg, hg]
           simp only [Bool.false_eq_true, if_false]
           refine (SR.info t).du  fun Rh i j CF   e2 => ?_
           obtain ⟨rfl, _⟩ := e2
           have hA := (e.1.mono tq).block   e'.1
           split
           · have : (p.1 == p'.1) = (q.1 == q'.1) := by
               rw [Bool.eq_iff_iff]; simp only [beq_iff_eq]; exact hA.2
             rw [this]
             split
             · exact .dT  rfl
             · exact .fA
           · exact .fA
        | int k n =>
          rcases n with (_ | j) | j
          · exact .dT  rfl
          · exact .fA
          · exact .fA
        | _ => exact .fA
      | int k n => cases Pi  with
        | ptr hb =>
          rcases n with (_ | j) | j
          · exact .dT  rfl
          · exact .fA
          · exact .fA
        | int k' n' =>
          by_cases hk : k = k'
          · subst hk
            show SE P _ (if k = k then Pure.pure (n == n') else Go.stuck "==: kinds differ") (if k = k then Pure.pure (n == n') else Go.stuck "==: kinds differ")
            rw [if_pos rfl]
            exact .dT  rfl
          · show SE P _ (if k = k' then Pure.pure (n == n') else Go.stuck "==: kinds differ") (if k = k' then Pure.pure (n == n') else Go.stuck "==: kinds differ")
            rw [if_neg hk]
            exact .stuck
        | iw     => exact .fA
        | _ => exact .stuck
      | iw     => cases Pi  <;> exact .fA
      | _ => cases Pi  <;> first | exact .fA    | exact .stuck
    | struct fields =>
      simp only [Bool.and_eq_true, Bool.not_eq_true', Array.all_eq_true_iff_forall_mem] at hf
      cases TQ  <;> cases Pi  <;> first
        | exact .stuck
        | (rename_i h1 h2 _ _ h3 h4
           dsimp only
           refine SR.prog.du  fun Rf x y tp   e1 => ?_
           obtain ⟨rfl, rfl⟩ := e1
           try simp only [ff,             jx,        gX,          gW,          eB,              eL,             fl,              eN]
           rw [hf.1]
           simp only [Bool.false_eq_true, if_false]
           rw [← Array.forIn_toList, ← Array.forIn_toList]
           refine SR.du  (SR.forIn_list _ _ fun f Xw  r Rg tq   => ?_) fun IF r r' _ e => ?_
           · split
             · refine (SR.part f.type (eT.mono  (tp.trans   tq)   ⟨h1, h2⟩) f.offset).du  fun IF v v' CE   hv => ?_
               refine (SR.part f.type (eT.mono  ((tp.trans   tq).trans   CE)   ⟨h3, h4⟩) f.offset).du  fun Rh w w' CF   hw => ?_
               refine (ih d f.type (hf.2 f (by simpa using Xw))  T9   (hv.mono CF)   hw).du  fun Ua p q _ e => ?_
               subst e
               split <;> exact .dT  rfl
             · exact .dT  rfl
           · subst e
             split <;> exact .dT  rfl)
    | array len elem =>
      cases TQ  <;> cases Pi  <;> first
        | exact .stuck
        | (rename_i h1 h2 _ _ h3 h4
           dsimp only
           refine (SR.size elem).du  fun Rf n n' tp   e1 => ?_
           obtain ⟨rfl, _⟩ := e1
           simp only [Std.Legacy.Range.forIn_eq_forIn_range']
           refine SR.du  (SR.forIn_list _ _ fun i Xw  r Rg tq   => ?_) fun IF r r' _ e => ?_
           · refine (SR.part elem (eT.mono  (tp.trans   tq)   ⟨h1, h2⟩) _).du  fun IF v v' CE   hv => ?_
             refine (SR.part elem (eT.mono  ((tp.trans   tq).trans   CE)   ⟨h3, h4⟩) _).du  fun Rh w w' CF   hw => ?_
             refine (ih d elem hf T9   (hv.mono CF)   hw).du  fun Ua p q _ e => ?_
             subst e
             split <;> exact .dT  rfl
           · subst e
             split <;> exact .dT  rfl)
    | _ => simp at hf
end
section
variable{P:cf}{ρ:cR}
def vL(m:Nat):∀(d:Nat) (t:cg),eK P m t=true->m<=d->P.eqGuardType d t=false:=by
 induction m with
 |zero=>intro d t h;simp[eK]at h
 |succ m g=>
  intro d t f k;obtain _|d:=d;omega;have c:m<=d:=by omega
  simp only[eK]at f;unfold Program.eqGuardType;split at f;rename_i a;simp[a];rename_i a;simp[a];rename_i a;simp[a];rename_i a;simp[a];rename_i j a;simp only[ez,DU]at f;simp only[a];refine Bool.eq_false_iff.2 λb=>?_;obtain⟨i,l,b⟩:=Array.any_eq_true.1 b;simp only[ez]at b;rw[g d j[i].type (f.2 j[i] (Array.getElem_mem l)) c]at b;cases b.2;rename_i e a;simp only[a];exact g d e f c;cases f
theorem SR.eqGuard{S:FuncId->Bool}{dim:Bool}(F:Fit P S dim)(g:BinOp)(t:TypeId)(s:g≠ .eql->g≠ .neq->True)(o:(g=.eql\/g=.neq)->eK P 5 t=true)(c d:Operand){a m b n:Value}(p:VR ρ a m)(q:VR ρ b n):
 SE P ρ (eqGuard g t c d a b) (eqGuard g t c d m n):=by
 unfold Go.eqGuard
 by_cases i:g=.eql\/g=.neq
 ·have e:(!(match g with| .eql| .neq=>true|_=>false))=false:=by rcases i with rfl|rfl<;>rfl
  have h:=o i
  rcases i with rfl|rfl
  all_goals
   dsimp only
   cases p<;>cases q<;>first
    |exact .dT rfl
    |(dsimp only
      refine SR.prog.du λf x y j k=>?_
      obtain⟨rfl,rfl⟩:=k
      refine SR.prog.du λf x y j k=>?_
      obtain⟨rfl,rfl⟩:=k
      try simp only[ff,jx,gX,gW,eB,eL,fl,eN]
      rw[vL 5 _ _ h F.depth]
      exact .dT (by first|rfl|trivial))
    |(dsimp only
      repeat' split
      all_goals first
      |exact .dT rfl
      |refine SR.du (A:=λ_ a b=>a=false/\b=false) ?_ λl x y j k=>?_
       ·show SR P _ ρ (Op.eqGuardIn (9999+1) t .nilIface .nilIface) (Op.eqGuardIn (9999+1) t .nilIface .nilIface)
        unfold Op.eqGuardIn
        refine(SR.under t).du λf a b _ e=>?_
        obtain⟨rfl,r⟩:=e
        simp only[eK,r]at h
        cases a<;>first|exact .dT ⟨rfl,rfl⟩|(simp at h)
       ·obtain⟨rfl,rfl⟩:=k
        exact .dT rfl)
 ·cases g<;>first|exact absurd (.inl rfl) i|exact absurd (.inr rfl) i|exact .dT rfl
def SR.St(d:BinOp)(t:cg)(k e:IntKind)(a b:Int):SV P ρ (binOp d t (.int k a) (.int e b)) (binOp d t (.int k a) (.int e b)):=by
 have c:∀d:BinOp,SV P ρ (if k≠e then Go.stuck "BinOp: operands of different kinds" else
  match d with
  | .add| .sub| .mul=>Op.intArith d k a b
  | .quo| .rem=>Op.intDiv d k a b
  | .and| .or| .xor| .andNot=>Op.intBits d k a b
  |_=>Op.intCmp d a b) (if k≠e then Go.stuck "BinOp: operands of different kinds" else
  match d with
  | .add| .sub| .mul=>Op.intArith d k a b
  | .quo| .rem=>Op.intDiv d k a b
  | .and| .or| .xor| .andNot=>Op.intBits d k a b
  |_=>Op.intCmp d a b):=by
  intro d;split;exact .stuck;cases d<;>first
   |exact .dT (.int _ _)
   |exact .dT (.bool _)
   |exact .stuck
   |(dsimp only;unfold Op.intDiv;split;exact SR.jc _ (.inr (.inl ⟨_,rfl⟩));exact .dT (.int _ _))
 cases d with
 |add=>exact c .add
 |sub=>exact c .sub
 |mul=>exact c .mul
 |quo=>exact c .quo
 |rem=>exact c .rem
 |and=>exact c .and
 |or=>exact c .or
 |xor=>exact c .xor
 |andNot=>exact c .andNot
 |eql=>exact c .eql
 |neq=>exact c .neq
 |lss=>exact c .lss
 |leq=>exact c .leq
 |gtr=>exact c .gtr
 |geq=>exact c .geq
 |shl=>
  show SV P ρ (Op.shift .shl k a e b) (Op.shift .shl k a e b);unfold Op.shift;split;exact SR.jc _ (.inr (.inl ⟨_,rfl⟩));exact .dT (.int _ _)
 |shr=>
  show SV P ρ (Op.shift .shr k a e b) (Op.shift .shr k a e b);unfold Op.shift;split;exact SR.jc _ (.inr (.inl ⟨_,rfl⟩));exact .dT (.int _ _)
def SR.Su(c:BinOp)(t:cg)(a b:ByteArray):SV P ρ (binOp c t (.string a) (.string b)) (binOp c t (.string a) (.string b)):=by
 cases c<;>first
  |exact .dT (.bool _)
  |exact .stuck
  |(show SV P ρ (Op.stringOp .add a b) (Op.stringOp .add a b);unfold Op.stringOp;dsimp only;split;exact .fA;exact .dT (.string _))
theorem SR.equal{S:cm->Bool}{dim:Bool}(F:Fit P S dim)(t:cg)(c:eK P 5 t=true){x a y b:ce}(d:VR ρ x a)(e:VR ρ y b):SE P ρ (Op.equal t x y) (Op.equal t a b):=
 SR.V2 F 5 Op.maxDepth t c (by decide) d e
def SR.V3{S:cm->Bool}{dim:Bool}(F:Fit P S dim)(d:BinOp)(k:d=.eql\/d=.neq)(t:cg)(j:eK P 5 t=true){x f y g:ce}(h:VR ρ x f)(i:VR ρ y g):SV P ρ (binOp d t x y) (binOp d t f g):=by
 have l:SV P ρ (do Pure.pure (Value.bool (<-Op.equal t x y))) (do Pure.pure (Value.bool (<-Op.equal t f g))):=by refine SR.du (SR.equal F t j h i) λc a b _ e=>?_;subst e;exact .dT (.bool _)
 have m:SV P ρ (do Pure.pure (Value.bool (!(<-Op.equal t x y)))) (do Pure.pure (Value.bool (!(<-Op.equal t f g)))):=by refine SR.du (SR.equal F t j h i) λc a b _ e=>?_;subst e;exact .dT (.bool _)
 rcases k with rfl|rfl;cases h<;>cases i<;>first|exact l|exact SR.St _ _ _ _ _ _|exact SR.Su _ _ _ _
 cases h<;>cases i<;>first|exact m|exact SR.St _ _ _ _ _ _|exact SR.Su _ _ _ _
def SR.Ub{S:cm->Bool}{dim:Bool}(F:Fit P S dim)(f:BinOp)(d:f≠ .eql/\f≠ .neq)(t:cg){x o y p:ce}(r:VR ρ x o)(l:VR ρ y p)(q:(∃a,x=.pointer a)\/∃a,y=.pointer a):SV P ρ (binOp f t x y) (binOp f t o p):=by
 cases r with
 |iw=>
  cases l with
  |int k n=>
   cases f<;>first
    |exact .fA
    |exact absurd rfl d.1
    |exact absurd rfl d.2
    |(refine(SR.under t).du λc a b g e=>?_;obtain⟨rfl,_⟩:=e;cases a<;>first|exact SR.Bj F t .iw (.int k n) ⟨none,rfl⟩|exact SR.Me F t .iw (.int k n) ⟨none,rfl⟩)
    |exact SR.Bj F t .iw (.int k (-n)) ⟨none,rfl⟩
  |_=>cases f<;>first|exact .fA|exact absurd rfl d.1|exact absurd rfl d.2
 |ptr i=>
  cases l with
  |int k n=>
   cases f<;>first
    |exact .fA
    |exact absurd rfl d.1
    |exact absurd rfl d.2
    |(refine(SR.under t).du λc a b g e=>?_;obtain⟨rfl,_⟩:=e;split<;>first|exact SR.Me F t (.ptr (i.mono g)) (.int _ _) ⟨_,rfl⟩|exact SR.Bj F t (.ptr (i.mono g)) (.int _ _) ⟨_,rfl⟩)
    |exact SR.Bj F t (.ptr i) (.int _ _) ⟨_,rfl⟩
    |(refine(SR.behind i).du λc a b _ e=>?_;exact SR.addrMod F.bad _ e.1 _)
  |ptr j=>
   cases f<;>first
    |exact .fA
    |exact absurd rfl d.1
    |exact absurd rfl d.2
    |(refine(SR.behind i).du λc a b g e=>?_;refine(SR.behind (j.mono g)).du λm s u _ v=>?_;first
       |(unfold Op.addrSub;exact SR.du (SR.twoPlaces F (A:=λ_ _ _=>False) _ _ _ _) λ_ _ _ _ h=>h.elim)
       |(unfold Op.addrCmp;exact SR.du (SR.twoPlaces F (A:=λ_ _ _=>False) _ _ _ _) λ_ _ _ _ h=>h.elim))
  |_=>cases f<;>first|exact .fA|exact absurd rfl d.1|exact absurd rfl d.2
 |int k n=>
  cases l with
  |iw=>
   cases f<;>first
    |exact .fA
    |exact absurd rfl d.1
    |exact absurd rfl d.2
    |exact SR.Bj F t .iw (.int _ _) ⟨_,rfl⟩
  |ptr j=>
   cases f<;>first
    |exact .fA
    |exact absurd rfl d.1
    |exact absurd rfl d.2
    |exact SR.Bj F t (.ptr j) (.int _ _) ⟨_,rfl⟩
    |(refine(SR.behind j).du λc a b _ e=>?_;exact SR.addrMod F.bad _ e.1 _)
  |_=>rcases q with⟨a,h⟩|⟨a,h⟩<;>cases h
 |_=>
  cases l with
  |iw=>cases f<;>first|exact .fA|exact absurd rfl d.1|exact absurd rfl d.2
  |ptr j=>cases f<;>first|exact .fA|exact absurd rfl d.1|exact absurd rfl d.2
  |_=>rcases q with⟨a,h⟩|⟨a,h⟩<;>cases h
theorem SR.binOp{S:cm->Bool}{dim:Bool}(F:Fit P S dim)(b:BinOp)(t:cg)(k:(b=.eql\/b=.neq)->eK P 5 t=true){x i y j:ce}(f:VR ρ x i)(g:VR ρ y j):SV P ρ (Go.binOp b t x y) (Go.binOp b t i j):=by
 by_cases d:b=.eql\/b=.neq;exact SR.V3 F b d t (k d) f g;have c:b≠ .eql/\b≠ .neq:=⟨λe=>d (.inl e),λe=>d (.inr e)⟩;by_cases h:(∃a,x=.pointer a)\/∃a,y=.pointer a;exact SR.Ub F b c t f g h
 ·cases f<;>first|exact absurd (.inl ⟨_,rfl⟩) h|skip
  all_goals cases g
  all_goals first
   |exact absurd (.inr ⟨_,rfl⟩) h
   |exact SR.St _ _ _ _ _ _
   |exact SR.Su _ _ _ _
   |(cases b<;>first|exact .stuck|exact .fA|exact absurd rfl c.1|exact absurd rfl c.2)
def SR.conv(s d:cg)(j:intType P s=true)(k:intType P d=true){x l:ce}(m:VR ρ x l):SV P ρ (Go.convert s d x) (Go.convert s d l):=by
 unfold Go.convert;refine(SR.under s).du λf a b g e=>?_;obtain⟨rfl,n⟩:=e;refine(SR.under d).du λh o q c e=>?_;obtain⟨rfl,p⟩:=e;simp only[intType,n]at j;simp only[intType,p]at k;have i:=(m.mono g).mono c;cases a<;>first|(simp at j;done)|skip
 cases o<;>first|(simp at k;done)|skip
 cases i<;>first|exact .dT (.int _ _)|exact .fA|exact .stuck
end
end Go.cF
