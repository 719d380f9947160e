/- Laws that the proof needs, part 1. Conditions: none. -/
import Derived.Test.YteeagjkaflglpaaGreatRows
import Derived.Conc.WgGenN3
import Derived.Laws.Sem
import Derived.Test.YteeagjkaflglpaaGreatX00
set_option maxRecDepth 100000
set_option maxHeartbeats 8000000
set_option linter.all false
namespace Go.Proofs
open Go
@[simp] theorem V.func4:V.prog.funcs[4]? =some Tryz.f4:=by kernel_rfl
@[simp] theorem V.func26:V.prog.funcs[26]? =some Tryz.f26:=by kernel_rfl
@[simp] theorem V.func27:V.prog.funcs[27]? =some Tryz.f27:=by kernel_rfl
@[simp] theorem V.func28:V.prog.funcs[28]? =some Tryz.f28:=by kernel_rfl
@[simp] theorem V.func30:V.prog.funcs[30]? =some Tryz.f30:=by kernel_rfl
@[simp] theorem V.func35:V.prog.funcs[35]? =some Tryz.f35:=by kernel_rfl
@[simp] theorem V.func38:V.prog.funcs[38]? =some Tryz.f38:=by kernel_rfl
@[simp] theorem V.func42:V.prog.funcs[42]? =some Tryz.f42:=by kernel_rfl
@[simp] theorem V.func43:V.prog.funcs[43]? =some Tryz.f43:=by kernel_rfl
@[simp] theorem V.func44:V.prog.funcs[44]? =some Tryz.f44:=by kernel_rfl
@[simp] theorem V.func45:V.prog.funcs[45]? =some Tryz.f45:=by kernel_rfl
@[simp] theorem V.func48:V.prog.funcs[48]? =some Tryz.f48:=by kernel_rfl
@[simp] theorem V.func53:V.prog.funcs[53]? =some Tryz.f53:=by kernel_rfl
@[simp] theorem V.func55:V.prog.funcs[55]? =some Tryz.f55:=by kernel_rfl
@[simp] theorem V.func58:V.prog.funcs[58]? =some Tryz.f58:=by kernel_rfl
@[simp] theorem V.func59:V.prog.funcs[59]? =some Tryz.f59:=by kernel_rfl
@[simp] theorem V.func60:V.prog.funcs[60]? =some Tryz.f60:=by kernel_rfl
@[simp] theorem V.func69:V.prog.funcs[69]? =some Tryz.f69:=by kernel_rfl
@[simp] theorem V.func71:V.prog.funcs[71]? =some Tryz.f71:=by kernel_rfl
@[simp] theorem V.func95:V.prog.funcs[95]? =some Tryz.f95:=by kernel_rfl
@[simp] theorem V.func96:V.prog.funcs[96]? =some Tryz.f96:=by kernel_rfl
@[simp] theorem V.func97:V.prog.funcs[97]? =some Tryz.f97:=by kernel_rfl
@[simp] theorem V.func104:V.prog.funcs[104]? =some Tryz.f104:=by kernel_rfl
@[simp] theorem V.func105:V.prog.funcs[105]? =some Tryz.f105:=by kernel_rfl
@[simp] theorem V.func106:V.prog.funcs[106]? =some Tryz.f106:=by kernel_rfl
@[simp] theorem V.func107:V.prog.funcs[107]? =some Tryz.f107:=by kernel_rfl
@[simp] theorem V.func108:V.prog.funcs[108]? =some Tryz.f108:=by kernel_rfl
@[simp] theorem V.func109:V.prog.funcs[109]? =some Tryz.f109:=by kernel_rfl
@[simp] theorem V.func113:V.prog.funcs[113]? =some Tryz.f113:=by kernel_rfl
@[simp] theorem V.func114:V.prog.funcs[114]? =some Tryz.f114:=by kernel_rfl
@[simp] theorem V.func115:V.prog.funcs[115]? =some Tryz.f115:=by kernel_rfl
@[simp] theorem V.func116:V.prog.funcs[116]? =some Tryz.f116:=by kernel_rfl
@[simp] theorem V.func117:V.prog.funcs[117]? =some Tryz.f117:=by kernel_rfl
@[simp] theorem V.func119:V.prog.funcs[119]? =some Tryz.f119:=by kernel_rfl
@[simp] theorem V.func120:V.prog.funcs[120]? =some Tryz.f120:=by kernel_rfl
@[simp] theorem V.func121:V.prog.funcs[121]? =some Tryz.f121:=by kernel_rfl
@[simp] theorem V.func122:V.prog.funcs[122]? =some Tryz.f122:=by kernel_rfl
@[simp] theorem V.func123:V.prog.funcs[123]? =some Tryz.f123:=by kernel_rfl
@[simp] theorem V.func125:V.prog.funcs[125]? =some Tryz.f125:=by kernel_rfl
@[simp] theorem V.func128:V.prog.funcs[128]? =some Tryz.f128:=by kernel_rfl
@[simp] theorem V.call128 (args:Array Value) (w:World):Sem.run V.prog (callFunc 128 args) w=Result.ok (Next.enter 128 args) w:=by kernel_rfl
@[simp] theorem V.func129:V.prog.funcs[129]? =some Tryz.f129:=by kernel_rfl
@[simp] theorem V.func130:V.prog.funcs[130]? =some Tryz.f130:=by kernel_rfl
@[simp] theorem V.func131:V.prog.funcs[131]? =some Tryz.f131:=by kernel_rfl
@[simp] theorem V.func133:V.prog.funcs[133]? =some Tryz.f133:=by kernel_rfl
@[simp] theorem V.func134:V.prog.funcs[134]? =some Tryz.f134:=by kernel_rfl
@[simp] theorem V.func135:V.prog.funcs[135]? =some Tryz.f135:=by kernel_rfl
@[simp] theorem V.func137:V.prog.funcs[137]? =some Tryz.f137:=by kernel_rfl
@[simp] theorem V.func144:V.prog.funcs[144]? =some Tryz.f144:=by kernel_rfl
@[simp] theorem V.func146:V.prog.funcs[146]? =some Tryz.f146:=by kernel_rfl
@[simp] theorem V.func153:V.prog.funcs[153]? =some Tryz.f153:=by kernel_rfl
@[simp] theorem V.func154:V.prog.funcs[154]? =some Tryz.f154:=by kernel_rfl
@[simp] theorem V.func155:V.prog.funcs[155]? =some Tryz.f155:=by kernel_rfl
@[simp] theorem V.func156:V.prog.funcs[156]? =some Tryz.f156:=by kernel_rfl
@[simp] theorem V.func157:V.prog.funcs[157]? =some Tryz.f157:=by kernel_rfl
@[simp] theorem V.func158:V.prog.funcs[158]? =some Tryz.f158:=by kernel_rfl
@[simp] theorem V.func159:V.prog.funcs[159]? =some Tryz.f159:=by kernel_rfl
@[simp] theorem V.func160:V.prog.funcs[160]? =some Tryz.f160:=by kernel_rfl
@[simp] theorem V.func161:V.prog.funcs[161]? =some Tryz.f161:=by kernel_rfl
@[simp] theorem V.func162:V.prog.funcs[162]? =some Tryz.f162:=by kernel_rfl
@[simp] theorem V.func163:V.prog.funcs[163]? =some V.f163:=by kernel_rfl
@[simp] theorem V.func164:V.prog.funcs[164]? =some Tryz.f164:=by kernel_rfl
@[simp] theorem V.func165:V.prog.funcs[165]? =some Tryz.f165:=by kernel_rfl
@[simp] theorem V.func166:V.prog.funcs[166]? =some Tryz.f166:=by kernel_rfl
@[simp] theorem V.func167:V.prog.funcs[167]? =some Tryz.f167:=by kernel_rfl
@[simp] theorem V.func168:V.prog.funcs[168]? =some Tryz.f168:=by kernel_rfl
@[simp] theorem V.func169:V.prog.funcs[169]? =some Tryz.f169:=by kernel_rfl
@[simp] theorem V.func170:V.prog.funcs[170]? =some Tryz.f170:=by kernel_rfl
@[simp] theorem V.func171:V.prog.funcs[171]? =some Tryz.f171:=by kernel_rfl
@[simp] theorem V.func172:V.prog.funcs[172]? =some Tryz.f172:=by kernel_rfl
@[simp] theorem V.func173:V.prog.funcs[173]? =some Tryz.f173:=by kernel_rfl
@[simp] theorem V.func174:V.prog.funcs[174]? =some Tryz.f174:=by kernel_rfl
@[simp] theorem V.func175:V.prog.funcs[175]? =some Tryz.f175:=by kernel_rfl
@[simp] theorem V.func176:V.prog.funcs[176]? =some Tryz.f176:=by kernel_rfl
@[simp] theorem V.func178:V.prog.funcs[178]? =some Tryz.f178:=by kernel_rfl
@[simp] theorem V.func179:V.prog.funcs[179]? =some Tryz.f179:=by kernel_rfl
@[simp] theorem V.func180:V.prog.funcs[180]? =some Tryz.f180:=by kernel_rfl
@[simp] theorem V.func184:V.prog.funcs[184]? =some Tryz.f184:=by kernel_rfl
@[simp] theorem V.func185:V.prog.funcs[185]? =some Tryz.f185:=by kernel_rfl
@[simp] theorem V.func186:V.prog.funcs[186]? =some Tryz.f186:=by kernel_rfl
@[simp] theorem V.func190:V.prog.funcs[190]? =some Tryz.f190:=by kernel_rfl
@[simp] theorem V.func193:V.prog.funcs[193]? =some Tryz.f193:=by kernel_rfl
@[simp] theorem V.func194:V.prog.funcs[194]? =some Tryz.f194:=by kernel_rfl
@[simp] theorem V.call194 (args:Array Value) (w:World):Sem.run V.prog (callFunc 194 args) w=Result.ok (Next.enter 194 args) w:=by kernel_rfl
@[simp] theorem V.func195:V.prog.funcs[195]? =some Tryz.f195:=by kernel_rfl
@[simp] theorem V.func196:V.prog.funcs[196]? =some Tryz.f196:=by kernel_rfl
@[simp] theorem V.func197:V.prog.funcs[197]? =some Tryz.f197:=by kernel_rfl
@[simp] theorem V.func198:V.prog.funcs[198]? =some Tryz.f198:=by kernel_rfl
@[simp] theorem V.func199:V.prog.funcs[199]? =some Tryz.f199:=by kernel_rfl
@[simp] theorem V.func200:V.prog.funcs[200]? =some Tryz.f200:=by kernel_rfl
@[simp] theorem V.func215:V.prog.funcs[215]? =some Tryz.f215:=by kernel_rfl
@[simp] theorem V.call215 (args:Array Value) (w:World):Sem.run V.prog (callFunc 215 args) w=Result.ok (Next.enter 215 args) w:=by kernel_rfl
@[simp] theorem V.func216:V.prog.funcs[216]? =some Tryz.f216:=by kernel_rfl
@[simp] theorem V.call216 (args:Array Value) (w:World):Sem.run V.prog (callFunc 216 args) w=Result.ok (Next.enter 216 args) w:=by kernel_rfl
@[simp] theorem V.func227:V.prog.funcs[227]? =some Tryz.f227:=by kernel_rfl
@[simp] theorem V.call227 (args:Array Value) (w:World):Sem.run V.prog (callFunc 227 args) w=Result.ok (Next.enter 227 args) w:=by kernel_rfl
@[simp] theorem V.func228:V.prog.funcs[228]? =some Tryz.f228:=by kernel_rfl
@[simp] theorem V.func229:V.prog.funcs[229]? =some Tryz.f229:=by kernel_rfl
end Go.Proofs
namespace Go.Proofs
abbrev Tryz.link:Go.Conc.Lib.WgLink:={add:=187,done:=189,wait:=192,relMerge:=202,disable:=203,enable:=204,inBubble:=205,associate:=206,fatal:=207,uOr:=208,uAdd:=209,raceRead:=210,uLoad:=211,uStore:=212,disassociate:=213,semrelease:=214,acquire:=217,isAssociated:=218,uCas:=219,raceWrite:=220,semacquire:=221,orU64:=223,addU64:=224,loadU64:=225,storeU64:=226,casU64:=230,tWgP:=255,tUP:=257,tAssoc:=258,tWg:=241,tAU:=238,tU64:=119,tUint:=132,tU32:=239,tPU32:=262,tPAU:=270,tPU64:=272,tNoCopy:=234,tANoCopy:=235,tAlign64:=236}
theorem Tryz.qD:Go.Conc.Lib.WgLib Tryz.prog Tryz.link:=
 ⟨Tryz.func187,Tryz.func189,Tryz.func192,Tryz.func202,Tryz.func203,Tryz.func204,Tryz.func205,Tryz.func206,Tryz.func207,Tryz.func208,Tryz.func209,Tryz.func210,Tryz.func211,Tryz.func212,Tryz.func213,Tryz.func214,Tryz.func217,Tryz.func218,Tryz.func219,Tryz.func220,Tryz.func221,Tryz.func223,Tryz.func224,Tryz.func225,Tryz.func226,Tryz.func230,Tryz.underlying255,Tryz.runUnderlying255,Tryz.sizeOf255,Tryz.isAgg255,Tryz.zeroValue255,Tryz.underlying257,Tryz.runUnderlying257,Tryz.sizeOf257,Tryz.isAgg257,Tryz.zeroValue257,Tryz.underlying258,Tryz.runUnderlying258,Tryz.sizeOf258,Tryz.isAgg258,Tryz.zeroValue258,Tryz.underlying241,Tryz.runUnderlying241,Tryz.sizeOf241,Tryz.isAgg241,Tryz.zeroValue241,Tryz.underlying238,Tryz.runUnderlying238,Tryz.sizeOf238,Tryz.isAgg238,Tryz.zeroValue238,Tryz.underlying119,Tryz.runUnderlying119,Tryz.sizeOf119,Tryz.isAgg119,Tryz.zeroValue119,Tryz.underlying132,Tryz.runUnderlying132,Tryz.sizeOf132,Tryz.isAgg132,Tryz.zeroValue132,Tryz.underlying239,Tryz.runUnderlying239,Tryz.sizeOf239,Tryz.isAgg239,Tryz.zeroValue239,Tryz.underlying262,Tryz.runUnderlying262,Tryz.sizeOf262,Tryz.isAgg262,Tryz.zeroValue262,Tryz.underlying270,Tryz.runUnderlying270,Tryz.sizeOf270,Tryz.isAgg270,Tryz.zeroValue270,Tryz.underlying272,Tryz.runUnderlying272,Tryz.sizeOf272,Tryz.isAgg272,Tryz.zeroValue272,Tryz.underlying0,Tryz.runUnderlying0,Tryz.sizeOf0,Tryz.isAgg0,Tryz.zeroValue0,Tryz.underlying3,Tryz.runUnderlying3,Tryz.sizeOf3,Tryz.isAgg3,Tryz.zeroValue3,Tryz.underlying4,Tryz.runUnderlying4,Tryz.sizeOf4,Tryz.isAgg4,Tryz.zeroValue4,Tryz.underlying9,Tryz.runUnderlying9,Tryz.sizeOf9,Tryz.isAgg9,Tryz.zeroValue9,Tryz.underlying20,Tryz.runUnderlying20,Tryz.sizeOf20,Tryz.isAgg20,Tryz.zeroValue20,Tryz.underlying21,Tryz.runUnderlying21,Tryz.sizeOf21,Tryz.isAgg21,Tryz.zeroValue21,(by kernel_rfl),(by kernel_rfl)⟩
end Go.Proofs
namespace Go.ck
section
variable{P:Program}{ρ:cx}
theorem SR.uE{α d:Type}{f:α->Sem d}:∀(l:List α) {ρ:cx},(∀x∈l,∀c,SE P c (f x) (f x))->SE P ρ (l.mapM f) (l.mapM f)
 |[],_,_=>by rw[List.mapM_nil];exact .cW rfl
 |x::l,ρ,h=>by rw[List.mapM_cons];refine(h x (by simp) ρ).cG λ_ a b _ e=>?_;subst e;refine(SR.uE l λy g=>h y (by simp[g])).cG λ_ a b _ e=>?_;subst e;exact .cW rfl
theorem SR.mapM{α d:Type}{f:α->Sem d}(xs:Array α)(h:∀x∈xs,∀c,SE P c (f x) (f x)):SE P ρ (xs.mapM f) (xs.mapM f):=by rw[Array.mapM_eq_mapM_toList];refine SR.cG (f:=λl=>Pure.pure l.toArray) (f':=λl=>Pure.pure l.toArray) (SR.uE xs.toList λx g=>h x (by simpa using g)) λ_ a b _ e=>?_;subst e;exact .cW rfl
theorem SR.forIn_list{α g:Type}{f f':α->g->Sem (ForInStep g)}:∀(l:List α) (b:g) {ρ:cx},(∀x∈l,∀r c,cx.Le ρ c->SE P c (f x r) (f' x r))->SE P ρ (forIn l b f) (forIn l b f')
 |[],b,_,_=>by simp only[List.forIn_nil];exact .cW rfl
 |x::l,b,ρ,h=>by
  simp only[List.forIn_cons];refine(h x (by simp) b ρ (.refl _)).cG λi a m j e=>?_;subst e;cases a with
  |done b=>exact .cW rfl
  |yield b=>exact SR.forIn_list l b λy k r c d=>h y (by simp[k]) r c (j.trans d)
theorem SR.alloc{S:FuncId->Bool}{dim:Bool}(F:Fit P S dim)(t:TypeId)(v:Value):SV P ρ (Instr.alloc t true v) (Instr.alloc t true v):=by unfold Instr.alloc;refine(SR.zero F t).cG λc z g d e=>?_;refine SR.cG (SR.newVar t e) λb a h _ f=>?_;exact .cW (.ptr f)
theorem SR.box(t:TypeId){v c:Value}(h:VR ρ v c):SV P ρ (Instr.box t v) (Instr.box t c):=by unfold Instr.box;refine SR.cG (SR.newVar t h) λb a e _ d=>?_;exact .cW (.ptr d)
inductive kF (ρ:cx):List (Nat×Value)->List (Nat×Value)->Prop
 |nil:kF ρ [] []
 |cons {i:Nat} {v v':Value} {l l':List (Nat×Value)} (h:VR ρ v v') (t:kF ρ l l'):kF ρ ((i,v)::l) ((i,v')::l')
theorem kF.mono{ρ a:cx}(b:cx.Le ρ a){l l':List (Nat×Value)}(h:kF ρ l l'):kF a l l':=by
 induction h with
 |nil=>exact .nil
 |cons h _ c=>exact .cons (h.mono b) c
theorem pT{ev ev':Operand->Value}:∀{l:List (Nat×Operand)},(∀x∈l,VR ρ (ev x.2) (ev' x.2))->kF ρ (l.map λ(i,x)=>(i,ev x)) (l.map λ(i,x)=>(i,ev' x))
 |[],_=>.nil
 |(i,x)::l,h=>.cons (h (i,x) (by simp)) (pT λy a=>h y (by simp[a]))
theorem EH{l l':List Value}(h:mu ρ l l')(b:Nat):∀(n:Nat) {cs a:Array Value},dz ρ cs a->
 dz ρ ((l.zipIdx n).foldl (λcs (x:Value×Nat)=>cs.setIfInBounds (b+x.2) x.1) cs) ((l'.zipIdx n).foldl (λcs (x:Value×Nat)=>cs.setIfInBounds (b+x.2) x.1) a):=by
 induction h with
 |nil=>exactλn cs a c=>c
 |cons h _ d=>
  intro n cs a c;simp only[List.zipIdx_cons,List.foldl_cons];exact d (n+1) (c.set _ h)
theorem Aa(a:Nat->Option (Nat×Nat)){l l':List (Nat×Value)}(h:kF ρ l l'):∀{cs b:Array Value},dz ρ cs b->(Instr.fill a cs l=none/\Instr.fill a b l'=none)\/∃r r',Instr.fill a cs l=some r/\Instr.fill a b l'=some r'/\dz ρ r r':=by
 induction h with
 |nil=>exactλc=>.inr ⟨_,_,rfl,rfl,c⟩
 | @cons i v j l l' h _ e=>
  intro cs b c;simp only[Instr.fill];cases a i with
  |none=>exact .inl ⟨rfl,rfl⟩
  |some p=>
   obtain⟨d,size⟩:=p;have f:=h.cells.size;have g:=c.size;simp only[<-f,<-g];split
   ·exact .inl ⟨rfl,rfl⟩
   ·refine e ?_;have:=EH h.cells.list d 0 c;rw[<-Array.foldl_toList,<-Array.foldl_toList,Array.toList_zipIdx,Array.toList_zipIdx];exact this
theorem SR.build{S:FuncId->Bool}{dim:Bool}(F:Fit P S dim)(t:TypeId){ps j:Array (Nat×Value)}(h:kF ρ ps.toList j.toList):SV P ρ (Instr.build t ps) (Instr.build t j):=by
 unfold Instr.build;refine(SR.zero F t).cG λm z w n s=>?_;have u:=h.mono n;refine(SR.under t).cG λo a b d e=>?_;obtain⟨rfl,_⟩:=e;have q:=u.mono d;have k:=(s.mono d).cells;split
 ·refine SR.cG (SR.mapM _ λx _ m=>?_) λf a b c e=>?_
  ·refine(SR.size _).cG λ_ a b _ e=>?_;obtain⟨rfl,_⟩:=e;exact .cW rfl
  ·subst e;rcases Aa (a[·]?) (q.mono c) (k.mono c)with⟨g,l⟩|⟨r,v,g,l,p⟩
   ·simp only[g];exact .stuck
   ·simp only[g,l];exact .cW p.agg
 ·rename_i e _;refine(SR.size e).cG λf a b c e=>?_;obtain⟨rfl,_⟩:=e;rcases Aa (λi=>some (i*a,a)) (q.mono c) (k.mono c)with⟨g,l⟩|⟨r,v,g,l,p⟩
  ·simp only[g];exact .stuck
  ·simp only[g,l];exact .cW p.agg
 ·exact .stuck
theorem vM{z b:Array Value}(h:dz ρ z b)(n:Nat):dz ρ ((Array.range n).map (z[·%z.size]!)) ((Array.range n).map (b[·%b.size]!)):=by
 refine dz.map _ _ _ λi _=>?_;have e:∀(a:Array Value) (i:Nat),a[i]! =(a[i]?).getD default:=λa i=>by simp[getElem!_def];cases a[i]? <;>rfl
 rw[e,e,<-h.size];rcases h.get? (i%z.size)with⟨c,d⟩|⟨v,g,c,d,f⟩
 ·rw[c,d];exact .bool _
 ·rw[c,d];exact f
theorem SR.buildSlice{S:FuncId->Bool}{dim:Bool}(F:Fit P S dim)(t:TypeId)(n:Nat){ps j:Array (Nat×Value)}(h:kF ρ ps.toList j.toList):SV P ρ (Instr.buildSlice t n ps) (Instr.buildSlice t n j):=by
 unfold Instr.buildSlice;refine(SR.under t).cG λo a b f e=>?_;obtain⟨rfl,_⟩:=e;have v:=h.mono f;split
 ·rename_i e _;refine(SR.size e).cG λk a b g e=>?_;obtain⟨rfl,_⟩:=e;have w:=v.mono g;dsimp only;split
  ·exact .dY
  ·have tail:∀d z l,cx.Le k d->dz d z l->SV P d
    (match Instr.fill (λi=>some (i*a,a)) (Array.map (λx=>z[x%z.size]!) (Array.range (n*a))) ps.toList with
      |some cells=>do Pure.pure (Value.slice (some (<-Go.newRow e cells)) n n)
      |_=>Go.stuck "buildSlice: a part of the wrong size")
    (match Instr.fill (λi=>some (i*a,a)) (Array.map (λx=>l[x%l.size]!) (Array.range (n*a))) j.toList with
      |some cells=>do Pure.pure (Value.slice (some (<-Go.newRow e cells)) n n)
      |_=>Go.stuck "buildSlice: a part of the wrong size"):=by
    intro d z l c m;rcases Aa (λi=>some (i*a,a)) (w.mono c) (vM m (n*a))with⟨p,u⟩|⟨r,D,p,u,y⟩
    ·simp only[p];exact .stuck
    ·simp only[p,u];refine SR.cG (SR.newRow _ y) λq x E _ B=>?_;exact .cW (.slice _ _ B)
   split
   ·exact SR.cG (A:=λρ a b=>dz ρ a b) (.cW .nil) λd z l c m=>tail _ _ _ c m
   ·refine(SR.zero F _).cG λC z l s m=>?_;exact SR.cG (A:=λρ a b=>dz ρ a b) (.cW m.cells) λd z l c m=>tail _ _ _ (s.trans c) m
 ·exact .stuck
theorem SR.loadAt(t:TypeId){v b:Value}(h:VR ρ v b):SV P ρ (Instr.loadAt t v) (Instr.loadAt t b):=by unfold Instr.loadAt;exact(SR.sure h).cG λ_ a d _ c=>SR.loadVar t c
theorem SR.storeAt(t:TypeId){v c x d:Value}(h:VR ρ v c)(e:VR ρ x d):SE P ρ (Instr.storeAt t v x) (Instr.storeAt t c d):=by unfold Instr.storeAt;exact(SR.sure h).cG λ_ a g b f=>SR.storeVar t f (e.mono b)
theorem SR.fieldAt(s:TypeId)(i:Nat)(g:z7 P (λ_=>false) false false (.fieldAddr s (.tmp 0) i)=true){v r:Value}(h:VR ρ v r):SV P ρ (Instr.fieldAt s v i) (Instr.fieldAt s r i):=by
 unfold Instr.fieldAt;refine(SR.under s).cG λm a b c e=>?_;obtain⟨rfl,t⟩:=e;have u:=h.mono c;simp only[z7,t]at g;split
 ·rename_i k;split
  ·rename_i f w;simp only[w]at g;refine(SR.sure u).cG λo a x l p=>?_;refine SR.cG (A:=λρ a b=>AR ρ a b) ?_ λ_ a x _ p=>.cW (.ptr p);unfold fieldPlace;refine(SR.size _).cG λq n z d e=>?_;obtain⟨rfl,j,y,rfl⟩:=e;simp only[y,bne_iff_ne,ne_eq]at g;rw[if_neg g,if_neg g];exact .cW ((p.mono d).add _)
  ·exact .stuck
 ·exact .stuck
theorem SR.indexAt(t:TypeId){x D i E:Value}(F:VR ρ x D)(G:VR ρ i E):SV P ρ (Instr.indexAt t x i) (Instr.indexAt t D E):=by
 unfold Instr.indexAt;refine(SR.intOf G).cG λv a b o e=>?_;obtain⟨rfl,_,_⟩:=e;have w:=F.mono o;obtain⟨k,i⟩:=a;dsimp only;refine(SR.under t).cG λy a b q e=>?_;obtain⟨rfl,_⟩:=e;have s:=w.mono q;cases a with
 |array j g=>
  refine(SR.sure s).cG λz p B u C=>?_;refine SR.cG (A:=λ_ a b=>a=(some p,j,g)/\b=(some B,j,g)) (.cW ⟨rfl,rfl⟩) λl a b d e=>?_;obtain⟨rfl,rfl⟩:=e;dsimp only;refine(SR.under t).cG λm a b f e=>?_;obtain⟨rfl,_⟩:=e;split
  ·refine(SR.size _).cG λr n H h e=>?_;obtain⟨rfl,_⟩:=e;exact .cW (.ptr ((((C.mono d).mono f).mono h).add _))
  ·repeat' split
   all_goals first|exact .dY|exact SR.boundsPanic _ _ _ _
 |slice g=>
  cases s with
  |dF j c=>
   refine SR.cG (A:=λ_ a b=>a=(none,j,g)/\b=(none,j,g)) (.cW ⟨rfl,rfl⟩) λl a b d e=>?_;obtain⟨rfl,rfl⟩:=e;dsimp only;refine(SR.under t).cG λm a b f e=>?_;obtain⟨rfl,_⟩:=e;exact SR.boundsPanic _ _ _ _
  | @slice p B j c C=>
   refine SR.cG (A:=λ_ a b=>a=(some p,j,g)/\b=(some B,j,g)) (.cW ⟨rfl,rfl⟩) λl a b d e=>?_;obtain⟨rfl,rfl⟩:=e;dsimp only;refine(SR.under t).cG λm a b f e=>?_;obtain⟨rfl,_⟩:=e;split
   ·refine(SR.size _).cG λr n H h e=>?_;obtain⟨rfl,_⟩:=e;exact .cW (.ptr (((C.mono d).mono f).mono h|>.add _))
   ·repeat' split
    all_goals first|exact .dY|exact SR.boundsPanic _ _ _ _
  |_=>exact .dead rfl
 |_=>exact .dead rfl
theorem SR.bound{x g:Value}(h:VR ρ x g)(y:Nat)(c:BoundsCode):SE P ρ (Instr.sliceBound x y c) (Instr.sliceBound g y c):=by
 unfold Instr.sliceBound;refine(SR.intOf h).cG λf a b d e=>?_;obtain⟨rfl,_,_⟩:=e;obtain⟨k,i⟩:=a;dsimp only;split
 ·exact .cW rfl
 ·exact SR.boundsPanic _ _ _ _
inductive mJ (ρ:cx):Option Value->Option Value->Prop
 |none:mJ ρ none none
 |some {v v':Value} (h:VR ρ v v'):mJ ρ (some v) (some v')
theorem mJ.mono{ρ a:cx}(b:cx.Le ρ a){o o':Option Value}(h:mJ ρ o o'):mJ a o o':=by
 cases h with
 |none=>exact .none
 |some h=>exact .some (h.mono b)
theorem N9(h m:Nat)(c:BoundsCode)(g d:Option Value):mJ ρ g d->SE P ρ (match g with|some v=>do let l<-Instr.sliceBound v h c;Pure.pure (l,h,m)|none=>do let l<-Pure.pure 0;Pure.pure (l,h,m))
 (match d with|some v=>do let l<-Instr.sliceBound v h c;Pure.pure (l,h,m)|none=>do let l<-Pure.pure 0;Pure.pure (l,h,m)):=by
 intro f;cases f with
 |none=>exact SR.cG (A:=λ_ a b=>a=b) (.cW rfl) λ_ a b _ e=>by subst e;exact .cW rfl
 |some f=>exact SR.cG (SR.bound f _ _) λ_ a b _ e=>by subst e;exact .cW rfl
theorem SR.bounds(l:Bool)(n cap:Nat){s i v o w p:Option Value}(y:mJ ρ s i)(x:mJ ρ v o)(t:mJ ρ w p):SE P ρ (Instr.sliceBounds l n cap s v w) (Instr.sliceBounds l n cap i o p):=by
 unfold Instr.sliceBounds;have j:=λq (u:cx.Le ρ q) h m c=>N9 h m c (ρ:=q) s i (y.mono u) (P:=P);cases t with
 |none=>
  dsimp only;refine SR.cG (A:=λ_ a b=>a=b) (.cW rfl) λk m r d e=>?_;subst e;cases x with
  |none=>
   dsimp only;refine SR.cG (A:=λ_ a b=>a=b) (.cW rfl) λg m r f e=>?_;subst e;exact j _ (d.trans f) _ _ _
  |some h=>
   dsimp only;refine SR.cG (SR.bound (h.mono d) _ _) λg m r f e=>?_;subst e;exact j _ (d.trans f) _ _ _
 |some t=>
  dsimp only;refine SR.cG (SR.bound t _ _) λk m r d e=>?_;subst e;cases x with
  |none=>exact .dead rfl
  |some h=>
   dsimp only;refine SR.cG (SR.bound (h.mono d) _ _) λg m r f e=>?_;subst e;exact j _ (d.trans f) _ _ _
theorem SR.slice(t:TypeId){x B:Value}{C q D r v k:Option Value}(F:VR ρ x B)(G:mJ ρ C q)(H:mJ ρ D r)(E:mJ ρ v k):SV P ρ (Instr.slice t x C D v) (Instr.slice t B q r k):=by
 unfold Instr.slice;refine(SR.under t).cG λw a b f e=>?_;obtain⟨rfl,_⟩:=e;have l:=F.mono f;have m:=G.mono f;have o:=H.mono f;have s:=E.mono f;have I:v.isSome=k.isSome:=by cases E<;>rfl
 cases a with
 |string=>
  cases l<;>first
   |exact .stuck
   |(dsimp only;rw[<-I];split
     ·exact .stuck
     ·refine(SR.bounds _ _ _ m o .none).cG λg a b _ e=>?_;subst e;exact .cW (.string _))
 |slice h=>
  cases l<;>first
   |exact .stuck
   |(dsimp only;refine(SR.bounds _ _ _ m o s).cG λg a b d e=>?_;subst e;refine(SR.size h).cG λp n J c e=>?_;obtain⟨rfl,_⟩:=e;refine .cW ?_;split
     ·first|exact .dF _ _|exact .slice _ _ ((AR.mono d ‹_›).mono c)
     ·first|exact .dF _ _|exact .slice _ _ (((AR.mono d ‹_›).mono c).add _))
 |pointer y=>
  refine(SR.asAddr l).cG λg a L d K=>?_;refine(SR.under y).cG λp a b c e=>?_;obtain⟨rfl,_⟩:=e;cases a with
  |array n h=>
   refine(SR.bounds _ _ _ ((m.mono d).mono c) ((o.mono d).mono c) ((s.mono d).mono c)).cG λz a b i e=>?_;subst e;refine(SR.size h).cG λA n J j e=>?_;obtain⟨rfl,_⟩:=e;have u:=((K.mono c).mono i).mono j;refine .cW (.slice _ _ ?_);split
   ·exact u
   ·exact u.add _
  |_=>exact .stuck
 |_=>exact .stuck
theorem SR.sliceAt(t:TypeId){x w:Value}{y h z i A j:Option Value}(B:VR ρ x w)(C:mJ ρ y h)(D:mJ ρ z i)(E:mJ ρ A j):SV P ρ (Instr.sliceAt t x y z A) (Instr.sliceAt t w h i j):=by
 unfold Instr.sliceAt;refine(SR.under t).cG λr a b c e=>?_;obtain⟨rfl,_⟩:=e;have k:=B.mono c;have l:=C.mono c;have m:=D.mono c;have o:=E.mono c;cases a with
 |array n p=>
  refine(SR.sure k).cG λs a G d F=>?_;refine(SR.bounds _ _ _ (l.mono d) (m.mono d) (o.mono d)).cG λu a b f e=>?_;subst e;refine(SR.size p).cG λv n H g e=>?_;obtain⟨rfl,_⟩:=e;have q:=(F.mono f).mono g;refine .cW (.slice _ _ ?_);split
  ·exact q
  ·exact q.add _
 |_=>exact SR.slice t k l m o
theorem SR.index(t:TypeId){x p i q:Value}(r:VR ρ x p)(s:VR ρ i q):SV P ρ (Instr.index t x i) (Instr.index t p q):=by
 unfold Instr.index;refine(SR.intOf s).cG λj a b c e=>?_;obtain⟨rfl,_,_⟩:=e;have l:=r.mono c;obtain⟨k,i⟩:=a;refine(SR.under t).cG λm a b d e=>?_;obtain⟨rfl,_⟩:=e;have h:=l.mono d;cases a with
 |array u g=>
  cases h<;>first
   |exact .stuck
   |(dsimp only;split
     ·refine(SR.size g).cG λo n v f e=>?_;obtain⟨rfl,_⟩:=e;exact SR.part g (dz.mono f ⟨‹_›,‹_›⟩) _
     ·exact SR.boundsPanic _ _ _ _)
 |string=>
  cases h<;>first
   |exact .stuck
   |(dsimp only;split
     ·exact .cW (.int _ _)
     ·exact SR.boundsPanic _ _ _ _)
 |_=>exact .stuck
theorem SR.field(t:TypeId){x k:Value}(l:VR ρ x k)(i:Nat):SV P ρ (Instr.field t x i) (Instr.field t k i):=by
 unfold Instr.field;refine(SR.under t).cG λg a b c e=>?_;obtain⟨rfl,_⟩:=e;have h:=l.mono c;cases a with
 |struct d=>
  dsimp only;split
  ·refine(SR.asAgg h).cG λj a n f m=>?_;exact SR.part _ m _
  ·exact .stuck
 |_=>exact .stuck
theorem SR.extract{x c:Value}(e:VR ρ x c)(i:Nat):SV P ρ (Instr.extract x i) (Instr.extract c i):=by
 unfold Instr.extract;cases e with
 |tuple f g=>
  dsimp only;rcases dz.get? ⟨f,g⟩ i with⟨b,d⟩|⟨v,j,b,d,h⟩
  ·rw[b];exact .stuck
  ·rw[b,d];exact .cW h
 |vL k a=>simp;exact .stuck
 |_=>exact .stuck
theorem SR.unary(a:UnOp){x b:Value}(c:VR ρ x b):SV P ρ (Op.unary a x) (Op.unary a b):=by
 unfold Op.unary;cases a<;>cases c<;>first
  |exact .stuck
  |exact .dY
  |exact .cW (.int _ _)
  |exact .cW (.bool _)
end
section
variable{P:Program}{ρ:cx}
theorem AR.block{a c b d:Addr}(h:AR ρ a c)(k:AR ρ b d):(a.block=b.block↔c.block=d.block)/\(a=b↔c=d):=by
 cases h with
 | @mk f g l m h=>
  cases k with
  | @mk i j n o k=>
   have e:f=i↔g=j:=⟨λe=>by subst e;exact ρ.inj₁ _ _ _ h k,λe=>by subst e;exact ρ.inj₂ _ _ _ h k⟩;refine⟨e,?_⟩;simp only[Addr.mk.injEq,e];constructor
   ·rintro⟨rfl,rfl,rfl⟩;exact⟨rfl,rfl,rfl⟩
   ·rintro⟨rfl,p,rfl⟩;exact⟨rfl,by omega,rfl⟩
theorem AR.r{a b:Addr}(h:AR ρ a b):ρ.r a.block b.block:=by cases h with|mk o s h=>exact h
theorem AR.off{a b:Addr}(h:AR ρ a b):a.off+(ρ.sh b.block).getD 0=b.off/\a.spot=b.spot:=by cases h with|mk o s h=>exact⟨rfl,rfl⟩
theorem SR.ND{r r':Nat}(h:ρ.r r r'):SR P (λρ a b=>(ρ.sh r'=none/\a=b)\/∃m y,a=some (mG,m)/\b=some y) ρ (Go.shape r) (Go.shape r'):=.shape h (λc x=>.pure (.inl ⟨c,rfl⟩)) λ_ m y=>.pure (.inr ⟨m,y,rfl,rfl⟩)
theorem SR.viewAt{r r':Nat}(h:ρ.r r r'):SE P ρ (Go.viewAt r) (Go.viewAt r'):=by
 unfold Go.viewAt;refine(SR.ND h).cG λc a b d e=>?_;rcases e with⟨_,rfl⟩|⟨m,y,rfl,rfl⟩;case inr=>exact .cW rfl
 try dsimp only
 split
 ·exact .cW rfl
 ·refine SR.cG (A:=λρ a b=>gH ρ a b) (.getObj (d.r _ _ h) λo i f _=>.pure f) λg o i _ f=>?_;cases f<;>exact .cW rfl
theorem SR.numberAt{r r':Nat}(h:ρ.r r r'):SR P (λρ a b=>(a=none/\b=none)\/∃x y l,a=some (x,l)/\b=some (y,l)/\AR ρ x y) ρ (Go.numberAt r) (Go.numberAt r'):=by
 unfold Go.numberAt;refine(SR.ND h).cG λc a b d e=>?_;rcases e with⟨_,rfl⟩|⟨m,y,rfl,rfl⟩;case inr=>exact .cW (.inl ⟨rfl,rfl⟩)
 try dsimp only
 split
 ·exact .cW (.inl ⟨rfl,rfl⟩)
 ·refine SR.cG (A:=λρ a b=>gH ρ a b) (.getObj (d.r _ _ h) λo i f _=>.pure f) λg o i _ f=>?_;cases f with
  |number l h=>exact .cW (.inr ⟨_,_,l,rfl,rfl,h⟩)
  |_=>exact .cW (.inl ⟨rfl,rfl⟩)
theorem SR.behind{a f:Addr}(h:AR ρ a f):SR P (λρ a b=>AR ρ a.1 b.1/\a.2=b.2) ρ (behindNumber a) (behindNumber f):=by
 unfold behindNumber;refine(SR.numberAt h.r).cG λc x y d e=>?_;rcases e with⟨rfl,rfl⟩|⟨x,y,l,rfl,rfl,g⟩
 ·exact .cW ⟨h.mono d,rfl⟩
 ·exact .cW ⟨g,rfl⟩
theorem SR.noView{a c:Addr}(h:AR ρ a c):SE P ρ (Go.noView a) (Go.noView c):=by
 unfold Go.noView;refine(SR.viewAt h.r).cG λb x y d e=>?_;subst e;split
 ·exact .dY
 ·exact .cW rfl
theorem SR.byteOf{a i:Addr}(h:AR ρ a i)(n:ρ.sh i.block=none):SE P ρ (Go.byteOf a) (Go.byteOf i):=by
 have o:a.off=i.off:=by have:=h.off.1;rw[n]at this;exact this
 unfold Go.byteOf;rw[<-h.off.2];try dsimp only
 split
 ·exact .cW rfl
 ·refine SR.prog.cG λk x y d e=>?_;obtain⟨rfl,rfl⟩:=e;try simp only[dH,gy,eW,eV,dl,dt,dM,dw]
  refine(SR.noView (h.mono d)).cG λf _ _ c _=>?_;have l:f.sh i.block=none:=by rw[<-c.g,<-d.g];exact n
  refine SR.cG (A:=λ_ a b=>a=b) (.shape (((h.mono d).mono c).r) (λ_ x=>.pure rfl) λh=>absurd l h) λm x y j e=>?_;subst e;try dsimp only
  split
  ·rw[<-o];split
   ·exact .cW rfl
   ·split
    ·exact .cW rfl
    ·exact .stuck
  ·exact .stuck
theorem SR.add{S:FuncId->Bool}{dim:Bool}(E:Fit P S dim)(at_:Array TypeId)(t:TypeId){p C y v:Value}(h:VR ρ p C)(F:VR ρ y v)(G:∃a,p=.pointer a):
 SR P (λρ a b=>VR ρ a b/\∃x,a=.pointer x) ρ (Builtin.unsafeAdd_ at_ t #[p,y]) (Builtin.unsafeAdd_ at_ t #[C,v]):=by
 obtain⟨a,rfl⟩:=G;have k:∀(o u:Option Addr),((o=none/\u=none)\/∃a l,o=some a/\u=some l/\AR ρ a l)->
  SR P (λρ a b=>VR ρ a b/\∃x,a=.pointer x) ρ (Builtin.unsafeAdd_ at_ t #[.pointer o,y]) (Builtin.unsafeAdd_ at_ t #[.pointer u,v]):=by
  intro o u h;unfold Builtin.unsafeAdd_;refine(SR.asInt F).cG λw n m f e=>?_;subst e;dsimp only;rcases h with⟨rfl,rfl⟩|⟨a,l,rfl,rfl,q⟩
  ·dsimp only;repeat' split
   all_goals exact .dead rfl
  ·dsimp only;split
   ·refine(SR.viewAt (q.mono f).r).cG λz x y j e=>?_;subst e;split
    ·exact .dY
    ·exact .cW ⟨.ptr ((q.mono f).mono j),_,rfl⟩
   ·split
    ·exact .dY
    ·refine(SR.ND (q.mono f).r).cG λA x y d e=>?_;rcases e with⟨D,rfl⟩|⟨m,y,rfl,rfl⟩;case inr=>
      refine SR.prog.cG λi x y c e=>?_;obtain⟨rfl,rfl⟩:=e;have H:x.cellsOf mG=0:=by simp[Program.cellsOf,E.bad]
      simp only[cellAtBytes,H,true_or,if_true];exact .dY
     try dsimp only
     split
     ·refine SR.prog.cG λi x y c e=>?_;obtain⟨rfl,rfl⟩:=e;try simp only[dH,gy,eW,eV,dl,dt,dM,dw]
      have I:a.off=l.off:=by have:=((q.mono f).mono d).off.1;rw[D]at this;exact this
      rw[<-I];split
      ·refine .cW ⟨.ptr ?_,_,rfl⟩;have:=((q.mono f).mono d).mono c;have B:i.sh l.block=none:=by rw[<-c.g];exact D
       cases this with|mk o s h=>exact .of _ _ h B
      ·exact .dY
     ·exact .dY
 cases h with
 |fp=>exact k _ _ (.inl ⟨rfl,rfl⟩)
 |ptr h=>exact k _ _ (.inr ⟨_,_,rfl,rfl,h⟩)
theorem SR.asNumber{a c:Addr}(l:Bool)(h:AR ρ a c):SV P ρ (Go.asNumber a l) (Go.asNumber c l):=by unfold Go.asNumber;refine SR.cG (A:=λρ a b=>ρ.r a b/\ρ.sh b=none) (.new (.number l h) λn i j k e=>.pure ⟨cx.nE _ _ _ _ _,e⟩) λf a b g d=>?_;exact .cW (.ptr (.of _ _ d.1 d.2))
theorem SR.uF{S:FuncId->Bool}{dim:Bool}(F:Fit P S dim)(t:TypeId){x n y o:Value}(s:VR ρ x n)(u:VR ρ y o)(A:∃a,x=.pointer a):SV P ρ (movedNumber t x y) (movedNumber t n o):=by
 unfold movedNumber;refine(SR.under t).cG λj a b c e=>?_;obtain⟨rfl,_⟩:=e;have k:=s.mono c;have f:=u.mono c;try dsimp only
 split
 ·exact .dY
 ·obtain⟨a,rfl⟩:=A;cases k with
  |fp=>exact(SR.add F #[] t .fp f ⟨_,rfl⟩).oV λ_ _ _ _ h=>h.1
  |ptr B=>
   dsimp only;refine(SR.behind B).cG λl p q d e=>?_;obtain⟨g,r⟩:=e;obtain⟨D,E⟩:=p;obtain⟨G,H⟩:=q;simp only at r g;subst r;dsimp only;refine(SR.add F #[] t (.ptr g) (f.mono d) ⟨_,rfl⟩).cG λm v w i e=>?_;obtain⟨C,z,rfl⟩:=e;cases C with
   |fp=>exact .cW .fp
   |ptr h=>exact SR.asNumber _ h
theorem SR.EI{S:FuncId->Bool}{dim:Bool}(F:Fit P S dim)(t:TypeId){x d y f:Value}(j:VR ρ x d)(g:VR ρ y f)(k:∃a,x=.pointer a):SV P ρ (movedPointer t x y) (movedPointer t d f):=by
 unfold movedPointer;obtain⟨a,rfl⟩:=k;cases j with
 |fp=>exact(SR.add F #[] t .fp g ⟨_,rfl⟩).oV λ_ _ _ _ h=>h.1
 |ptr i=>
  dsimp only;refine(SR.numberAt i.r).cG λc p q b e=>?_;have l:p.isSome=q.isSome:=by rcases e with⟨rfl,rfl⟩|⟨_,_,_,rfl,rfl,_⟩<;>rfl
  rw[<-l];split
  ·exact .dY
  ·exact(SR.add F #[] t (.ptr (i.mono b)) (g.mono b) ⟨_,rfl⟩).oV λ_ _ _ _ h=>h.1
theorem SR.twoPlaces{S:FuncId->Bool}{dim:Bool}(F:Fit P S dim){A:cx->Nat×Nat->Nat×Nat->Prop}(a b f g:Addr):SR P A ρ (Op.twoPlaces a b) (Op.twoPlaces f g):=by
 unfold Op.twoPlaces;have e:∀c:Bool,(c||decide (a.block>=P.globals.size))=true:=λc=>by simp[F.globals]
 refine SR.prog.cG λd x y h i=>?_;obtain⟨rfl,rfl⟩:=i;try simp only[dH,gy,eW,eV,dl,dt,dM,dw]
 rw[if_pos (e _)];exact .dead rfl
theorem SR.addrMod(f:P.info? mG=none)(k:IntKind){a o:Addr}(h:AR ρ a o)(n:Int):SV P ρ (Op.addrMod k a n) (Op.addrMod k o n):=by
 unfold Op.addrMod;refine(SR.ND h.r).cG λi x y c e=>?_;rcases e with⟨p,rfl⟩|⟨m,y,rfl,rfl⟩;case inr=>
  refine .never λw=>?_;obtain⟨d,q⟩:∃d,(typeInfo mG).run P w=.halt (.stuck d) w:=by unfold typeInfo;rw[Sem.run_bind];simp only[show(Go.program).run P w=.ok P w from rfl,Result.andThen_ok,f];exact⟨_,rfl⟩
  refine⟨.stuck d,w,?_,rfl⟩;dsimp only;rw[Sem.run_bind,q];rfl
 try dsimp only
 split
 ·refine(SR.info _).cG λj x y b e=>?_;obtain⟨rfl,_⟩:=e;try dsimp only
  split
  ·exact .dY
  ·refine(SR.byteOf ((h.mono c).mono b) (by rw[<-b.g];exact p)).cG λl x y _ e=>?_;subst e;exact .cW (.int _ _)
 ·exact .dY
theorem SR.Oa   {S : FuncId → Bool} {dim : Bool} (F : Fit P S dim) (m : Nat) : ∀ (d : Nat) (t : TypeId), dr       P m t = true → m ≤ d → ∀ {ρ : cx}  {x x' y y' : Value}, VR ρ x x' → VR ρ y y' → SE P ρ (Op.equalIn d t x y) (Op.equalIn d t x' y') := by
  induction m with
  | zero => intro d t h; simp [dr]       at h
  | succ m ih =>
    intro d t hf Rh  ρ x x' y y' hx hy
    obtain _ | d := d
    · omega
    have Mt   : m ≤ d := by omega
    unfold Op.equalIn
    refine (SR.under t).cG  fun JD a b EJ   e => ?_
    obtain ⟨rfl, hu⟩ := e
    have Md  := hx.mono EJ
    have Hr  := hy.mono EJ
    simp only [dr,       hu] at hf
    cases a with
    | bool => cases Md  <;> cases Hr  <;> first | exact .cW  rfl | exact .stuck
    | string => cases Md  <;> cases Hr  <;> first | exact .cW  rfl | exact .stuck
    | slice e => cases Md  <;> cases Hr  <;> first | exact .cW  rfl | exact .stuck
    | int k =>
      cases Md  with
      | ptr ha => cases Hr  with
        | ptr hb =>
           refine (SR.behind ha).cG  fun JE p q om   e => ?_
           refine (SR.behind (hb.mono om)).cG    fun JF p' q' oq   e' => ?_
           dsimp only
           have hg : ∀ (c : Bool) (n : Nat), (c && decide (n < P.globals.size)) = false := fun c n => by simp [F.globals]
           refine SR.prog.cG  fun BD x y vN   e1 => ?_
           obtain ⟨rfl, rfl⟩ := e1
           try simp only [dH,             gy,        eW,          eV,          dl,              dt,             dM,              dw]
           rw [hg, hg]
           simp only [Bool.false_eq_true, if_false]
           refine (SR.info t).cG  fun JG i j vO   e2 => ?_
           obtain ⟨rfl, _⟩ := e2
           have hA := (e.1.mono oq).block   e'.1
           split
           · have : (p.1 == p'.1) = (q.1 == q'.1) := by
               rw [Bool.eq_iff_iff]; simp only [beq_iff_eq]; exact hA.2
             rw [this]
             split
             · exact .cW  rfl
             · exact .dY
           · exact .dY
        | int k n =>
          rcases n with (_ | j) | j
          · exact .cW  rfl
          · exact .dY
          · exact .dY
        | _ => exact .dY
      | int k n => cases Hr  with
        | ptr hb =>
          rcases n with (_ | j) | j
          · exact .cW  rfl
          · exact .dY
          · exact .dY
        | int k' n' =>
          by_cases hk : k = k'
          · subst hk
            show SE P _ (if k = k then Pure.pure (n == n') else Go.stuck "==: kinds differ") (if k = k then Pure.pure (n == n') else Go.stuck "==: kinds differ")
            rw [if_pos rfl]
            exact .cW  rfl
          · show SE P _ (if k = k' then Pure.pure (n == n') else Go.stuck "==: kinds differ") (if k = k' then Pure.pure (n == n') else Go.stuck "==: kinds differ")
            rw [if_neg hk]
            exact .stuck
        | fp     => exact .dY
        | _ => exact .stuck
      | fp     => cases Hr  <;> exact .dY
      | _ => cases Hr  <;> first | exact .dY    | exact .stuck
    | struct fields =>
      simp only [Bool.and_eq_true, Bool.not_eq_true', Array.all_eq_true_iff_forall_mem] at hf
      cases Md  <;> cases Hr  <;> first
        | exact .stuck
        | (rename_i h1 h2 _ _ h3 h4
           dsimp only
           refine SR.prog.cG  fun JE x y om   e1 => ?_
           obtain ⟨rfl, rfl⟩ := e1
           try simp only [dH,             gy,        eW,          eV,          dl,              dt,             dM,              dw]
           rw [hf.1]
           simp only [Bool.false_eq_true, if_false]
           rw [← Array.forIn_toList, ← Array.forIn_toList]
           refine SR.cG  (SR.forIn_list _ _ fun f Pc  r JF oq   => ?_) fun BD r r' _ e => ?_
           · split
             · refine (SR.part f.type (dz.mono  (om.trans   oq)   ⟨h1, h2⟩) f.offset).cG  fun BD v v' vN   hv => ?_
               refine (SR.part f.type (dz.mono  ((om.trans   oq).trans   vN)   ⟨h3, h4⟩) f.offset).cG  fun JG w w' vO   hw => ?_
               refine (ih d f.type (hf.2 f (by simpa using Pc))  Mt   (hv.mono vO)   hw).cG  fun Mv p q _ e => ?_
               subst e
               split <;> exact .cW  rfl
             · exact .cW  rfl
           · subst e
             split <;> exact .cW  rfl)
    | array len elem =>
      cases Md  <;> cases Hr  <;> first
        | exact .stuck
        | (rename_i h1 h2 _ _ h3 h4
           dsimp only
           refine (SR.size elem).cG  fun JE n n' om   e1 => ?_
           obtain ⟨rfl, _⟩ := e1
           simp only [Std.Legacy.Range.forIn_eq_forIn_range']
           refine SR.cG  (SR.forIn_list _ _ fun i Pc  r JF oq   => ?_) fun BD r r' _ e => ?_
           · refine (SR.part elem (dz.mono  (om.trans   oq)   ⟨h1, h2⟩) _).cG  fun BD v v' vN   hv => ?_
             refine (SR.part elem (dz.mono  ((om.trans   oq).trans   vN)   ⟨h3, h4⟩) _).cG  fun JG w w' vO   hw => ?_
             refine (ih d elem hf Mt   (hv.mono vO)   hw).cG  fun Mv p q _ e => ?_
             subst e
             split <;> exact .cW  rfl
           · subst e
             split <;> exact .cW  rfl)
    | _ => simp at hf
end
section
variable{P:Program}{ρ:cx}
theorem pU(m:Nat):∀(d:Nat) (t:TypeId),dr P m t=true->m<=d->P.eqGuardType d t=false:=by
 induction m with
 |zero=>intro d t h;simp[dr]at h
 |succ m g=>
  intro d t f k;obtain _|d:=d
  ·omega
  have c:m<=d:=by omega
  simp only[dr]at f;unfold Program.eqGuardType;split at f
  ·rename_i a;simp[a]
  ·rename_i a;simp[a]
  ·rename_i a;simp[a]
  ·rename_i a;simp[a]
  ·rename_i j a;simp only[Bool.and_eq_true,Array.all_eq_true_iff_forall_mem]at f;simp only[a];refine Bool.eq_false_iff.2 λb=>?_;obtain⟨i,l,b⟩:=Array.any_eq_true.1 b;simp only[Bool.and_eq_true]at b;rw[g d j[i].type (f.2 j[i] (Array.getElem_mem l)) c]at b;cases b.2
  ·rename_i e a;simp only[a];exact g d e f c
  ·cases f
theorem SR.eqGuard{S:FuncId->Bool}{dim:Bool}(F:Fit P S dim)(d:BinOp)(t:TypeId)(s:d≠ .eql->d≠ .neq->True)(o:(d=.eql\/d=.neq)->dr P 5 t=true)(k l:Operand){a m b n:Value}(p:VR ρ a m)(q:VR ρ b n):
 SE P ρ (eqGuard d t k l a b) (eqGuard d t k l m n):=by
 unfold Go.eqGuard
 by_cases g:d=.eql\/d=.neq
 ·have e:(!(match d with| .eql| .neq=>true|_=>false))=false:=by rcases g with rfl|rfl<;>rfl
  have f:=o g
  rcases g with rfl|rfl
  all_goals
   dsimp only
   cases p<;>cases q<;>first
    |exact .cW rfl
    |(dsimp only
      refine SR.prog.cG λc x y h i=>?_
      obtain⟨rfl,rfl⟩:=i
      refine SR.prog.cG λc x y h i=>?_
      obtain⟨rfl,rfl⟩:=i
      try simp only[dH,gy,eW,eV,dl,dt,dM,dw]
      rw[pU 5 _ _ f F.depth]
      exact .cW (by first|rfl|trivial))
    |(dsimp only
      repeat' split
      all_goals first
      |exact .cW rfl
      |refine SR.cG (A:=λ_ a b=>a=false/\b=false) ?_ λj x y h i=>?_
       ·show SR P _ ρ (Op.eqGuardIn (9999+1) t .nilIface .nilIface) (Op.eqGuardIn (9999+1) t .nilIface .nilIface)
        unfold Op.eqGuardIn
        refine(SR.under t).cG λc a b _ e=>?_
        obtain⟨rfl,r⟩:=e
        simp only[dr,r]at f
        cases a<;>first|exact .cW ⟨rfl,rfl⟩|(simp at f)
       ·obtain⟨rfl,rfl⟩:=i
        exact .cW rfl)
 ·cases d<;>first|exact absurd (.inl rfl) g|exact absurd (.inr rfl) g|exact .cW rfl
theorem SR.Kv(d:BinOp)(t:TypeId)(k e:IntKind)(a b:Int):SV P ρ (binOp d t (.int k a) (.int e b)) (binOp d t (.int k a) (.int e b)):=by
 have c:∀d:BinOp,SV P ρ (if k≠e then Go.stuck "BinOp: operands of different kinds" else
  match d with
  | .add| .sub| .mul=>Op.intArith d k a b
  | .quo| .rem=>Op.intDiv d k a b
  | .and| .or| .xor| .andNot=>Op.intBits d k a b
  |_=>Op.intCmp d a b) (if k≠e then Go.stuck "BinOp: operands of different kinds" else
  match d with
  | .add| .sub| .mul=>Op.intArith d k a b
  | .quo| .rem=>Op.intDiv d k a b
  | .and| .or| .xor| .andNot=>Op.intBits d k a b
  |_=>Op.intCmp d a b):=by
  intro d;split
  ·exact .stuck
  ·cases d<;>first
    |exact .cW (.int _ _)
    |exact .cW (.bool _)
    |exact .stuck
    |(dsimp only;unfold Op.intDiv;split
      ·exact SR.fU _ (.inr (.inl ⟨_,rfl⟩))
      ·exact .cW (.int _ _))
 cases d with
 |add=>exact c .add
 |sub=>exact c .sub
 |mul=>exact c .mul
 |quo=>exact c .quo
 |rem=>exact c .rem
 |and=>exact c .and
 |or=>exact c .or
 |xor=>exact c .xor
 |andNot=>exact c .andNot
 |eql=>exact c .eql
 |neq=>exact c .neq
 |lss=>exact c .lss
 |leq=>exact c .leq
 |gtr=>exact c .gtr
 |geq=>exact c .geq
 |shl=>
  show SV P ρ (Op.shift .shl k a e b) (Op.shift .shl k a e b);unfold Op.shift;split
  ·exact SR.fU _ (.inr (.inl ⟨_,rfl⟩))
  ·exact .cW (.int _ _)
 |shr=>
  show SV P ρ (Op.shift .shr k a e b) (Op.shift .shr k a e b);unfold Op.shift;split
  ·exact SR.fU _ (.inr (.inl ⟨_,rfl⟩))
  ·exact .cW (.int _ _)
theorem SR.Kw(c:BinOp)(t:TypeId)(a b:ByteArray):SV P ρ (binOp c t (.string a) (.string b)) (binOp c t (.string a) (.string b)):=by
 cases c<;>first
  |exact .cW (.bool _)
  |exact .stuck
  |(show SV P ρ (Op.stringOp .add a b) (Op.stringOp .add a b);unfold Op.stringOp;dsimp only;split
    ·exact .dY
    ·exact .cW (.string _))
theorem SR.equal{S:FuncId->Bool}{dim:Bool}(F:Fit P S dim)(t:TypeId)(c:dr P 5 t=true){x a y b:Value}(d:VR ρ x a)(e:VR ρ y b):SE P ρ (Op.equal t x y) (Op.equal t a b):=
 SR.Oa F 5 Op.maxDepth t c (by decide) d e
theorem SR.Ob{S:FuncId->Bool}{dim:Bool}(F:Fit P S dim)(d:BinOp)(k:d=.eql\/d=.neq)(t:TypeId)(j:dr P 5 t=true){x f y g:Value}(h:VR ρ x f)(i:VR ρ y g):SV P ρ (binOp d t x y) (binOp d t f g):=by
 have l:SV P ρ (do Pure.pure (Value.bool (<-Op.equal t x y))) (do Pure.pure (Value.bool (<-Op.equal t f g))):=by refine SR.cG (SR.equal F t j h i) λc a b _ e=>?_;subst e;exact .cW (.bool _)
 have m:SV P ρ (do Pure.pure (Value.bool (!(<-Op.equal t x y)))) (do Pure.pure (Value.bool (!(<-Op.equal t f g)))):=by refine SR.cG (SR.equal F t j h i) λc a b _ e=>?_;subst e;exact .cW (.bool _)
 rcases k with rfl|rfl
 ·cases h<;>cases i<;>first|exact l|exact SR.Kv _ _ _ _ _ _|exact SR.Kw _ _ _ _
 ·cases h<;>cases i<;>first|exact m|exact SR.Kv _ _ _ _ _ _|exact SR.Kw _ _ _ _
theorem SR.Mw{S:FuncId->Bool}{dim:Bool}(F:Fit P S dim)(f:BinOp)(d:f≠ .eql/\f≠ .neq)(t:TypeId){x o y p:Value}(r:VR ρ x o)(l:VR ρ y p)(q:(∃a,x=.pointer a)\/∃a,y=.pointer a):SV P ρ (binOp f t x y) (binOp f t o p):=by
 cases r with
 |fp=>
  cases l with
  |int k n=>
   cases f<;>first
    |exact .dY
    |exact absurd rfl d.1
    |exact absurd rfl d.2
    |(refine(SR.under t).cG λc a b g e=>?_;obtain⟨rfl,_⟩:=e;cases a<;>first|exact SR.uF F t .fp (.int k n) ⟨none,rfl⟩|exact SR.EI F t .fp (.int k n) ⟨none,rfl⟩)
    |exact SR.uF F t .fp (.int k (-n)) ⟨none,rfl⟩
  |_=>cases f<;>first|exact .dY|exact absurd rfl d.1|exact absurd rfl d.2
 |ptr i=>
  cases l with
  |int k n=>
   cases f<;>first
    |exact .dY
    |exact absurd rfl d.1
    |exact absurd rfl d.2
    |(refine(SR.under t).cG λc a b g e=>?_;obtain⟨rfl,_⟩:=e;split<;>first|exact SR.EI F t (.ptr (i.mono g)) (.int _ _) ⟨_,rfl⟩|exact SR.uF F t (.ptr (i.mono g)) (.int _ _) ⟨_,rfl⟩)
    |exact SR.uF F t (.ptr i) (.int _ _) ⟨_,rfl⟩
    |(refine(SR.behind i).cG λc a b _ e=>?_;exact SR.addrMod F.bad _ e.1 _)
  |ptr j=>
   cases f<;>first
    |exact .dY
    |exact absurd rfl d.1
    |exact absurd rfl d.2
    |(refine(SR.behind i).cG λc a b g e=>?_;refine(SR.behind (j.mono g)).cG λm s u _ v=>?_;first
       |(unfold Op.addrSub;exact SR.cG (SR.twoPlaces F (A:=λ_ _ _=>False) _ _ _ _) λ_ _ _ _ h=>h.elim)
       |(unfold Op.addrCmp;exact SR.cG (SR.twoPlaces F (A:=λ_ _ _=>False) _ _ _ _) λ_ _ _ _ h=>h.elim))
  |_=>cases f<;>first|exact .dY|exact absurd rfl d.1|exact absurd rfl d.2
 |int k n=>
  cases l with
  |fp=>
   cases f<;>first
    |exact .dY
    |exact absurd rfl d.1
    |exact absurd rfl d.2
    |exact SR.uF F t .fp (.int _ _) ⟨_,rfl⟩
  |ptr j=>
   cases f<;>first
    |exact .dY
    |exact absurd rfl d.1
    |exact absurd rfl d.2
    |exact SR.uF F t (.ptr j) (.int _ _) ⟨_,rfl⟩
    |(refine(SR.behind j).cG λc a b _ e=>?_;exact SR.addrMod F.bad _ e.1 _)
  |_=>rcases q with⟨a,h⟩|⟨a,h⟩<;>cases h
 |_=>
  cases l with
  |fp=>cases f<;>first|exact .dY|exact absurd rfl d.1|exact absurd rfl d.2
  |ptr j=>cases f<;>first|exact .dY|exact absurd rfl d.1|exact absurd rfl d.2
  |_=>rcases q with⟨a,h⟩|⟨a,h⟩<;>cases h
theorem SR.binOp{S:FuncId->Bool}{dim:Bool}(F:Fit P S dim)(b:BinOp)(t:TypeId)(k:(b=.eql\/b=.neq)->dr P 5 t=true){x i y j:Value}(f:VR ρ x i)(g:VR ρ y j):SV P ρ (Go.binOp b t x y) (Go.binOp b t i j):=by
 by_cases d:b=.eql\/b=.neq
 ·exact SR.Ob F b d t (k d) f g
 ·have c:b≠ .eql/\b≠ .neq:=⟨λe=>d (.inl e),λe=>d (.inr e)⟩;by_cases h:(∃a,x=.pointer a)\/∃a,y=.pointer a
  ·exact SR.Mw F b c t f g h
  ·cases f<;>first|exact absurd (.inl ⟨_,rfl⟩) h|skip
   all_goals cases g
   all_goals first
    |exact absurd (.inr ⟨_,rfl⟩) h
    |exact SR.Kv _ _ _ _ _ _
    |exact SR.Kw _ _ _ _
    |(cases b<;>first|exact .stuck|exact .dY|exact absurd rfl c.1|exact absurd rfl c.2)
theorem SR.conv(s d:TypeId)(j:intType P s=true)(k:intType P d=true){x l:Value}(m:VR ρ x l):SV P ρ (Go.convert s d x) (Go.convert s d l):=by
 unfold Go.convert;refine(SR.under s).cG λf a b g e=>?_;obtain⟨rfl,n⟩:=e;refine(SR.under d).cG λh o q c e=>?_;obtain⟨rfl,p⟩:=e;simp only[intType,n]at j;simp only[intType,p]at k;have i:=(m.mono g).mono c;cases a<;>first|(simp at j;done)|skip
 cases o<;>first|(simp at k;done)|skip
 cases i<;>first|exact .cW (.int _ _)|exact .dY|exact .stuck
end
end Go.ck
