/- Laws that the proof needs, part 9. Conditions: none. -/
import Derived.Conc.DeferLaws
import Derived.Conc.CompanyDraw
import Derived.Conc.TokenWalk
import Derived.Laws.MakeOwn
import Derived.Conc.AppendWalk
import Derived.Test.YteeagjkaflglpaaGreatX08
set_option maxRecDepth 100000
set_option maxHeartbeats 8000000
set_option linter.all false
namespace Go.cF.Cr
open Go.Conc Go.cF Go.cF.Kn Go.cF.Wg
open Go.ConcR (KK wgBlock WgAt stA smA mk DC0)
section
variable{P:cf}{main:Bool}{own rd:Nat->Prop}{ty:cg}{Wg:Nat}{S:gF}{K:cd->Prop}{g g':cj} {b:Frame}{a:Act}{k:List Item}{cs:List Frame}{ops:Array Oper}{i:Nat}{rest:List Nat}{o:Oper}{v:ce}
theorem WK.enter{f:cm}{fn:Func}{c:Code}{args:Array dj}{j:Array cg}(l:nN own rd (Lv ty Wg) K) (n:ops[i]? =some o)(p:Region.wanted o (yielded ops a.tmps)=true)(q:b.kind≠ .early)(e:o.op=.call {callee:=.value (.func f),args,argTypes:=j}) (m:P.funcs[f]? =some fn)(d:(fn.name== "runtime.NumGoroutine")=false)(r:fn.body=some c) (h:WK P ty Wg main rd S own K (G (Frame.enter P f (args.map a.eval) .normal) (b.at a (.inRegion ops (i::rest)::k)::cs))):WK P ty Wg main rd S own K (G (b.at a (.inRegion ops (i::rest)::k)) cs):=by
 refine WK.ctl l rfl (λw=>?_) h;have g:fn.body.isNone=false:=by rw[r];rfl
 rw[stepG_enter n p q (run_call_body e m d g)];have:listed P b.fn a o w=#[]:=by unfold listed;rw[events_call_body e m d g];exact seen_none P _
 rw[this]
def Out(U:ce->Prop)(R:ce->cd->Prop)(rd:Nat->Prop)(ρ0:cR)(caller:Frame)(cs:List Frame):gF:=λown g w=>
 ∃a x b v,g=G (caller.finish b) cs/\R x v/\VR a x b/\cR.Le ρ0 a/\vM a v w own rd/\U b
def CQ{f:cm}{fn:Func}{U:ce->Prop}(hU:∀(ts:Array ce) (Q:cf) (w:cd) (x:ce) (u:cd),(results fn ts).run Q w=.ok x u->U x){R:ce->cd->Prop}{ρ0:cR}{caller:Frame}{w:cd}(hR:∀x w T,R x w->R x (cI w T))(hG:Good P ρ0)(M:P.funcs[f]? =some fn) (h:Ec P (Left P f R) rd (caller::cs) ρ0 own g w):Wy (P.ir ρ0.fs) ty Wg main rd (Out U R rd ρ0 caller cs) own g w:=by
 obtain⟨c,O,o,k,d,t,hl,F⟩:=h;have z:=o;obtain⟨h1,H,x0,h3,h4,h5,h6,ac,h7,h8⟩:=z;rw[H,M]at h7;obtain rfl:=cE h7;obtain⟨l,ad,ae,af,ag⟩:=g;obtain⟨S,ah,e1,V,hX⟩:=k.callers;have e3:=k.st.2;have e4:=k.dy.2;have e5:=k.of.2;simp only at V e3 e4 e5 d;have I:c.cl=S++[floor]:=e1;rw[h1]at I;have W:S=[]:=by
  cases S with
  |nil=>rfl
  |cons y ys=>simp at I
 subst W;cases hX;simp only[sM]at V;subst V e3 e4 e5;have m2:l.mode=.returning:=by have p:=d.mode;rw[h4]at p;generalize l.mode=m at p⊢;cases p;rfl
 have d2:l.defers=[]:=by have p:=d.defers;rw[h5]at p;generalize l.defers=m at p⊢;cases p;rfl
 have k2:l.kind=.normal:=d.kind▸h6;have f2:l.fn=f:=d.fn▸H;have X:Good P O:=hG.mono t;have g2:(P.ir ρ0.fs).funcs[f]? =some fn:=by obtain⟨ai,c2,j1,_,_,j4⟩:=X.two.fn f (H▸d.fnS.1);rw[j4 (H▸d.fnS.2)]at M;rw[t.f];show O.fs[f]? =_;rw[j1,M]
 refine kF rfl λn hr=>?_;have q:=hl.rely hr;have hw:WR O (cI c.v (qq c.v n)) n:=WR.qq q.heap;obtain⟨_,_,x,k3,k4,k5,k6,aj,k7,k8⟩:=Left.cI hR c (qq c.v n) F o;rw[H,M]at k7;obtain rfl:=cE k7;have Y:(results fn c.fr.tmps).run P (cI c.v (qq c.v n))=.ok x (cI c.v (qq c.v n)):=k8;have C:∀{r:Result ce} {J:Array Event},(results fn c.fr.tmps).runT P (cI c.v (qq c.v n)) #[]=(r,J)->r=.ok x (cI c.v (qq c.v n)):=λ{r J} e=>by rw[mU]at e;exact(cM Prod.fst e).symm.trans Y
 rcases dw.run hw (SR.results (fn:=fn) d.tmps)with⟨hh,v1,J,e,_⟩|⟨a,b,v1,N,D,J,K,e,E,L,m⟩|⟨a,b,v1,N,D,J,K,e,E,L,m⟩;cases C e;have:=C e;injection this with ea ev;subst ea ev;rw[<-t.f]at E;let A:Nat->Prop:=λb=>own b\/(n.heap.size<=b/\b<N.heap.size);have Z:vM D (cI c.v (qq c.v n)) N A rd:=by refine⟨m.rel.hr,λb c' i=>?_⟩;rcases m.fresh b c' i with h|⟨_,h⟩;rcases q.zone b c' h with h|⟨h,j⟩;exact .inl (.inl h);have s:wN (cI c.v (qq c.v n)) b:=j;exact .inr ⟨h,s.keep (m.tX b s)⟩;exact .inl (.inr ⟨h,m.rel.TP i⟩)
 refine⟨G (caller.finish b) cs,N,seen (P.ir ρ0.fs) f K,A,?_,⟨m.tape,m.os,m.output,m.usize,λb=>l8,λb hb aa=>m.same b hb λb0 i=>?_,λe he=>?_⟩,nX λw2 ab=>⟨D,a,b,_,rfl,k3,L,t.trans m.le,Z.rely ab,hU _ _ _ _ _ (by rw[mU]at E;exact(Prod.mk.inj E).1)⟩⟩;rw[mU]at E;obtain⟨r1,r2⟩:=Prod.mk.inj E;simp[stepG,unwind,doReturn,m2,d2,k2,f2,g2,r1,r2,G,GStep.after];rcases q.zone b0 b i with h|⟨_,h⟩;exact absurd h aa;exact h;rcases m.evs e (jQ he)with⟨a,B,b,rfl,i,_,F⟩|⟨r,B,b,rfl,i,F⟩|⟨a,B,rfl,hn,p⟩|⟨r,B,rfl,hn,p⟩|rfl;refine .inl ⟨a,B,rfl,?_⟩;rcases q.zone b a.block i with h|⟨h,j⟩;exact .inl h;cases B with
 |true=>exact absurd (show wN (cI c.v (qq c.v n)) b from j) (F rfl)
 |false=>exact .inr (.inl ⟨rfl,h⟩)
 refine .inr (.inl ⟨r,B,rfl,?_⟩);rcases q.zone b r i with h|⟨h,j⟩;exact .inl h;exact absurd (show wN (cI c.v (qq c.v n)) b from j) F;exact .inl ⟨a,B,rfl,.inr (.inr ⟨hn,p⟩)⟩;exact .inr (.inl ⟨r,B,rfl,.inr ⟨hn,p⟩⟩);exact .inr (.inr rfl);cases C e
def qY{ρ0:cR}{w v:cd}{f:cm}{xs xs':Array ce}(b:Good P ρ0)(c:∀f,ρ0.hole f=false)(d:ρ0.S f=true)(a:eT ρ0 xs xs')(e:vM ρ0 v w own rd):Inv P ⟨Frame.enter P f xs .normal,[floor],v⟩:=by
 have h:Inv P ⟨Frame.enter P f xs .normal,[floor],cI v (qq v w)⟩:=
  ⟨ρ0,w,G (Frame.enter (P.ir ρ0.fs) f xs' .normal) [],b,c,WR.qq e.heap,rX b d a .normal (.inl rfl),⟨[],[],rfl,rfl,.nil⟩,⟨rfl,rfl⟩,⟨rfl,rfl⟩,⟨rfl,rfl⟩⟩
 exact h.cI v.tape
def Wy.keep{B:Nat->Prop}{w:cd}(c:∀b,B b->rd b/\¬own b/\b<w.heap.size)(h:Wy P ty Wg main rd S own g w):Wy P ty Wg main rd (λo g w'=>S o g w'/\∀b,B b->w'.heap[b]? =w.heap[b]?) own g w:=by
 obtain⟨A,h⟩:=h
 have k:∀(l:Nat->Option Obj),(∀b,B b->rd b/\¬own b/\b<w.heap.size/\w.heap[b]? =l b)->Wy P ty Wg main rd (λo g w'=>S o g w'/\∀b,B b->w'.heap[b]? =l b) own g w:=by
  intro l c;rename_i m;clear m;induction h with
  |here h=>exact nX λi f=>⟨h i f,λb a=>(f.heap b (c b a).2.2.1 (.inr (c b a).1)).trans (c b a).2.2.2⟩
  |step t u C v=>
   refine kF t λi f=>?_;obtain⟨g',w',n,d,e,j⟩:=u i f;refine⟨g',w',n,d,e,j,v i g' w' n d f e j λb a=>?_⟩;obtain⟨p,q,r,y⟩:=c b a;have s:b<i.heap.size:=dl r f.size;refine⟨p,λz=>?_,dl s j.size,(j.same b s q).trans ((f.heap b r (.inr p)).trans y)⟩;rcases(j.owns b).1 z with x|⟨x,_⟩;exact q x;omega
 exact k (λb=>w.heap[b]?) λb a=>⟨(c b a).1,(c b a).2.1,(c b a).2.2,rfl⟩
def Wy.Uv{w:cd}(j:¬own Wg)(k:Lv ty Wg w)(h:Wy P ty Wg main rd S own g w):Wy P ty Wg main rd (λo g w'=>S o g w'/\Lv ty Wg w') own g w:=by
 obtain⟨u,h⟩:=h;induction h with
 |here h=>exact nX λb c=>⟨h b c,c.live k⟩
 |step p q v r=>
  refine kF p λb c=>?_;obtain⟨g',w',l,a,e,f⟩:=q b c;obtain⟨m,n,s⟩:=c.live k;have d:b.heap[Wg]? =some (wgBlock ty m n):=s;have i:Wg<b.heap.size:=lt_of_heap d;refine⟨g',w',l,a,e,f,r b g' w' l a c e f (λt=>?_) ⟨m,n,(f.same Wg i j).trans d⟩⟩;rcases(f.owns Wg).1 t with x|⟨x,_⟩;exact j x;omega
def IR{f:cm}{fn:Func}{U:ce->Prop}(i:∀(j:Array ce) (Q:cf) (w:cd) (x:ce) (u:cd),(results fn j).run Q w=.ok x u->U x){R:ce->cd->Prop}{ρ0:cR}{caller:Frame}{w v:cd}{xs xs':Array ce}(b:Good P ρ0)(c:∀f,ρ0.hole f=false)(d:ρ0.S f=true)(k:P.funcs[f]? =some fn) (l:∀x w T,R x w->R x (cI w T))(a:eT ρ0 xs xs')(m:Reach P (Left P f R) ⟨Frame.enter P f xs .normal,[floor],v⟩)(e:vM ρ0 v w own rd):Wy (P.ir ρ0.fs) ty Wg main rd (Out U R rd ρ0 caller cs) own (G (Frame.enter (P.ir ρ0.fs) f xs' .normal) (caller::cs)) w:=by
 have n:qB P ρ0 (caller::cs) (G (Frame.enter P f xs .normal) [floor]) (G (Frame.enter (P.ir ρ0.fs) f xs' .normal) (caller::cs)):=
  ⟨rX b d a .normal (.inl rfl),⟨[],[],rfl,rfl,.nil⟩,⟨rfl,rfl⟩,⟨rfl,rfl⟩,⟨rfl,rfl⟩⟩
 have p:=SI (main:=main) (L:=Lv ty Wg) (cs:=caller::cs) (ρ0:=ρ0) Left.callers _ m ρ0 own _ w (qY b c d a e) b (λf _=>c f) (.refl _) n e;exact Wy.bind p λo g w h=>CQ i l b k h
end
end Go.cF.Cr
namespace Go.Proofs.W
open Go.Conc Go.cF Go.cF.Cr Go.cF.Wg Go.RowKit Go.Conc.Lib Go.ConcR.Gen
def MM(pl:Addr)(w:cd):(Instr.build 245 #[(0,.pointer (some pl))]).run PR w=.ok (.agg #[.pointer (some pl),.slice none 0 0,.int .u8 0,.int .u8 0,.int .u8 0,.int .u8 0,.int .u8 0,.int .u8 0,.slice none 0 0,.int .i64 0,.int .i64 0,.bool false]) w:=by kernel_rfl
def J3(pl:Addr)(w:cd):(Instr.build 245 #[(0,.pointer (some pl))]).events PR w #[]=#[]:=by kernel_rfl
def MN(i m n:Int)(b:Bool)(a:Option Addr)(l c:Nat)(w:cd):(Instr.build 247 #[(0,.int .i64 i),(1,.agg #[.slice a l c,.int .i64 m,.int .i64 n,.bool b])]).run PR w=.ok (.agg #[.int .i64 i,.slice a l c,.int .i64 m,.int .i64 n,.bool b]) w:=by kernel_rfl
def J4(i m n:Int)(b:Bool)(a:Option Addr)(l c:Nat)(w:cd):(Instr.build 247 #[(0,.int .i64 i),(1,.agg #[.slice a l c,.int .i64 m,.int .i64 n,.bool b])]).events PR w #[]=#[]:=by kernel_rfl
end Go.Proofs.W
namespace Go.Proofs.W
open Go.Conc Go.cF Go.cF.Cr Go.cF.Wg Go.RowKit Go.Conc.Lib Go.ConcR.Gen
open Go.ConcR (KK wgBlock WgAt stA smA mk DC0)
def xH(rd:Nat->Prop)(Q:cd->Prop):Prop:=∀(w a:cd),w.heap.size<=a.heap.size->(∀b,b<w.heap.size->rd b->a.heap[b]? =w.heap[b]?)->Q w->Q a
def xH.rely{own rd:Nat->Prop}{L:cd->Prop}{Q:cd->Prop}(h:xH rd Q){w w1:cd}(c:dG own rd L w w1)(d:Q w):Q w1:=h w w1 c.size (λb e a=>c.heap b e (.inr a)) d
structure KW(pc ic oc Wg Ch:Nat)(pl:Addr)(i:Int)(Q:cd->Prop)(w:cd):Prop where
 p:w.cell? ⟨pc,0,none⟩=some (.pointer (some pl))
 i:w.cell? ⟨ic,0,none⟩=some (.int .i64 i)
 o:w.cell? ⟨oc,0,none⟩=some (.chan (some Ch))
 live:Lv 241 Wg w
 q:Q w
theorem KW.rely{pc b oc Wg Ch:Nat}{pl:Addr}{i:Int}{Q:cd->Prop}{own rd:Nat->Prop}(c:rd pc)(d:rd b)(e:rd oc)(f:xH rd Q):nN own rd (Lv 241 Wg) (KW pc b oc Wg Ch pl i Q):=
 λ_ _ a h=>⟨a.cell (.inr c) h.p,a.cell (.inr d) h.i,a.cell (.inr e) h.o,a.live h.live,f.rely a h.q⟩
def jp(pl:Addr):Array ce:=#[.pointer (some pl),.slice none 0 0,.int .u8 0,.int .u8 0,.int .u8 0,.int .u8 0,.int .u8 0,.int .u8 0,.slice none 0 0,.int .i64 0,.int .i64 0,.bool false]
noncomputable def Ep:Array Oper:=(λ(x:Array Oper) (_:fH Tryz.f188 2=.region 2 x false)=>x) _ (by conv=>lhs;whnf)
noncomputable def eE:Array Oper:=(λ(x:Array Oper) (_:fH Tryz.f188 3=.region 3 x true)=>x) _ (by conv=>lhs;whnf)
noncomputable def iY(pc i oc Wg T:Nat)(pl:Addr)(j k a b c d e f g h:ce):Act:=
 {tmps:=#[.pointer (some ⟨Wg,0,none⟩),.pointer (some ⟨pc,0,none⟩),.pointer (some ⟨i,0,none⟩),.pointer (some ⟨oc,0,none⟩),.pointer (some ⟨T,0,none⟩),.pointer (some pl),.agg (jp pl),.pointer (some ⟨T,0,none⟩),j,k,a,b,c,d,e,f,g,h],defers:=[dcall 189 #[.pointer (some ⟨Wg,0,none⟩)]]}
noncomputable def Er(pc a oc Wg T:Nat)(pl:Addr)(i:Int):Frame:=
 En.at (iY pc a oc Wg T pl (.pointer (some ⟨T,0,none⟩)) (.int .i64 i) undef undef undef undef undef undef undef undef) [.inRegion Ep [2],.code (.region 3 eE true)]
def Rs(rd:Nat->Prop)(Wg:Nat)(pl:Addr)(i:Int)(Q:cd->Prop)(Sc:(Nat->Prop)->cd->ce->Prop):Prop:=
 ∀(d:Nat->Prop) (w:cd) (T:Nat) (c:Frame) (e:List Frame),Q w->(∀b,d b↔b=T)->w.heap[T]? =some (.cells (jp pl) 245)->
  Wy PR 241 Wg false rd (λo g f=>g=G (c.finish undef) e/\o T/\∃k p q r t u v x a l h m n s y,f.heap[T]? =some (.cells #[k,p,q,r,t,u,v,x,.slice a l h,.int .i64 m,.int .i64 n,.bool s] 245 y)/\
   ∀j,dG o rd (Lv 241 Wg) f j->Sc o j (.agg #[.slice a l h,.int .i64 m,.int .i64 n,.bool s])) d (G (Frame.enter PR 190 #[.pointer (some ⟨T,0,none⟩),.int .i64 i] .normal) (c::e)) w
def sd{w:cd}{ad:Addr}{v:ce}(h:w.cell? ad=some v):ad.block<w.heap.size:=by refine yB λa=>?_;have:w.heap[ad.block]? =none:=mO a;simp[World.cell?,this]at h
def vP{w:cd}{ad:Addr}{v:ce}{ob:Obj}(h:w.cell? ad=some v):({w with heap:=w.heap.push ob}:cd).cell? ad=w.cell? ad:=by
 have b:ad.block<w.heap.size:=by refine yB λa=>?_;have:w.heap[ad.block]? =none:=mO a;simp[World.cell?,this]at h
 have:(w.heap.push ob)[ad.block]? =w.heap[ad.block]? :=by rw[qG];split;omega;rfl
 simp only[World.cell?,this]
def se{w:cd}{ty Wg:Nat}{ob:Obj}(h:Lv ty Wg w):Lv ty Wg ({w with heap:=w.heap.push ob}:cd):=by obtain⟨a,b,h⟩:=h;refine⟨a,b,?_⟩;have c:w.heap[Wg]? =some (wgBlock ty a b):=h;show(w.heap.push ob)[Wg]? =_;rw[qG];split;have:=lt_of_heap c;omega;exact c
def PQ{pc g oc Wg Ch:Nat}{pl:Addr}{i:Int}{Q:cd->Prop}{rd:Nat->Prop}{S:gF}(t:rd pc)(u:rd g)(A:rd oc)(y:xH rd Q)
 (B:∀T,WK PR 241 Wg false rd S (λx=>cC x\/x=T) (λw=>KW pc g oc Wg Ch pl i Q w/\w.heap[T]? =some (.cells (jp pl) 245)/\pc<T/\g<T/\oc<T/\Wg<T)
  (G (Frame.enter PR 190 #[.pointer (some ⟨T,0,none⟩),.int .i64 i] .normal) [Er pc g oc Wg T pl i,bot])):
 WK PR 241 Wg false rd S cC (KW pc g oc Wg Ch pl i Q) (born PR (call188 pc g oc Wg)):=by
 have c:∀m,nN m rd (Lv 241 Wg) (KW pc g oc Wg Ch pl i Q):=λ_=>KW.rely t u A y;have r:=λw=>MM pl w;have s:=λw=>J3 pl w;refine WK.ctl (c _) rfl (J2 pc g oc Wg) ?_;simp only[CP,Tryz.f188,kC,Eo,Array.replicate,List.replicate];refine WK.ctl (c _) rfl (λ_=>iv) ?_;refine WK.ctl (c _) rfl (λ_=>jl) ?_;simp only[iP,dW,fC,Nat.reduceAdd,cB,List.range,List.range.loop];refine WK.ctl (c _) rfl (λ_=>stepG_defer rfl rfl (by k_ne) rfl) ?_;walk_nrm;refine WK.ctl (c _) rfl (λ_=>iH) ?_;refine WK.ctl (c _) rfl (λ_=>iv) ?_;refine WK.ctl (c _) rfl (λ_=>jl) ?_;simp only[iP,dW,fC,Nat.reduceAdd,cB,List.range,List.range.loop];refine WK.load (v:=.pointer (some pl)) (c _) rfl rfl (by k_ne) (λw a=>?_) (λw a e j=>?_) ?_;have k:=(λw a=>a.p) w a;go_simp;have k:=(λw a=>a.p) w a;simp[go_sem,k]at j;exact .inl ⟨_,_,j,.inr (.inl ⟨rfl,t⟩)⟩;walk_nrm;refine WK.val (v:=.agg (jp pl)) (c _) rfl rfl (by k_ne) (λw=>?_) (λw=>?_) ?_;go_simp;first|rfl|simp only[r]|skip
 simp[go_sem,s];walk_nrm;refine WK.new (f:=λn=>.pointer (some ⟨n,0,none⟩)) (ob:=.cells (jp pl) 245) (c _) rfl rfl (by k_ne) (λw a=>?_) (λw a e j=>?_) (λT=>?_);go_simp;first|rfl|skip
 simp[go_sem]at j;refine WK.mono (K':=λw=>KW pc g oc Wg Ch pl i Q w/\w.heap[T]? =some (.cells (jp pl) 245)/\pc<T/\g<T/\oc<T/\Wg<T) ?_ ?_;rotate_left;rintro w ⟨l,a,rfl,z⟩;have C:KW pc g oc Wg Ch pl i Q {l with heap:=l.heap.push (.cells (jp pl) 245)}:=by exact⟨by rw[<-a.p];exact vP a.p,by rw[<-a.i];exact vP a.i,by rw[<-a.o];exact vP a.o,se a.live,y l _ (by simp) (λb E _=>by show(l.heap.push _)[b]? =_;rw[qG];split;omega;rfl) a.q⟩
 obtain⟨F,H,D⟩:=a.live;exact⟨(c _) _ _ z C,z.obj (.inl (.inr rfl)) (by simp),sd a.p,sd a.i,sd a.o,lt_of_heap D⟩;have d:nN (λx=>cC x\/x=T) rd (Lv 241 Wg) (λw=>KW pc g oc Wg Ch pl i Q w/\w.heap[T]? =some (.cells (jp pl) 245)/\pc<T/\g<T/\oc<T/\Wg<T):=IQ (c _) (IQ (PP (.inl (.inr rfl))) λ_ _ _ h=>h);walk_nrm;refine WK.val (v:=?_) d rfl rfl (by k_ne) (λw=>?_) (λw=>?_) ?_;rotate_left;go_simp;rfl;go_simp;walk_nrm;refine WK.ctl d rfl (λ_=>iH) ?_;refine WK.ctl d rfl (λ_=>iv) ?_;refine WK.ctl d rfl (λ_=>jl) ?_;simp only[iP,dW,fC,Nat.reduceAdd,cB,List.range,List.range.loop];refine WK.val (v:=?_) d rfl rfl (by k_ne) (λw=>?_) (λw=>?_) ?_;rotate_left;go_simp;rfl;go_simp;walk_nrm;refine WK.load (v:=.int .i64 i) d rfl rfl (by k_ne) (λw a=>?_) (λw a e j=>?_) ?_;have k:=(λw a=>a.1.i) w a;go_simp;have k:=(λw a=>a.1.i) w a;simp[go_sem,k]at j;exact .inl ⟨_,_,j,.inr (.inl ⟨rfl,u⟩)⟩;walk_nrm;refine WK.enter d rfl rfl (by k_ne) rfl Tryz.func190 rfl rfl ?_;simp only[List.map_toArray,jP,qK];exact B T
def Cl(d e a b c f:Bool):Prop:=(a=true->e=true)/\(b=true->a=true)/\(c=true->b=true)/\(f=true->c=true/\d=true)
instance (b1 b2 b3 b4 b5 b6:Bool):Decidable (Cl b1 b2 b3 b4 b5 b6):=by unfold Cl;infer_instance
def G7:∀g a b c d e f:Bool,Cl a b c d e f->Region.ready .any eE #[g,a,b,c,d,e,f,false]≠[]:=by decide+kernel
def ct(b:Bool):Nat:=if b then 0 else 1
def Nx(f a b c d e g:Bool)(i:Nat):Prop:=(i=0/\f=false)\/(i=1/\a=false)\/(i=2/\b=false)\/(i=3/\c=false/\b=true)\/(i=4/\d=false/\c=true)\/(i=5/\e=false/\d=true)\/(i=6/\g=false/\e=true/\a=true)\/(i=7/\f=true/\a=true/\b=true/\c=true/\d=true/\e=true/\g=true)
instance (b0 b1 b2 b3 b4 b5 b6:Bool) (i:Nat):Decidable (Nx b0 b1 b2 b3 b4 b5 b6 i):=by unfold Nx;infer_instance
def Et:∀g a b c d e f:Bool,Cl a b c d e f->((Region.ready .any eE #[g,a,b,c,d,e,f,false]).all λi=>decide (Nx g a b c d e f i))=true:=by decide+kernel
def G8{g a b c d e f:Bool}(h:Cl a b c d e f)(i:Nat)(j:i∈Region.ready .any eE #[g,a,b,c,d,e,f,false]):Nx g a b c d e f i:=by have:=jF.1 (Et g a b c d e f h) i j;simpa using this
structure K2(pc ic oc Wg Ch T:Nat)(pl:Addr)(i:Int)(Q:cd->Prop)(p0 p1 p2 p3 p4 p5 p6 p7 sa:ce)(m n:Int)(s:Bool)(Sc:cd->ce->Prop)(w:cd):Prop where
 kw:KW pc ic oc Wg Ch pl i Q w
 t:∃fz,w.heap[T]? =some (.cells #[p0,p1,p2,p3,p4,p5,p6,p7,sa,.int .i64 m,.int .i64 n,.bool s] 245 fz)
 sc:Sc w (.agg #[sa,.int .i64 m,.int .i64 n,.bool s])
noncomputable def qZ(pc c oc Wg Ch T:Nat)(pl:Addr)(i:Int)(a b:ce)(d e f g h j k:Bool):Act:=
 iY pc c oc Wg T pl (.pointer (some ⟨T,0,none⟩)) (.int .i64 i) undef (if d then .chan (some Ch)else undef) (if e then .int .i64 i else undef) (if f then .pointer (some ⟨T,0,none⟩)else undef)
  (if g then .pointer (some ⟨T,0,none⟩)else undef) (if h then .pointer (some ⟨T,8,none⟩)else undef) (if j then a else undef) (if k then b else undef)
def yQ{ops:Array Oper}{fuel t:Nat}{l:Array Bool}(b:Region.ready .any ops l≠[]):∃i c,i∈Region.ready .any ops l/\Region.linearise.go .any ops (fuel+1) t l []=i::Region.linearise.go .any ops fuel c (l.setIfInBounds i true) []:=by
 have a:t%(Region.ready .any ops l).length<(Region.ready .any ops l).length:=Nat.mod_lt _ (by cases h:Region.ready .any ops l with|nil=>exact absurd h b|cons=>simp);refine⟨(Region.ready .any ops l)[t%(Region.ready .any ops l).length],t/(Region.ready .any ops l).length,dt a,?_⟩;simp only[Region.linearise.go];change(match(Region.ready .any ops l)[t%(Region.ready .any ops l).length]? with
  |some i=>Region.linearise.go .any ops fuel (t/(Region.ready .any ops l).length) (l.setIfInBounds i true) [i]
  |none=>[].reverse)=_
 rw[ew a];simp only;rw[linearise_go_acc];simp
def PS{pc B oc Wg Ch T:Nat}{pl:Addr}{i:Int}{Q:cd->Prop}{rd own:Nat->Prop}{S:gF}{E F H I J K L M:ce}{sa:Option Addr}{sl sc:Nat}{m n:Int}{s:Bool}{Sc:cd->ce->Prop}(h2:rd B)(h3:rd oc)(hT:own T) (d:nN own rd (Lv 241 Wg) (K2 pc B oc Wg Ch T pl i Q E F H I J K L M (.slice sa sl sc) m n s Sc)) (hn:WK PR 241 Wg false rd S own (K2 pc B oc Wg Ch T pl i Q E F H I J K L M (.slice sa sl sc) m n s Sc) (G (En.at (qZ pc B oc Wg Ch T pl i (.agg #[.slice sa sl sc,.int .i64 m,.int .i64 n,.bool s]) (.agg #[.int .i64 i,.slice sa sl sc,.int .i64 m,.int .i64 n,.bool s]) true true true true true true true) [.inRegion eE [7]]) [bot])):∀(fuel:Nat) (k l p q r u f:Bool) (t:Nat),Cl l p q r u f->fuel=1+ct k+ct l+ct p+ct q+ct r+ct u+ct f->WK PR 241 Wg false rd S own (K2 pc B oc Wg Ch T pl i Q E F H I J K L M (.slice sa sl sc) m n s Sc) (G (En.at (qZ pc B oc Wg Ch T pl i (.agg #[.slice sa sl sc,.int .i64 m,.int .i64 n,.bool s]) (.agg #[.int .i64 i,.slice sa sl sc,.int .i64 m,.int .i64 n,.bool s]) k l p q r u f) [.inRegion eE (Region.linearise.go .any eE fuel t #[k,l,p,q,r,u,f,false] [])]) [bot]):=by
 intro fuel;induction fuel with
 |zero=>intro k l p q r u f t a b;omega
 |succ fuel y=>
  intro k l p q r u f t a b;obtain⟨j,z,hj,e⟩:=yQ (fuel:=fuel) (t:=t) (G7 k l p q r u f a);rw[e];rcases G8 a j hj with⟨rfl,g⟩|⟨rfl,g⟩|⟨rfl,g⟩|⟨rfl,g,A⟩|⟨rfl,g,A⟩|⟨rfl,g,A⟩|⟨rfl,g,A,N⟩|⟨rfl,O,P,R,U,V,W,X⟩;subst g;refine WK.load (v:=.chan (some Ch)) d rfl rfl (by k_ne) (λw x=>?_) (λw x e c=>?_) (y true l p q r u f z a (by simp only[ct]at b⊢;simp at b⊢;omega));have a:=x.kw.o;simp only[eE,qZ,iY];go_simp;have a:=x.kw.o;simp only[eE,qZ,iY]at c;simp[go_sem,a]at c;exact .inl ⟨_,_,c,.inr (.inl ⟨rfl,h3⟩)⟩;subst g;refine WK.load (v:=.int .i64 i) d rfl rfl (by k_ne) (λw x=>?_) (λw x e c=>?_) (y k true p q r u f z ⟨a.1,a.2.1,a.2.2.1,λh=>⟨(a.2.2.2 h).1,rfl⟩⟩ (by simp only[ct]at b⊢;simp at b⊢;omega));have a:=x.kw.i;simp only[eE,qZ,iY];go_simp;have a:=x.kw.i;simp only[eE,qZ,iY]at c;simp[go_sem,a]at c;exact .inl ⟨_,_,c,.inr (.inl ⟨rfl,h2⟩)⟩;subst g;refine WK.val (v:=.pointer (some ⟨T,0,none⟩)) d rfl rfl (by k_ne) (λw=>?_) (λw=>?_) (y k l true q r u f z ⟨λ_=>rfl,a.2.1,a.2.2⟩ (by simp only[ct]at b⊢;simp at b⊢;omega));simp only[eE,qZ,iY];go_simp;simp only[eE,qZ,iY];simp[go_sem];subst g A;refine WK.val (v:=.pointer (some ⟨T,0,none⟩)) d rfl rfl (by k_ne) (λw=>?_) (λw=>?_) (y k l true true r u f z ⟨λ_=>rfl,λ_=>rfl,a.2.2⟩ (by simp only[ct]at b⊢;simp at b⊢;omega));simp only[eE,qZ,iY];go_simp;simp only[eE,qZ,iY];simp[go_sem];subst g A;refine WK.val (v:=.pointer (some ⟨T,8,none⟩)) d rfl rfl (by k_ne) (λw=>?_) (λw=>?_) (y k l p true true u f z ⟨a.1,λ_=>rfl,λ_=>rfl,a.2.2.2⟩ (by simp only[ct]at b⊢;simp at b⊢;omega));simp only[eE,qZ,iY];go_simp;simp only[eE,qZ,iY];simp[go_sem];subst g A;refine WK.load (v:=.agg #[.slice sa sl sc,.int .i64 m,.int .i64 n,.bool s]) d rfl rfl (by k_ne) (λw x=>?_) (λw x e c=>?_) (y k l p q true true f z ⟨a.1,a.2.1,λ_=>rfl,λh=>⟨rfl,(a.2.2.2 h).2⟩⟩ (by simp only[ct]at b⊢;simp at b⊢;omega));obtain⟨fz,a⟩:=x.t;have Y:w.cell? ⟨T,8,none⟩=some (.slice sa sl sc):=by simp[World.cell?,a]
  have Z:w.cell? ⟨T,9,none⟩=some (.int .i64 m):=by simp[World.cell?,a]
  have C:w.cell? ⟨T,10,none⟩=some (.int .i64 n):=by simp[World.cell?,a]
  have D:w.cell? ⟨T,11,none⟩=some (.bool s):=by simp[World.cell?,a]
  simp only[eE,qZ,iY];go_simp;obtain⟨fz,a⟩:=x.t;have Y:w.cell? ⟨T,8,none⟩=some (.slice sa sl sc):=by simp[World.cell?,a]
  have Z:w.cell? ⟨T,9,none⟩=some (.int .i64 m):=by simp[World.cell?,a]
  have C:w.cell? ⟨T,10,none⟩=some (.int .i64 n):=by simp[World.cell?,a]
  have D:w.cell? ⟨T,11,none⟩=some (.bool s):=by simp[World.cell?,a]
  simp only[eE,qZ,iY]at c;simp[go_sem,Y,Z,C,D]at c;rcases c with c|c|c|c<;>exact .inl ⟨_,_,c,.inl hT⟩
  ·subst g A N;refine WK.val (v:=.agg #[.int .i64 i,.slice sa sl sc,.int .i64 m,.int .i64 n,.bool s]) d rfl rfl (by k_ne) (λw=>?_) (λw=>?_) (y k true p q r true true z ⟨a.1,a.2.1,a.2.2.1,λ_=>⟨rfl,rfl⟩⟩ (by simp only[ct]at b⊢;simp at b⊢;omega))
   ·simp only[eE,qZ,iY];first|(go_simp;done)|(go_simp;have:=MN i m n s sa sl sc w;rw[this];rfl)
   simp only[eE,qZ,iY];have:=J4 i m n s sa sl sc w;simp[go_sem,this]
  subst O P R U V W X;have:fuel=0:=by simp only[ct]at b;simp at b;omega
  subst this;simpa[Region.linearise.go]using hn
end Go.Proofs.W
namespace Go.cF.Wg
open Go.Conc Go.ConcN Go.RowKit Go.Conc.Lib Go.ConcR.Gen Go.ConcN.Gen Go.cF
open Go.ConcR (KK wgBlock WgAt stA smA mk Payload DC0)
section
variable{L:WgLink}
def Uw{P:cf}(H:WgLib P L){Wg qt:Nat}{c:Frame}{cs:List Frame}(d:c.mode=.returning)(g:QuitsD P qt 0 (G c cs))(w:cd)(b:True/\WgLive L.tWg Wg w):Goes P false (dG Cr.cC Cr.cC (Cr.Lv L.tWg Wg)) DC0 (Cr.R0 P L.tWg Wg) 43 (G ((baseD L.done).at ⟨#[.pointer (some ⟨Wg,0,none⟩),undef,undef,undef],[]⟩ [.code (body_done L)]) (c::cs)) w:=by have e:∀{w a:cd},True/\WgLive L.tWg Wg w->dG Cr.cC Cr.cC (Cr.Lv L.tWg Wg) w a->True/\WgLive L.tWg Wg a:=λh r=>⟨trivial,r.live h.2⟩;lib_facts;have f:=@PN L;simp only[body_done,body_add,doneFn,addFn,kC,Nat.reduceSub,Array.replicate,List.replicate,List.append_toArray,qn,sM]at f⊢;u_reg e b;u_op e b;u_in e b;refine goes_call rfl rfl (by k_ne) rfl H.f_add (nm_add L) rfl ⟨⟨rfl,rfl⟩,?_⟩;walk_nrmf addFn;refine f H (qt:=qt+3) ?_ _ b;q_c iH;q_c stepG_end;exact QuitsD.leaveD rfl rfl H.f_done rfl d g
end
end Go.cF.Wg
namespace Go.Proofs.W
open Go.Conc Go.cF Go.cF.Cr Go.cF.Wg Go.RowKit Go.Conc.Lib Go.ConcR.Gen
open Go.ConcR (KK wgBlock WgAt stA smA mk DC0)
def MO{Ch:Nat}{v:ce}{ev:dj->ce}{o:Oper}{x y:dj}(a:o.op=.send x y)(b:ev x=.chan (some Ch))(c:ev y=v)(w:cd):(execOp ev o).run PR w=.ok (.comm #[scase Ch v undef] true .send) w:=by simp only[execOp,a,b,c];simp;rfl
def Eu{Ch:Nat}{v:ce}{ev:dj->ce}{o:Oper}{x y:dj}(a:o.op=.send x y)(b:ev x=.chan (some Ch))(c:ev y=v)(w:cd):(execOp ev o).events PR w #[]=#[]:=by simp only[execOp,a,b,c];simp
def yR{R:cd->cd->Prop}{S:cj->cd->Prop}{K:cd->Prop}(c:∀{w a:cd},K w->R w a->K a){m:Nat}{g g':cj}(d:g.status=.running)(e:∀w,stepG PR false g w=.go g' w #[]) (h:∀w,K w->Goes PR false R DC0 S m g' w):∀w,K w->Goes PR false R DC0 S (m+1) g w:=by intro w f;refine .inr ⟨d,λb i=>?_⟩;rw[e b];exact⟨⟨rfl,rfl⟩,h b (c f i)⟩
def yS{fn:Func}(f:cm)(b:PR.funcs[f]? =some fn)(a:fn.results=#[])(c:Array ce)(d:List Item):QuitsD PR 2 0 (G {(baseD f).at ⟨c,[]⟩ d with mode:=.returning} [bot]):=by refine .inr ⟨rfl,G bot [],#[],by simp,λw=>?_,.inr ⟨rfl,{G bot []with status:=.finished},#[],by simp,λw=>?_,⟨rfl,rfl⟩⟩⟩;simp[G,stepG,unwind,doReturn,Frame.at,baseD,b,results,a,bot,goexitEntry,seen,GStep.after,mU];simp[G,stepG,unwind,bot,goexitEntry,Frame.catches];rfl
def G9{pc e oc Wg Ch T:Nat}{pl:Addr}{i:Int}{b c:ce}:∀(w:cd),Lv 241 Wg w->Goes PR false (dG cC cC (Lv 241 Wg)) DC0 (R0 PR 241 Wg) 46 (G (En.at (qZ pc e oc Wg Ch T pl i b c true true true true true true true) [.inRegion eE []]) [bot]) w:=by have d:∀{w a:cd},Lv 241 Wg w->dG cC cC (Lv 241 Wg) w a->Lv 241 Wg a:=λh r=>r.live h;refine yR (K:=Lv 241 Wg) d rfl (λ_=>iH) ?_;refine yR (K:=Lv 241 Wg) d rfl (λ_=>stepG_end) ?_;refine yR (K:=Lv 241 Wg) d rfl (λ_=>stepG_unwind_enter rfl Tryz.func189 rfl rfl) ?_;intro w f;exact Uw (L:=Tryz.link) Tryz.wO (qt:=2) rfl (yS 188 Tryz.func188 rfl _ _) w ⟨trivial,f⟩
def PT{pc a oc Wg Ch T k:Nat}{pl:Addr}{i:Int}{Q:cd->Prop}{rd own:Nat->Prop}{d f g j l o p q:ce}{sa:Option Addr}{sl sc:Nat}{m n:Int}{s:Bool}{Sc:cd->ce->Prop}{val:Nat->ce->(Nat->Prop)->cd->Prop}(u:rd a)(x:rd oc)(y:own T) (c:nN own rd (Lv 241 Wg) (K2 pc a oc Wg Ch T pl i Q d f g j l o p q (.slice sa sl sc) m n s Sc)) (z:∀w,K2 pc a oc Wg Ch T pl i Q d f g j l o p q (.slice sa sl sc) m n s Sc w->val k (.agg #[.int .i64 i,.slice sa sl sc,.int .i64 m,.int .i64 n,.bool s]) own w):WK PR 241 Wg false rd (Sends PR 241 Wg Ch val k) own (K2 pc a oc Wg Ch T pl i Q d f g j l o p q (.slice sa sl sc) m n s Sc) (G ((Er pc a oc Wg T pl i).finish undef) [bot]):=by
 have e:(Er pc a oc Wg T pl i).finish undef=En.at (iY pc a oc Wg T pl (.pointer (some ⟨T,0,none⟩)) (.int .i64 i) undef undef undef undef undef undef undef undef) [.inRegion Ep [],.code (.region 3 eE true)]:=by unfold Er;rw[Frame.finish_at];rfl
 rw[e];refine WK.ctl (g':=G (En.at (iY pc a oc Wg T pl (.pointer (some ⟨T,0,none⟩)) (.int .i64 i) undef undef undef undef undef undef undef undef) [.code (.region 3 eE true)]) [bot]) c rfl (λ_=>iH) ?_;intro w A;refine kF rfl λt B=>?_;refine⟨_,_,_,own,stepG_region_draw,⟨rfl,rfl,rfl,cz _,λb=>⟨.inl,λh=>h.elim id λh=>absurd h.2 (Nat.not_lt.2 h.1)⟩,λ_ _ _=>rfl,λe C=>by simp at C⟩,?_⟩;have r:K2 pc a oc Wg Ch T pl i Q d f g j l o p q (.slice sa sl sc) m n s Sc {t with drawn:=t.drawn+1}:=(c w _ (B.trans ⟨rfl,rfl,rfl,cz _,λ_ _ _=>rfl,λh=>h⟩) A);have D:PR.follows .mixedOrders=true:=by kernel_rfl
 simp only[Region.schedule,D,Bool.true_or,cX];refine PS u x y c ?_ 8 false false false false false false false _ (by decide) rfl _ r;refine WK.stop c λw r=>⟨.agg #[.int .i64 i,.slice sa sl sc,.int .i64 m,.int .i64 n,.bool s],undef,rfl,λw=>?_,z w r,46,?_⟩;refine(stepG_comm rfl rfl (by k_ne) (MO rfl rfl rfl w)).trans ?_;unfold listed;rw[Eu (v:=.agg #[.int .i64 i,.slice sa sl sc,.int .i64 m,.int .i64 n,.bool s]) (Ch:=Ch) rfl rfl rfl w,seen_none];rfl;exact G9 w r.kw.live
def fY{w w':cd}{ad:Addr}(h:w'.heap[ad.block]? =w.heap[ad.block]?):w'.cell? ad=w.cell? ad:=by unfold World.cell?;rw[h]
def worker{pc f oc Wg Ch k:Nat}{pl:Addr}{i:Int}{Q:cd->Prop}{rd:Nat->Prop}{Sc:(Nat->Prop)->cd->ce->Prop}{val:Nat->ce->(Nat->Prop)->cd->Prop}(z:rd pc)(j:rd f)(u:rd oc)(I:xH rd Q)(J:Rs rd Wg pl i Q Sc) (K:∀o w a l c m n s,Sc o w (.agg #[.slice a l c,.int .i64 m,.int .i64 n,.bool s])->val k (.agg #[.int .i64 i,.slice a l c,.int .i64 m,.int .i64 n,.bool s]) o w):WK PR 241 Wg false rd (Sends PR 241 Wg Ch val k) cC (KW pc f oc Wg Ch pl i Q) (born PR (call188 pc f oc Wg)):=by refine PQ z j u I λT=>?_;rintro w ⟨e,L,O,P,R,S⟩;have d:=J (λx=>cC x\/x=T) w T (Er pc f oc Wg T pl i) [bot] e.q (λb=>⟨λh=>h.elim (λh=>h.elim) id,.inr⟩) L;have d:=Wy.keep (B:=λb=>b=pc\/b=f\/b=oc) (by rintro b (rfl|rfl|rfl);exact⟨z,λh=>h.elim (λh=>h.elim) (λh=>by omega),sd e.p⟩;exact⟨j,λh=>h.elim (λh=>h.elim) (λh=>by omega),sd e.i⟩;exact⟨u,λh=>h.elim (λh=>h.elim) (λh=>by omega),sd e.o⟩) d;have d:=Wy.Uv (λh=>h.elim (λh=>h.elim) (λh=>by omega)) e.live d;refine d.bind ?_;rintro o g G ⟨⟨⟨rfl,r,U,V,W,X,Y,Z,p6,p7,a,l,cc,m,n,s,H,A,C⟩,D⟩,M⟩;have E:KW pc f oc Wg Ch pl i (λ_=>True) G:=⟨(fY (D pc (.inl rfl))).trans e.p,(fY (D f (.inr (.inl rfl)))).trans e.i,(fY (D oc (.inr (.inr rfl)))).trans e.o,M,trivial⟩;refine PT (T:=T) (Sc:=λw v=>∀y,dG o rd (Lv 241 Wg) w y->Sc o y v) j u r (λw y F h=>⟨KW.rely z j u (λ_ _ _ _ h=>h) w y F h.kw,h.t.imp λH h=>F.obj (.inl r) h,λN j=>h.sc N (F.trans j)⟩) (λw h=>K _ _ _ _ _ _ _ _ (h.sc w (.refl _ _ _ _))) G ⟨E,⟨H,A⟩,C⟩
end Go.Proofs.W
namespace Go.cF.Cr
open Go.Conc Go.cF Go.cF.Kn Go.cF.Wg
open Go.ConcR (KK wgBlock WgAt stA smA mk DC0)
section
variable{P:cf}{own:Nat->Prop}{ty:cg}{Wg Ch:Nat}{rc:Nat->Prop}{qU Fin:cj->cd->Prop}
def yT(r:∀g w,qU g w->∃k,Goes P false (dG own rc (Lv ty Wg)) DC0 (XH P false (dG own rc (Lv ty Wg)) Wg ty qU Fin) k g w)
 (s:∀g w,Fin g w->Wy P ty Wg false rc (TT P Ch) own g w):Anchor P ty Wg Ch rc λo g w=>o=own/\qU g w:=by
 have i:∀{k:Nat} {g:cj} {w:cd},Goes P false (dG own rc (Lv ty Wg)) DC0 (Wb P false (dG own rc (Lv ty Wg)) Wg Fin) k g w->Wy P ty Wg false rc (Vt P ty Wg Ch rc) own g w:=λh=>
  iI h λg w h=>pG (λh=>iI h λg w h=>pG (λh=>uw h s) h) h
 refine⟨λo g w ⟨a,l⟩=>?_⟩;subst a;obtain⟨k,b⟩:=r g w l;refine iI b λg w ⟨d,f⟩=>⟨d,λv t j=>?_⟩;obtain⟨c,e,l,u⟩:=f v t j;refine⟨c,e,λm=>?_,λm=>?_⟩;obtain⟨k,b⟩:=l m;exact i b;obtain⟨k,b⟩:=u m;refine iI b λg w ⟨d,f⟩=>⟨d,λx n p=>?_⟩;obtain⟨y,z⟩:=f x n p;refine⟨λe=>?_,λe=>?_⟩;obtain⟨c,q,k,b⟩:=y e;refine⟨c,q,iI b λg w h=>pG (λh=>iI h λg w ⟨d,f,A,B⟩=>⟨d,f,A,λj=>?_⟩) h⟩;obtain⟨c,e,k,b⟩:=B j;refine⟨c,e,iI b λg w ⟨d,f⟩=>⟨d,λj=>?_⟩⟩;obtain⟨c,e,k,b⟩:=f j;exact⟨c,e,i b⟩;obtain⟨c,q,k,b⟩:=z e;exact⟨c,q,iI b λg w h=>⟨rfl,h⟩⟩
def Ev{m:Nat}{g:cj}{w:cd}(h:Goes P false (dG own rc (Lv ty Wg)) DC0 (Bq P false (dG own rc (Lv ty Wg)) .disable qU) m g w):
 Wy P ty Wg false rc (Vu P ty Wg rc λo g w=>o=own/\qU g w) own g w:=
 iI h λg w h=>pG (λh=>iI h λg w h=>⟨rfl,h⟩) h
end
end Go.cF.Cr
namespace Go.Proofs.W
open Go.Conc Go.cF Go.cF.Cr Go.cF.Wg Go.RowKit Go.Conc.Lib Go.ConcR.Gen
open Go.ConcN Go.ConcN.Gen
open Go.ConcR (KK wgBlock WgAt stA smA mk DC0)
noncomputable def Ew:Frame:=baseD 191
noncomputable def call191(oc Wg:Nat):Deferred:={target:=.fn (.func 191) #[.pointer (some ⟨Wg,0,none⟩),.pointer (some ⟨oc,0,none⟩)],args:=#[]}
noncomputable def CR:Code:=Tryz.f191.body.getD .skip
def PU(oc Wg:Nat)(w:cd):stepG PR false (born PR (call191 oc Wg)) w=.go (G (Ew.at ⟨#[.pointer (some ⟨Wg,0,none⟩),.pointer (some ⟨oc,0,none⟩),undef,undef],[]⟩ [.code CR]) [bot]) w #[]:=by simp[born,call191,stepG,unwind,callDeferred,invoke,callFunc,Tryz.func191,Tryz.f191,seen,GStep.after,G,Frame.enter,Frame.at,Ew,baseD,bot,CR]
structure KC(oc Wg Ch:Nat)(w:cd):Prop where
 o:w.cell? ⟨oc,0,none⟩=some (.chan (some Ch))
 live:Lv 241 Wg w
def KC.rely{oc Wg Ch:Nat}{own rd:Nat->Prop}(b:rd oc):nN own rd (Lv 241 Wg) (KC oc Wg Ch):=λ_ _ a h=>⟨a.cell (.inr b) h.o,a.live h.live⟩
noncomputable def re:Array Oper:=#[{dst:=some 2,op:=Op.call {callee:=Callee.value (Operand.func 192),args:=#[Operand.tmp 0],argTypes:=#[241]},type:=0,pos:= "plan.go:152",after:=#[],guard:=none}]
noncomputable def ng:Array Oper:=#[{dst:=some 3,op:=Op.load 232 (Operand.tmp 1),type:=232,pos:= "plan.go:153",after:=#[],guard:=none},{dst:=none,op:=Op.call {callee:=Callee.builtin Builtin.close,args:=#[Operand.tmp 3],argTypes:=#[232]},type:=0,pos:= "plan.go:153",after:=#[{on:=0,ground:=Ground.data}],guard:=none}]
noncomputable def nh(oc Wg:Nat)(a b:ce):Act:=⟨#[.pointer (some ⟨Wg,0,none⟩),.pointer (some ⟨oc,0,none⟩),a,b],[]⟩
def Ha{oc Wg Ch:Nat}{rd:Nat->Prop}(f:rd oc):WK PR 241 Wg false rd (TT PR Ch) cC (KC oc Wg Ch) (G (Ew.at (nh oc Wg (.tuple #[]) undef) [.inRegion re [],.code (.region 1 ng false)]) [bot]):=by have a:nN cC rd (Lv 241 Wg) (KC oc Wg Ch):=KC.rely f;refine WK.ctl a rfl (λ_=>iH) ?_;refine WK.ctl a rfl (λ_=>jl) ?_;simp only[iP,dW,fC,Nat.reduceAdd,cB,List.range,List.range.loop];simp only[ng,nh];refine WK.load (v:=.chan (some Ch)) a rfl rfl (by k_ne) (λw b=>?_) (λw b e g=>?_) ?_;have d:=(λw b=>b.o) w b;go_simp;have d:=(λw b=>b.o) w b;simp[go_sem,d]at g;exact .inl ⟨_,_,g,.inr (.inl ⟨rfl,f⟩)⟩;walk_nrm;refine WK.stop a λw b=>⟨rfl,?_,G (Ew.at (nh oc Wg (.tuple #[]) (.chan (some Ch))) [.inRegion ng []]) [bot],rfl,λs r d=>?_,5,?_⟩;rfl;rw[stepG_close (c:=Ch) rfl rfl (by k_ne) rfl rfl d (by kernel_rfl)];rfl;refine lh (n:=4) (by omega) ?_;refine .ctl rfl (λ_=>iH) ?_;refine .ctl rfl (λ_=>stepG_end) ?_;exact yS 191 Tryz.func191 rfl _ _
def closer{oc Wg Ch:Nat}{rd:Nat->Prop}(j:rd oc)(l:oc≠Wg)(w:cd)(i:KC oc Wg Ch w):Mo PR 241 Wg Ch rd cC (born PR (call191 oc Wg)) w:=by
 have d:nN cC rd (Lv 241 Wg) (KC oc Wg Ch):=KC.rely j;have m:∀{w b:cd},(w.cell? ⟨oc,0,none⟩=some (.chan (some Ch)))/\WgLive Tryz.link.tWg Wg w->dG cC rd (Lv 241 Wg) w b->(b.cell? ⟨oc,0,none⟩=some (.chan (some Ch)))/\WgLive Tryz.link.tWg Wg b:=λh r=>⟨r.cell (.inr j) h.1,r.live h.2⟩;have e:∀(w:cd) (a:Addr) (x:ce),a.block=Wg->w.cell? ⟨oc,0,none⟩=some (.chan (some Ch))->(w.setCell a x).cell? ⟨oc,0,none⟩=some (.chan (some Ch)):=by intro w a x n h;rw[fY];exact h;exact Below.heap_setCell w a x oc (by rw[n];exact l)
 have p:=λ(g:cj) (w:cd)=>G5 (L:=Tryz.link) (main:=false) (R:=dG cC rd (Lv 241 Wg)) (Wg:=Wg) (F:=λw=>w.cell? ⟨oc,0,none⟩=some (.chan (some Ch)))
  (b₀:=Ew) (a₀:=nh oc Wg undef undef) (ops₀:=re) (i₀:=0) (rest₀:=[]) (k₀:=[.code (.region 1 ng false)]) (cs:=[bot]) Tryz.wO m (λw x h=>e w _ x rfl h) (λw x h=>e w _ x rfl h) rfl g w
 refine⟨_,yT p ?_,?_⟩;rintro g w ⟨rfl,q,s⟩;exact Ha j w ⟨q,s⟩;suffices h:WK PR 241 Wg false rd (Vu PR 241 Wg rd λo g w=>o=cC/\AnchWN Tryz.link (λw=>w.cell? ⟨oc,0,none⟩=some (.chan (some Ch))) Wg (Ew.at (nh oc Wg undef undef) [.inRegion re [0],.code (.region 1 ng false)]) [bot] g w) cC (KC oc Wg Ch) (born PR (call191 oc Wg))from h w i;refine WK.ctl d rfl (PU oc Wg) ?_;simp only[CR,Tryz.f191,kC];refine WK.ctl d rfl (λ_=>iv) ?_;refine WK.ctl d rfl (λ_=>jl) ?_;simp only[iP,dW,fC,Nat.reduceAdd,cB,List.range,List.range.loop];refine WK.enter (f:=Tryz.link.wait) (fn:=waitFn Tryz.link) (c:=body_wait Tryz.link) d rfl rfl (by k_ne) rfl Tryz.wO.f_wait (nm_wait Tryz.link) (by kernel_rfl) ?_;intro w i;rw[enter_at (fn:=waitFn Tryz.link) (c:=body_wait Tryz.link) _ Tryz.wO.f_wait (by kernel_rfl)]
 have t:=G4 (L:=Tryz.link) (main:=false) (R:=dG cC rd (Lv 241 Wg)) (Wg:=Wg) (F:=λw=>w.cell? ⟨oc,0,none⟩=some (.chan (some Ch)))
  (b₀:=Ew) (a₀:=nh oc Wg undef undef) (ops₀:=re) (i₀:=0) (rest₀:=[]) (k₀:=[.code (.region 1 ng false)]) (cs:=[bot]) Tryz.wO m w ⟨i.o,i.live⟩
 obtain⟨k,u⟩:=t;have v:=Ev u;have y:Array.map (nh oc Wg undef undef).eval #[Operand.tmp 0]=#[Value.pointer (some ⟨Wg,0,none⟩)]:=by simp[nh,Act.eval]
 change Wy PR 241 Wg false rd _ cC (G ((base Tryz.link.wait).at {tmps:=Array.map (nh oc Wg undef undef).eval #[Operand.tmp 0]++Array.replicate ((waitFn Tryz.link).ntmps-(Array.map (nh oc Wg undef undef).eval #[Operand.tmp 0]).size) undef,defers:=[]} [.code (body_wait Tryz.link)]) (Ew.at (nh oc Wg undef undef) [.inRegion re [0],.code (.region 1 ng false)]::[bot])) w;rw[y];exact v
noncomputable def yU:Array Oper:=(λ(x:Array Oper) (_:fH Tryz.f163 0=.region 0 x false)=>x) _ (by conv=>lhs;whnf)
noncomputable def yV:Array Oper:=(λ(x:Array Oper) (_:fH Tryz.f163 1=.region 1 x false)=>x) _ (by conv=>lhs;whnf)
noncomputable def Ex:Array Oper:=(λ(x:Array Oper) (_:fH Tryz.f163 2=.region 2 x false)=>x) _ (by conv=>lhs;whnf)
noncomputable def Ey:Array Oper:=(λ(x:Array Oper) (_:fH Tryz.f163 3=.region 3 x false)=>x) _ (by conv=>lhs;whnf)
noncomputable def Ez:Array Oper:=(λ(x:Array Oper) (_:fH Tryz.f163 4=.region 4 x false)=>x) _ (by conv=>lhs;whnf)
noncomputable def EB:Array Oper:=(λ(x:Array Oper) (_:fH Tryz.f163 5=.region 5 x false)=>x) _ (by conv=>lhs;whnf)
noncomputable def yW:Array Oper:=(λ(x:Array Oper) (_:fH Tryz.f163 6=.region 6 x false)=>x) _ (by conv=>lhs;whnf)
noncomputable def EC:Array Oper:=(λ(x:Array Oper) (_:fH Tryz.f163 7=.region 7 x false)=>x) _ (by conv=>lhs;whnf)
noncomputable def rf:Array Oper:=(λ(x:Array Oper) (_:fH Tryz.f163 8=.region 8 x false)=>x) _ (by conv=>lhs;whnf)
noncomputable def nj:Array Oper:=(λ(x:Array Oper) (_:fH Tryz.f163 9=.region 9 x false)=>x) _ (by conv=>lhs;whnf)
noncomputable def li:Array Oper:=(λ(x:Array Oper) (_:fH Tryz.f163 10=.region 10 x false)=>x) _ (by conv=>lhs;whnf)
noncomputable def sf:Array Oper:=(λ(x:Array Oper) (_:fH Tryz.f163 11=.region 11 x false)=>x) _ (by conv=>lhs;whnf)
noncomputable def mI:Array Oper:=(λ(x:Array Oper) (_:fH Tryz.f163 12=.region 12 x false)=>x) _ (by conv=>lhs;whnf)
noncomputable def vQ:Array Oper:=(λ(x:Array Oper) (_:fH Tryz.f163 13=.region 13 x false)=>x) _ (by conv=>lhs;whnf)
noncomputable def lj:Array Oper:=(λ(x:Array Oper) (_:fH Tryz.f163 14=.region 14 x false)=>x) _ (by conv=>lhs;whnf)
noncomputable def vR:Array Oper:=(λ(x:Array Oper) (_:fH Tryz.f163 15=.region 15 x false)=>x) _ (by conv=>lhs;whnf)
noncomputable def vS:Array Oper:=(λ(x:Array Oper) (_:fH Tryz.f163 16=.region 16 x false)=>x) _ (by conv=>lhs;whnf)
noncomputable def Br:Array Oper:=(λ(x:Array Oper) (_:fH Tryz.f163 17=.region 17 x false)=>x) _ (by conv=>lhs;whnf)
noncomputable def fu:Code:=(Go.Code.region 6 yW false).seq ((Go.Code.cond (Go.Operand.tmp 24) Go.Code.skip (Go.Code.exit 0)).seq ((Go.Code.block 1 ((Go.Code.region 7 EC false).seq ((Go.Code.region 8 rf false).seq (Go.Code.region 9 nj false)))).seq (Go.Code.region 10 li false)))
noncomputable def nY:Code:=(Go.Code.region 14 lj false).seq ((Go.Code.cond (Go.Operand.tmp 40) Go.Code.skip (Go.Code.exit 2)).seq (Go.Code.block 3 ((Go.Code.region 15 vR false).seq (Go.Code.region 16 vS false))))
noncomputable def kG:Code:=(Go.Code.region 17 Br false).seq Go.Code.ret
noncomputable def it:Code:=(Go.Code.region 11 sf false).seq ((Go.Code.region 12 mI false).seq (((Go.Code.region 13 vQ false).seq (Go.Code.block 2 nY.loop)).seq kG))
noncomputable def ux:Code:=(Go.Code.region 0 yU false).seq (((Go.Code.region 1 yV false).seq (Go.Code.cond (Go.Operand.tmp 13) ((Go.Code.region 2 Ex false).seq Go.Code.ret) Go.Code.skip)).seq ((Go.Code.region 3 Ey false).seq ((Go.Code.region 4 Ez false).seq (((Go.Code.region 5 EB false).seq (Go.Code.block 0 fu.loop)).seq it))))
def yX:Tryz.f163.body=some ux:=by kernel_rfl
noncomputable def jV:Frame:=base 163
structure rh where
 (x0 x2 x8 x9 XI XJ XK XL XM XN XO XP XQ XR XS XT:ce)
noncomputable def mn(e:rh)(pc oc Wg n i:Nat)(x5 x24 x25 x26 x27 x28:ce):Act:=
 ⟨#[e.x0,.pointer (some ⟨pc,0,none⟩),e.x2,.pointer (some ⟨oc,0,none⟩),.pointer (some ⟨Wg,0,none⟩),x5,undef,undef,e.x8,e.x9,e.XI,e.XJ,e.XK,e.XL,e.XM,e.XN,e.XO,e.XP,e.XQ,e.XR,e.XS,e.XT,.int .i64 n,.int .i64 i,x24,x25,x26,x27,x28,undef,undef,undef,undef,undef,undef,undef,undef,undef,undef,undef,undef,undef,undef,undef,undef,undef,undef,undef,undef,undef,undef,undef],[]⟩
structure PV(pc oc Wg Ch:Nat)(pl:Addr)(rd:Nat->Prop)(Q:cd->Prop)(w:cd):Prop where
 p:w.cell? ⟨pc,0,none⟩=some (.pointer (some pl))
 o:w.cell? ⟨oc,0,none⟩=some (.chan (some Ch))
 r:∀b,rd b->b<w.heap.size
 q:Q w
def ri(rd:Nat->Prop)(Q:cd->Prop):Prop:=∀w a:cd,(∀b,rd b->a.heap[b]? =w.heap[b]?)->Q w->Q a
structure KS(pc oc Wg Ch:Nat)(pl:Addr)(rd:Nat->Prop)(Q:cd->Prop)(w:cd):Prop where
 k:PV pc oc Wg Ch pl rd Q w
 live:Lv 241 Wg w
section
variable{pc oc Wg Ch:Nat}{pl:Addr}{Q:cd->Prop}{own rd:Nat->Prop}
def PV.same{w w':cd}(h:PV pc oc Wg Ch pl rd Q w)(c:rd pc)(d:rd oc)(e:ri rd Q)(f:w.heap.size<=w'.heap.size)(a:∀b,rd b->w'.heap[b]? =w.heap[b]?):PV pc oc Wg Ch pl rd Q w':=
 ⟨(fY (a pc c)).trans h.p,(fY (a oc d)).trans h.o,λb g=>dl (h.r b g) f,e w w' a h.q⟩
def PV.rely{L:cd->Prop}(d:rd pc)(e:rd oc)(f:ri rd Q):nN own rd L (PV pc oc Wg Ch pl rd Q):=
 λ_ _ a h=>h.same d e f a.size λb c=>a.heap b (h.r b c) (.inr c)
theorem KS.rely(b:rd pc)(c:rd oc)(d:ri rd Q):nN own rd (Lv 241 Wg) (KS pc oc Wg Ch pl rd Q):=
 λw e a h=>⟨PV.rely b c d w e a h.k,a.live h.live⟩
end
def Hb{e:rh}{pc oc Wg Ch n:Nat}{pl:Addr}{Q:cd->Prop}{rd:Nat->Prop}{S:gF}{cs:List Frame}(b:rd pc)(c:rd oc)(d:ri rd Q){x5 x24 x25 x26 x27 x28:ce} (f:∀x24,WK PR 241 Wg true rd S cC (KS pc oc Wg Ch pl rd Q) (G (jV.at (mn e pc oc Wg n n x5 x24 x25 x26 x27 x28) [.code it]) cs)):WK PR 241 Wg true rd S cC (KS pc oc Wg Ch pl rd Q) (G (jV.at (mn e pc oc Wg n n x5 x24 x25 x26 x27 x28) [.code fu,.inLoop fu,.inBlock 0,.code it]) cs):=by have a:nN cC rd (Lv 241 Wg) (KS pc oc Wg Ch pl rd Q):=KS.rely b c d;refine WK.ctl a rfl (λ_=>iv) ?_;refine WK.ctl a rfl (λ_=>jl) ?_;simp only[yW,mn,iP,dW,fC,Nat.reduceAdd,cB,List.range,List.range.loop];refine WK.val (v:=.bool false) a rfl rfl (by k_ne) (λw=>?_) (λw=>?_) ?_;go_simp;simp[go_sem];walk_nrm;refine WK.ctl a rfl (λ_=>iH) ?_;refine WK.ctl a rfl (λ_=>iv) ?_;refine WK.ctl a rfl (λ_=>stepG_cond (t:=false) rfl) ?_;refine WK.ctl a rfl (λ_=>stepG_exit rfl) ?_;exact f (.bool false)
def tx{w:cd}{a:Addr}{x:ce}{ty Wg:Nat}(h:Wg≠a.block)(b:Lv ty Wg w):Lv ty Wg (w.setCell a x):=by obtain⟨c,d,b⟩:=b;exact⟨c,d,(dN w a x Wg h).trans b⟩
structure TW(pc oc Wg Ch ic:Nat)(pl:Addr)(rd:Nat->Prop)(Q:cd->Prop)(v:Int)(w:cd):Prop where
 s:PV pc oc Wg Ch pl rd Q w
 i:w.heap[ic]? =some (.cells #[.int .i64 v] 3)
 lr:∀b,rd b->b<ic
 lw:Wg<ic
structure KI(pc oc Wg Ch ic:Nat)(pl:Addr)(rd:Nat->Prop)(Q:cd->Prop)(v:Int)(w:cd):Prop where
 k:TW pc oc Wg Ch ic pl rd Q v w
 live:Lv 241 Wg w
section
variable{pc oc Wg Ch ic:Nat}{pl:Addr}{Q:cd->Prop}{own rd:Nat->Prop}{v:Int}
theorem TW.rely{L:cd->Prop}(b:rd pc)(c:rd oc)(d:own ic)(e:ri rd Q):nN own rd L (TW pc oc Wg Ch ic pl rd Q v):=
 λw f a h=>⟨PV.rely b c e w f a h.s,a.obj (.inl d) h.i,h.lr,h.lw⟩
theorem KI.rely(b:rd pc)(c:rd oc)(d:own ic)(e:ri rd Q):nN own rd (Lv 241 Wg) (KI pc oc Wg Ch ic pl rd Q v):=
 λw f a h=>⟨TW.rely b c d e w f a h.k,a.live h.live⟩
end
def CS{ev:dj->ce}{o:Oper}{x:dj}{f:cm}{cs:Array ce}(a:o.op=.go {callee:=.value x,args:=#[],argTypes:=#[]})(b:ev x=.func (.func f) #[] cs)(w:cd):(execOp ev o).run PR w=.ok (.spawn {target:=.fn (.func f) cs,args:=#[]}) w/\(execOp ev o).events PR w #[]=#[]:=by constructor;simp[execOp,a,b,resolve,Deferred.ofValue];simp[execOp,a,b,resolve,Deferred.ofValue]
def Hc{e:rh}{pc oc Wg Ch n i:Nat}{pl:Addr}{Q:cd->Prop}{rd:Nat->Prop}{val:Nat->ce->(Nat->Prop)->cd->Prop}{S:gF}{cs:List Frame}(J:i<n)(P:n<2^62)(u:rd pc)(y:rd oc)(K:¬rd Wg)(z:ri rd Q){x5 x24 x25 x26 x27 x28:ce}
 (A:∀ic w,KW pc ic oc Wg Ch pl i (λw=>Q w/\∀b,rd b->b<w.heap.size) w->Wy PR 241 Wg false (λb=>rd b\/b=ic) (Sends PR 241 Wg Ch val i) cC (born PR (call188 pc ic oc Wg)) w)
 (B:∀x5 x24 x25 x26 x27 x28,WK PR 241 Wg true rd S cC (KS pc oc Wg Ch pl rd Q) (G (jV.at (mn e pc oc Wg n (i+1) x5 x24 x25 x26 x27 x28) [.code fu,.inLoop fu,.inBlock 0,.code it]) cs)):WK PR 241 Wg true rd (Um PR 241 Wg Ch rd val i (Wy PR 241 Wg true rd S)) cC (KS pc oc Wg Ch pl rd Q) (G (jV.at (mn e pc oc Wg n i x5 x24 x25 x26 x27 x28) [.code fu,.inLoop fu,.inBlock 0,.code it]) cs):=by
 have d:nN cC rd (Lv 241 Wg) (KS pc oc Wg Ch pl rd Q):=KS.rely u y z;refine WK.ctl d rfl (λ_=>iv) ?_;refine WK.ctl d rfl (λ_=>jl) ?_;simp only[yW,mn,iP,dW,fC,Nat.reduceAdd,cB,List.range,List.range.loop];refine WK.val (v:=.bool true) d rfl rfl (by k_ne) (λw=>?_) (λw=>?_) ?_
 ·go_simp;first|done|simp[J]
 simp[go_sem];walk_nrm;refine WK.ctl d rfl (λ_=>iH) ?_;refine WK.ctl d rfl (λ_=>iv) ?_;refine WK.ctl d rfl (λ_=>stepG_cond (t:=true) rfl) ?_;simp only[cX];refine WK.ctl d rfl (λ_=>Sn) ?_;refine WK.ctl d rfl (λ_=>iv) ?_;refine WK.ctl d rfl (λ_=>GI) ?_;refine WK.ctl d rfl (λ_=>iv) ?_;refine WK.ctl d rfl (λ_=>jl) ?_;simp only[EC,iP,dW,fC,Nat.reduceAdd,cB,List.range,List.range.loop];refine WK.val (v:=?_) d rfl rfl (by k_ne) (λw=>?_) (λw=>?_) ?_;rotate_left;go_simp;rfl;go_simp;walk_nrm;refine WK.new (f:=λn=>.pointer (some ⟨n,0,none⟩)) (ob:=.cells #[.int .i64 0] 3) d rfl rfl (by k_ne) (λw j=>?_) (λw j e D=>?_) (λic=>?_);go_simp;first|rfl|skip
 simp[go_sem]at D;refine WK.mono (K':=KI pc oc Wg Ch ic pl rd Q 0) ?_ ?_;rotate_left;rintro w ⟨E,j,rfl,M⟩;obtain⟨Z,sm,V⟩:=j.live;have N:KI pc oc Wg Ch E.heap.size pl rd Q 0 {E with heap:=E.heap.push (.cells #[.int .i64 0] 3)}:=⟨⟨j.k.same u y z (by simp) λb C=>by have:=j.k.r b C;show(E.heap.push _)[b]? =_;rw[qG];split;omega;rfl,by simp,j.k.r,lt_of_heap V⟩,se j.live⟩;exact KI.rely u y (.inr rfl) z _ _ M N;have H:nN (λx=>cC x\/x=ic) rd (Lv 241 Wg) (KI pc oc Wg Ch ic pl rd Q 0):=KI.rely u y (.inr rfl) z;walk_nrm;refine WK.store (ad:=⟨ic,0,none⟩) (x:=.int .i64 i) H rfl rfl (by k_ne) (.inr rfl) (λw j=>?_) (λw j e D=>?_) ?_;have I:w.cell? ⟨ic,0,none⟩=some (.int .i64 0):=by simp[World.cell?,j.k.i]
 have T:w.frozen? ⟨ic,0,none⟩=false:=by simp[World.frozen?,j.k.i]
 go_simp;have I:w.cell? ⟨ic,0,none⟩=some (.int .i64 0):=by simp[World.cell?,j.k.i]
 have T:w.frozen? ⟨ic,0,none⟩=false:=by simp[World.frozen?,j.k.i]
 simp[go_sem,I,T]at D;exact .inl ⟨_,_,D,.inl (.inr rfl)⟩;refine WK.mono (K':=KI pc oc Wg Ch ic pl rd Q i) ?_ ?_;rotate_left;rintro w ⟨E,j,M⟩
 have N:KI pc oc Wg Ch ic pl rd Q i (E.setCell ⟨ic,0,none⟩ (.int .i64 i)):=⟨⟨j.k.s.same u y z (by simp[World.setCell]) λb C=>dN _ _ _ _ (by have:=j.k.lr b C;simp;omega),
  by simp[World.setCell,sL,j.k.i],j.k.lr,j.k.lw⟩,tx (by have:=j.k.lw;simp;omega) j.live⟩
 exact KI.rely u y (.inr rfl) z _ _ M N;have l:nN (λx=>cC x\/x=ic) rd (Lv 241 Wg) (KI pc oc Wg Ch ic pl rd Q i):=KI.rely u y (.inr rfl) z;refine WK.ctl l rfl (λ_=>iH) ?_;refine WK.ctl l rfl (λ_=>iv) ?_;refine WK.ctl l rfl (λ_=>jl) ?_;simp only[rf,iP,dW,fC,Nat.reduceAdd,cB,List.range,List.range.loop];refine WK.enter (f:=Tryz.link.add) (fn:=addFn Tryz.link) (c:=body_add Tryz.link) l rfl rfl (by k_ne) rfl Tryz.wO.f_add (nm_add Tryz.link) (by kernel_rfl) ?_;intro w U;rw[enter_at (fn:=addFn Tryz.link) (c:=body_add Tryz.link) _ Tryz.wO.f_add (by kernel_rfl)]
 obtain⟨m,D⟩:=Wa (L:=Tryz.link) (main:=true) (R:=dG (λx=>cC x\/x=ic) rd (Lv 241 Wg)) (Wg:=Wg) (F:=TW pc oc Wg Ch ic pl rd Q i)
  (b₀:=jV) (a₀:=mn e pc oc Wg n i (.pointer (some ⟨ic,0,none⟩)) (.bool true) (.int .i64 i) x26 x27 x28) (ops₀:=rf) (i₀:=0) (rest₀:=[]) (k₀:=[.code (Go.Code.region 9 nj false),.inBlock 1,.code (Go.Code.region 10 li false),.inLoop fu,.inBlock 0,.code it]) (cs:=cs) Tryz.wO (λh r=>⟨TW.rely u y (.inr rfl) z _ _ r h.1,r.live h.2⟩) (λw x h=>⟨h.s.same u y z (by simp[World.setCell]) λb C=>dN _ _ _ _ (λe=>K (by rw[show Wg=b from e.symm];exact C)),(dN _ _ _ _ (by have:=h.lw;simp[stA];omega)).trans h.i,h.lr,h.lw⟩) rfl w ⟨U.k,U.live⟩
 have I:=G6 (Ch:=Ch) (val:=val) (i:=i) (Next:=Wy PR 241 Wg true rd S) D ?_;have W:Array.map (mn e pc oc Wg n i (.pointer (some ⟨ic,0,none⟩)) (.bool true) (.int .i64 i) x26 x27 x28).eval #[Operand.tmp 4,Operand.const (Value.int IntKind.i64 1)]=#[Value.pointer (some ⟨Wg,0,none⟩),.int .i64 1]:=by simp[mn,Act.eval]
 change Wy PR 241 Wg true rd _ (λx=>cC x\/x=ic) (G ((base Tryz.link.add).at {tmps:=Array.map (mn e pc oc Wg n i (.pointer (some ⟨ic,0,none⟩)) (.bool true) (.int .i64 i) x26 x27 x28).eval #[Operand.tmp 4,Operand.const (Value.int IntKind.i64 1)]++Array.replicate ((addFn Tryz.link).ntmps-(Array.map (mn e pc oc Wg n i (.pointer (some ⟨ic,0,none⟩)) (.bool true) (.int .i64 i) x26 x27 x28).eval #[Operand.tmp 4,Operand.const (Value.int IntKind.i64 1)]).size) undef,defers:=[]} [.code (body_add Tryz.link)])
  (jV.at (mn e pc oc Wg n i (.pointer (some ⟨ic,0,none⟩)) (.bool true) (.int .i64 i) x26 x27 x28) [.inRegion rf [0],.code (Go.Code.region 9 nj false),.inBlock 1,.code (Go.Code.region 10 li false),.inLoop fu,.inBlock 0,.code it]::cs)) w
 rw[W];exact I
 ·rintro g w ⟨rfl,O,X⟩
  suffices h:WK PR 241 Wg true rd (Vv PR 241 Wg Ch rd val i (Wy PR 241 Wg true rd S)) (λx=>cC x\/x=ic) (KI pc oc Wg Ch ic pl rd Q i)
   (G (jV.at (mn e pc oc Wg n i (.pointer (some ⟨ic,0,none⟩)) (.bool true) (.int .i64 i) (.tuple #[]) x27 x28) [.inRegion rf [],.code (Go.Code.region 9 nj false),.inBlock 1,.code (Go.Code.region 10 li false),.inLoop fu,.inBlock 0,.code it]) cs)from h w ⟨O,X⟩
  refine WK.ctl l rfl (λ_=>iH) ?_;refine WK.ctl l rfl (λ_=>jl) ?_;simp only[nj,mn,iP,dW,fC,Nat.reduceAdd,cB,List.range,List.range.loop];refine WK.val (v:=?_) l rfl rfl (by k_ne) (λw=>?_) (λw=>?_) ?_;rotate_left;go_simp;rfl;rfl;walk_nrm;refine WK.stop l λw j=>⟨rfl,G (jV.at (mn e pc oc Wg n i (.pointer (some ⟨ic,0,none⟩)) (.bool true) (.int .i64 i) (.tuple #[]) (.func (.func 188) #[] (Eo pc ic oc Wg)) x28) [.inRegion nj [],.inBlock 1,.code (Go.Code.region 10 li false),.inLoop fu,.inBlock 0,.code it]) cs,born PR (call188 pc ic oc Wg),λx=>x=ic,(stepG_spawn rfl rfl (by k_ne) (CS (f:=188) (cs:=Eo pc ic oc Wg) rfl rfl w).1 rfl).trans ?_,rfl,λb C=>.inr C,?_,?_⟩;unfold listed;rw[(CS (f:=188) (cs:=Eo pc ic oc Wg) rfl rfl w).2,seen_none];rfl;exact A ic w ⟨j.k.s.p,by simp[World.cell?,j.k.i],j.k.s.o,j.live,j.k.s.q,j.k.s.r⟩
  ·have a:(λb=>(cC b\/b=ic)/\¬b=ic)=cC:=by
    funext b;exact propext ⟨λ⟨h,Y⟩=>h.elim id λh=>Y h,λh=>h.elim⟩
   rw[a];suffices h:WK PR 241 Wg true rd S cC (KS pc oc Wg Ch pl rd Q) (G (jV.at (mn e pc oc Wg n i (.pointer (some ⟨ic,0,none⟩)) (.bool true) (.int .i64 i) (.tuple #[]) (.func (.func 188) #[] (Eo pc ic oc Wg)) x28) [.inRegion nj [],.inBlock 1,.code (Go.Code.region 10 li false),.inLoop fu,.inBlock 0,.code it]) cs)from h w ⟨j.k.s,j.live⟩;refine WK.ctl d rfl (λ_=>iH) ?_;refine WK.ctl d rfl (λ_=>stepG_inBlock) ?_;refine WK.ctl d rfl (λ_=>jl) ?_;simp only[li,mn,iP,dW,fC,Nat.reduceAdd,cB,List.range,List.range.loop];refine WK.val (v:=.int .i64 ((i+1:Nat):Int)) d rfl rfl (by k_ne) (λw=>?_) (λw=>?_) ?_;go_simp;rw[IntKind.wrap_i64];omega;simp[go_sem];walk_nrm;refine WK.val (v:=?_) d rfl rfl (by k_ne) (λw=>?_) (λw=>?_) ?_;rotate_left;go_simp;rfl;go_simp;walk_nrm;refine WK.ctl d rfl (λ_=>iH) ?_;refine WK.ctl d rfl (λ_=>stepG_inLoop) ?_;exact B _ _ _ _ _ _
def Sr(Wg Ch n:Nat)(rd:Nat->Prop)(val:Nat->ce->(Nat->Prop)->cd->Prop)(End:gF):Nat->gF
 |0=>Mp PR 241 Wg Ch n rd val End
 |r+1=>Um PR 241 Wg Ch rd val (n-(r+1)) (oz PR 241 Wg Ch n rd val End r)
def Bs(Wg Ch n:Nat)(rd:Nat->Prop)(val:Nat->ce->(Nat->Prop)->cd->Prop)(End:gF):∀r,oz PR 241 Wg Ch n rd val End r=Wy PR 241 Wg true rd (Sr Wg Ch n rd val End r)
 |0=>rfl
 |_+1=>rfl
def SX{e:rh}{pc oc Wg Ch n:Nat}{pl:Addr}{Q:cd->Prop}{rd:Nat->Prop}{val:Nat->ce->(Nat->Prop)->cd->Prop}{End:gF}{cs:List Frame}(d:n<2^62)(j:rd pc)(k:rd oc)(g:¬rd Wg)(l:ri rd Q)
 (a:∀i f w,i<n->KW pc f oc Wg Ch pl i (λw=>Q w/\∀b,rd b->b<w.heap.size) w->Wy PR 241 Wg false (λb=>rd b\/b=f) (Sends PR 241 Wg Ch val i) cC (born PR (call188 pc f oc Wg)) w)
 (c:∀x5 x24 x25 x26 x27 x28,WK PR 241 Wg true rd (Mp PR 241 Wg Ch n rd val End) cC (KS pc oc Wg Ch pl rd Q) (G (jV.at (mn e pc oc Wg n n x5 x24 x25 x26 x27 x28) [.code it]) cs)):∀r,r<=n->∀x5 x24 x25 x26 x27 x28,WK PR 241 Wg true rd (Sr Wg Ch n rd val End r) cC (KS pc oc Wg Ch pl rd Q) (G (jV.at (mn e pc oc Wg n (n-r) x5 x24 x25 x26 x27 x28) [.code fu,.inLoop fu,.inBlock 0,.code it]) cs):=by
 intro r;induction r with
 |zero=>
  intro _ x5 x24 x25 x26 x27 x28;rw[Nat.sub_zero];exact Hb j k l λx24=>c _ _ _ _ _ _
 |succ r m=>
  intro p x5 x24 x25 x26 x27 x28;have h:=Hc (e:=e) (cs:=cs) (val:=val) (i:=n-(r+1)) (S:=Sr Wg Ch n rd val End r) (by omega) d j k g l (x5:=x5) (x24:=x24) (x25:=x25) (x26:=x26) (x27:=x27) (x28:=x28) (λf w o=>a _ f w (by omega) o) (λx5 x24 x25 x26 x27 x28=>by have:=m (by omega) x5 x24 x25 x26 x27 x28;rwa[show n-r=n-(r+1)+1 by omega]at this);rw[<-Bs]at h;exact h
noncomputable def yY(e:rh)(pc oc Wg n:Nat)(x5 a x b x24 x25 x26 x27 x28 c d f g h i j k l m o p q r s t u v w:ce):Act:=
 ⟨#[e.x0,.pointer (some ⟨pc,0,none⟩),e.x2,.pointer (some ⟨oc,0,none⟩),.pointer (some ⟨Wg,0,none⟩),x5,a,x,e.x8,e.x9,e.XI,e.XJ,e.XK,e.XL,e.XM,e.XN,e.XO,e.XP,e.XQ,e.XR,e.XS,e.XT,.int .i64 n,b,x24,x25,x26,x27,x28,c,d,f,g,h,i,j,k,l,m,o,p,q,r,s,t,u,v,w,undef,undef,undef,undef],[]⟩
structure MP(pb:Nat)(la:Addr)(L C:Nat)(a0:Option Addr)(n c0:Nat)(w:cd):Prop where
 f2:w.cell? ⟨pb,2,none⟩=some (.slice (some la) L C)
 l0:w.cell? la=some (.slice a0 n c0)
noncomputable def nk:Code:=((Go.Code.region 13 vQ false).seq (Go.Code.block 2 nY.loop))
def ED{e:rh}{pc oc Wg Ch n pb:Nat}{Q:cd->Prop}{rd:Nat->Prop}{val:Nat->ce->(Nat->Prop)->cd->Prop}{End:gF}{z:ce}{cs:List Frame}(p:rd pc)(g:rd oc)(i:¬rd Wg)(q:ri rd Q)
 (d:∀x5 j x24 x25 x26 x27 x28 l,WK PR 241 Wg true rd (nV PR 241 Wg Ch n rd val End z n (λ_=>false)) cC (KS pc oc Wg Ch ⟨pb,0,none⟩ rd Q)
  (G (jV.at (yY e pc oc Wg n x5 undef undef j x24 x25 x26 x27 x28 l undef undef undef undef undef undef undef undef undef undef undef undef undef undef undef undef undef undef) [.code (Go.Code.region 12 mI false),.code (nk.seq kG)]) cs))
 (x5 x24 x25 x26 x27 x28:ce):WK PR 241 Wg true rd (Mp PR 241 Wg Ch n rd val End) cC (KS pc oc Wg Ch ⟨pb,0,none⟩ rd Q) (G (jV.at (mn e pc oc Wg n n x5 x24 x25 x26 x27 x28) [.code it]) cs):=by
 have c:nN cC rd (Lv 241 Wg) (KS pc oc Wg Ch ⟨pb,0,none⟩ rd Q):=KS.rely p g q;refine WK.ctl c rfl (λ_=>iv) ?_;refine WK.ctl c rfl (λ_=>jl) ?_;simp only[sf,mn,iP,dW,fC,Nat.reduceAdd,cB,List.range,List.range.loop];refine WK.val (v:=?_) c rfl rfl (by k_ne) (λw=>?_) (λw=>?_) ?_;rotate_left;go_simp;rfl;rfl;walk_nrm
 refine WK.stop c λw m=>⟨rfl,G (jV.at (yY e pc oc Wg n x5 undef undef (.int .i64 n) x24 x25 x26 x27 x28 (.func (.func 191) #[] #[.pointer (some ⟨Wg,0,none⟩),.pointer (some ⟨oc,0,none⟩)]) undef undef undef undef undef undef undef undef undef undef undef undef undef undef undef undef undef undef)
  [.inRegion sf [],.code ((Go.Code.region 12 mI false).seq (nk.seq kG))]) cs,born PR (call191 oc Wg),cC,z,(stepG_spawn rfl rfl (by k_ne) (CS (f:=191) (cs:=#[.pointer (some ⟨Wg,0,none⟩),.pointer (some ⟨oc,0,none⟩)]) rfl rfl w).1 rfl).trans ?_,rfl,λb r=>r.elim,?_,?_⟩
 unfold listed;rw[(CS (f:=191) (cs:=#[.pointer (some ⟨Wg,0,none⟩),.pointer (some ⟨oc,0,none⟩)]) rfl rfl w).2,seen_none];rfl;refine closer (rd:=λb=>rd b\/cC b) (.inl g) (λe=>i (by rw[<-e];exact g)) w ⟨m.k.o,m.live⟩;have a:(λb=>cC b/\¬cC b)=cC:=by funext b;exact propext ⟨λh=>h.1,λh=>h.elim⟩
 rw[a]
 suffices h:WK PR 241 Wg true rd (nV PR 241 Wg Ch n rd val End z n (λ_=>false)) cC (KS pc oc Wg Ch ⟨pb,0,none⟩ rd Q) (G (jV.at (yY e pc oc Wg n x5 undef undef (.int .i64 n) x24 x25 x26 x27 x28 (.func (.func 191) #[] #[.pointer (some ⟨Wg,0,none⟩),.pointer (some ⟨oc,0,none⟩)]) undef undef undef undef undef undef undef undef undef undef undef undef undef undef undef undef undef undef)
  [.inRegion sf [],.code ((Go.Code.region 12 mI false).seq (nk.seq kG))]) cs)from h w m
 refine WK.ctl c rfl (λ_=>iH) ?_;refine WK.ctl c rfl (λ_=>iv) ?_;exact d _ _ _ _ _ _ _ _
end Go.Proofs.W
namespace Go.Proofs.W
open Go.Conc Go.cF Go.cF.Cr Go.cF.Wg Go.RowKit Go.Conc.Lib Go.ConcR.Gen
def lY:ce:=.agg #[.slice none 0 0,.int .i64 0,.int .i64 0,.bool false]
noncomputable def i199:TypeInfo:=(PR.info? 199).getD default
def IS:PR.info? 199=some i199:=by kernel_rfl
def PW:i199.size=4:=by kernel_rfl
def yZ:i199.bytes=48:=by kernel_rfl
def IT:i199.zero=some lY:=by kernel_rfl
def EE:PR.underlying 248=some (.slice 199):=by kernel_rfl
def PX{n:Nat}(a:n<=65536)(w:cd):(Instr.makeSlice 248 (.int .i64 n) (.int .i64 n)).run PR w=.ok (.slice (some ⟨w.heap.size,0,none⟩) n n) (w.alloc (.cells (madeCells lY.cells (n*4)) 199)):=by have:=run_make (P:=PR) w 248 199 i199 lY EE IS IT .i64 .i64 (n:Int) (n:Int) (by omega) (by omega) (by rw[yZ];omega) (by omega);simpa[PW]using this
def MQ{n:Nat}(a:n<=65536)(w:cd):(Instr.makeSlice 248 (.int .i64 n) (.int .i64 n)).events PR w #[]=#[]:=
 events_make (P:=PR) w 248 199 i199 lY EE IS IT .i64 .i64 (n:Int) (n:Int) (by omega) (by omega) (by rw[yZ];omega) (by omega) (by rw[yZ];omega) #[]
end Go.Proofs.W
