/- Laws that the proof needs, part 9. Conditions: none. -/
import Derived.Conc.DeferLaws
import Derived.Conc.CompanyDraw
import Derived.Conc.TokenWalk
import Derived.Laws.MakeOwn
import Derived.Conc.AppendWalk
import Derived.Test.YteeagjkaflglpaaGreatX08
set_option maxRecDepth 100000
set_option maxHeartbeats 8000000
set_option linter.all false
namespace Go.ck.Cr
open Go.Conc Go.ck Go.ck.Kn Go.ck.Wg
open Go.ConcR (KK wgBlock WgAt stA smA mk DC0)
section
variable{P:Program}{main:Bool}{own rd:Nat->Prop}{ty:TypeId}{Wg:Nat}{S:eK}{K:World->Prop}{g g':Goroutine} {b:Frame}{a:Act}{k:List Item}{cs:List Frame}{ops:Array Oper}{i:Nat}{rest:List Nat}{o:Oper}{v:Value}
theorem WK.enter{f:FuncId}{fn:Func}{c:Code}{args:Array Operand}{j:Array TypeId}(l:jV own rd (Lv ty Wg) K) (n:ops[i]? =some o)(p:Region.wanted o (yielded ops a.tmps)=true)(q:b.kind≠ .early)(e:o.op=.call {callee:=.value (.func f),args,argTypes:=j}) (m:P.funcs[f]? =some fn)(d:(fn.name== "runtime.NumGoroutine")=false)(r:fn.body=some c) (h:WK P ty Wg main rd S own K (G (Frame.enter P f (args.map a.eval) .normal) (b.at a (.inRegion ops (i::rest)::k)::cs))):WK P ty Wg main rd S own K (G (b.at a (.inRegion ops (i::rest)::k)) cs):=by
 refine WK.ctl l rfl (λw=>?_) h;have g:fn.body.isNone=false:=by rw[r];rfl
 rw[stepG_enter n p q (run_call_body e m d g)];have:listed P b.fn a o w=#[]:=by unfold listed;rw[events_call_body e m d g];exact seen_none P _
 rw[this]
def Out(U:Value->Prop)(R:Value->World->Prop)(rd:Nat->Prop)(ρ0:cx)(caller:Frame)(cs:List Frame):eK:=λown g w=>
 ∃a x b v,g=G (caller.finish b) cs/\R x v/\VR a x b/\cx.Le ρ0 a/\pV a v w own rd/\U b
theorem vY{f:FuncId}{fn:Func}{U:Value->Prop}(hU:∀(ts:Array Value) (Q:Program) (w:World) (x:Value) (u:World),(results fn ts).run Q w=.ok x u->U x){R:Value->World->Prop}{ρ0:cx}{caller:Frame}{w:World}(hR:∀x w T,R x w->R x (cm w T))(hG:Good P ρ0)(M:P.funcs[f]? =some fn) (h:xr P (Left P f R) rd (caller::cs) ρ0 own g w):Wy (P.fj ρ0.fs) ty Wg main rd (Out U R rd ρ0 caller cs) own g w:=by
 obtain⟨c,O,o,k,d,t,hl,F⟩:=h;have z:=o;obtain⟨h1,H,x0,h3,h4,h5,h6,ac,h7,h8⟩:=z;rw[H,M]at h7;obtain rfl:=Option.some.inj h7;obtain⟨l,ad,ae,af,ag⟩:=g;obtain⟨S,ah,e1,V,hX⟩:=k.callers;have e3:=k.st.2;have e4:=k.dy.2;have e5:=k.of.2;simp only at V e3 e4 e5 d;have I:c.cl=S++[floor]:=e1;rw[h1]at I;have W:S=[]:=by
  cases S with
  |nil=>rfl
  |cons y ys=>simp at I
 subst W;cases hX;simp only[List.nil_append]at V;subst V e3 e4 e5;have m2:l.mode=.returning:=by have p:=d.mode;rw[h4]at p;generalize l.mode=m at p⊢;cases p;rfl
 have d2:l.defers=[]:=by have p:=d.defers;rw[h5]at p;generalize l.defers=m at p⊢;cases p;rfl
 have k2:l.kind=.normal:=d.kind▸h6;have f2:l.fn=f:=d.fn▸H;have X:Good P O:=hG.mono t;have g2:(P.fj ρ0.fs).funcs[f]? =some fn:=by obtain⟨ai,c2,j1,_,_,j4⟩:=X.two.fn f (H▸d.fnS.1);rw[j4 (H▸d.fnS.2)]at M;rw[t.f];show O.fs[f]? =_;rw[j1,M]
 refine ia rfl λn hr=>?_;have q:=hl.rely hr;have hw:WR O (cm c.v (mw c.v n)) n:=WR.mw q.heap;obtain⟨_,_,x,k3,k4,k5,k6,aj,k7,k8⟩:=Left.cm hR c (mw c.v n) F o;rw[H,M]at k7;obtain rfl:=Option.some.inj k7;have Y:(results fn c.fr.tmps).run P (cm c.v (mw c.v n))=.ok x (cm c.v (mw c.v n)):=k8;have C:∀{r:Result Value} {J:Array Event},(results fn c.fr.tmps).runT P (cm c.v (mw c.v n)) #[]=(r,J)->r=.ok x (cm c.v (mw c.v n)):=λ{r J} e=>by rw[Sem.runT_eq]at e;exact(congrArg Prod.fst e).symm.trans Y
 rcases cH.run hw (SR.results (fn:=fn) d.tmps)with⟨hh,v1,J,e,_⟩|⟨a,b,v1,N,D,J,K,e,E,L,m⟩|⟨a,b,v1,N,D,J,K,e,E,L,m⟩
 ·cases C e
 ·have:=C e;injection this with ea ev;subst ea ev;rw[<-t.f]at E;let A:Nat->Prop:=λb=>own b\/(n.heap.size<=b/\b<N.heap.size);have Z:pV D (cm c.v (mw c.v n)) N A rd:=by
   refine⟨m.rel.hr,λb c' i=>?_⟩;rcases m.fresh b c' i with h|⟨_,h⟩
   ·rcases q.zone b c' h with h|⟨h,j⟩
    ·exact .inl (.inl h)
    ·have s:qC (cm c.v (mw c.v n)) b:=j;exact .inr ⟨h,s.keep (m.oR b s)⟩
   ·exact .inl (.inr ⟨h,m.rel.Mc i⟩)
  refine⟨G (caller.finish b) cs,N,seen (P.fj ρ0.fs) f K,A,?_,⟨m.tape,m.os,m.output,m.usize,λb=>Iff.rfl,λb hb aa=>m.same b hb λb0 i=>?_,λe he=>?_⟩,j9 λw2 ab=>⟨D,a,b,_,rfl,k3,L,t.trans m.le,Z.rely ab,hU _ _ _ _ _ (by rw[Sem.runT_eq]at E;exact(Prod.mk.inj E).1)⟩⟩
  ·rw[Sem.runT_eq]at E;obtain⟨r1,r2⟩:=Prod.mk.inj E;simp[stepG,unwind,doReturn,m2,d2,k2,f2,g2,r1,r2,G,GStep.after]
  ·rcases q.zone b0 b i with h|⟨_,h⟩
   ·exact absurd h aa
   ·exact h
  ·rcases m.evs e (gJ he)with⟨a,B,b,rfl,i,_,F⟩|⟨r,B,b,rfl,i,F⟩|⟨a,B,rfl,hn,p⟩|⟨r,B,rfl,hn,p⟩|rfl
   ·refine .inl ⟨a,B,rfl,?_⟩;rcases q.zone b a.block i with h|⟨h,j⟩
    ·exact .inl h
    ·cases B with
     |true=>exact absurd (show qC (cm c.v (mw c.v n)) b from j) (F rfl)
     |false=>exact .inr (.inl ⟨rfl,h⟩)
   ·refine .inr (.inl ⟨r,B,rfl,?_⟩);rcases q.zone b r i with h|⟨h,j⟩
    ·exact .inl h
    ·exact absurd (show qC (cm c.v (mw c.v n)) b from j) F
   ·exact .inl ⟨a,B,rfl,.inr (.inr ⟨hn,p⟩)⟩
   ·exact .inr (.inl ⟨r,B,rfl,.inr ⟨hn,p⟩⟩)
   ·exact .inr (.inr rfl)
 ·cases C e
theorem mQ{ρ0:cx}{w v:World}{f:FuncId}{xs xs':Array Value}(b:Good P ρ0)(c:∀f,ρ0.hole f=false)(d:ρ0.S f=true)(a:dz ρ0 xs xs')(e:pV ρ0 v w own rd):Inv P ⟨Frame.enter P f xs .normal,[floor],v⟩:=by
 have h:Inv P ⟨Frame.enter P f xs .normal,[floor],cm v (mw v w)⟩:=
  ⟨ρ0,w,G (Frame.enter (P.fj ρ0.fs) f xs' .normal) [],b,c,WR.mw e.heap,nF b d a .normal (.inl rfl),⟨[],[],rfl,rfl,.nil⟩,⟨rfl,rfl⟩,⟨rfl,rfl⟩,⟨rfl,rfl⟩⟩
 exact h.cm v.tape
theorem Wy.keep{B:Nat->Prop}{w:World}(c:∀b,B b->rd b/\¬own b/\b<w.heap.size)(h:Wy P ty Wg main rd S own g w):Wy P ty Wg main rd (λo g w'=>S o g w'/\∀b,B b->w'.heap[b]? =w.heap[b]?) own g w:=by
 obtain⟨A,h⟩:=h
 have k:∀(l:Nat->Option Obj),(∀b,B b->rd b/\¬own b/\b<w.heap.size/\w.heap[b]? =l b)->Wy P ty Wg main rd (λo g w'=>S o g w'/\∀b,B b->w'.heap[b]? =l b) own g w:=by
  intro l c;rename_i m;clear m;induction h with
  |here h=>exact j9 λi f=>⟨h i f,λb a=>(f.heap b (c b a).2.2.1 (.inr (c b a).1)).trans (c b a).2.2.2⟩
  |step t u C v=>
   refine ia t λi f=>?_;obtain⟨g',w',n,d,e,j⟩:=u i f;refine⟨g',w',n,d,e,j,v i g' w' n d f e j λb a=>?_⟩;obtain⟨p,q,r,y⟩:=c b a;have s:b<i.heap.size:=Nat.lt_of_lt_of_le r f.size;refine⟨p,λz=>?_,Nat.lt_of_lt_of_le s j.size,(j.same b s q).trans ((f.heap b r (.inr p)).trans y)⟩;rcases(j.owns b).1 z with x|⟨x,_⟩
   ·exact q x
   ·omega
 exact k (λb=>w.heap[b]?) λb a=>⟨(c b a).1,(c b a).2.1,(c b a).2.2,rfl⟩
theorem Wy.MT{w:World}(j:¬own Wg)(k:Lv ty Wg w)(h:Wy P ty Wg main rd S own g w):Wy P ty Wg main rd (λo g w'=>S o g w'/\Lv ty Wg w') own g w:=by
 obtain⟨u,h⟩:=h;induction h with
 |here h=>exact j9 λb c=>⟨h b c,c.live k⟩
 |step p q v r=>
  refine ia p λb c=>?_;obtain⟨g',w',l,a,e,f⟩:=q b c;obtain⟨m,n,s⟩:=c.live k;have d:b.heap[Wg]? =some (wgBlock ty m n):=s;have i:Wg<b.heap.size:=lt_of_heap d;refine⟨g',w',l,a,e,f,r b g' w' l a c e f (λt=>?_) ⟨m,n,(f.same Wg i j).trans d⟩⟩;rcases(f.owns Wg).1 t with x|⟨x,_⟩
  ·exact j x
  ·omega
theorem BP{f:FuncId}{fn:Func}{U:Value->Prop}(i:∀(j:Array Value) (Q:Program) (w:World) (x:Value) (u:World),(results fn j).run Q w=.ok x u->U x){R:Value->World->Prop}{ρ0:cx}{caller:Frame}{w v:World}{xs xs':Array Value}(b:Good P ρ0)(c:∀f,ρ0.hole f=false)(d:ρ0.S f=true)(k:P.funcs[f]? =some fn) (l:∀x w T,R x w->R x (cm w T))(a:dz ρ0 xs xs')(m:Reach P (Left P f R) ⟨Frame.enter P f xs .normal,[floor],v⟩)(e:pV ρ0 v w own rd):Wy (P.fj ρ0.fs) ty Wg main rd (Out U R rd ρ0 caller cs) own (G (Frame.enter (P.fj ρ0.fs) f xs' .normal) (caller::cs)) w:=by
 have n:mD P ρ0 (caller::cs) (G (Frame.enter P f xs .normal) [floor]) (G (Frame.enter (P.fj ρ0.fs) f xs' .normal) (caller::cs)):=
  ⟨nF b d a .normal (.inl rfl),⟨[],[],rfl,rfl,.nil⟩,⟨rfl,rfl⟩,⟨rfl,rfl⟩,⟨rfl,rfl⟩⟩
 have p:=KQ (main:=main) (L:=Lv ty Wg) (cs:=caller::cs) (ρ0:=ρ0) Left.callers _ m ρ0 own _ w (mQ b c d a e) b (λf _=>c f) (.refl _) n e;exact Wy.bind p λo g w h=>vY i l b k h
end
end Go.ck.Cr
namespace Go.Proofs.W
open Go.Conc Go.ck Go.ck.Cr Go.ck.Wg Go.RowKit Go.Conc.Lib Go.ConcR.Gen
theorem Fq(pl:Addr)(w:World):(Instr.build 245 #[(0,.pointer (some pl))]).run PR w=.ok (.agg #[.pointer (some pl),.slice none 0 0,.int .u8 0,.int .u8 0,.int .u8 0,.int .u8 0,.int .u8 0,.int .u8 0,.slice none 0 0,.int .i64 0,.int .i64 0,.bool false]) w:=by kernel_rfl
theorem CZ(pl:Addr)(w:World):(Instr.build 245 #[(0,.pointer (some pl))]).events PR w #[]=#[]:=by kernel_rfl
theorem Fs(i m n:Int)(b:Bool)(a:Option Addr)(l c:Nat)(w:World):(Instr.build 247 #[(0,.int .i64 i),(1,.agg #[.slice a l c,.int .i64 m,.int .i64 n,.bool b])]).run PR w=.ok (.agg #[.int .i64 i,.slice a l c,.int .i64 m,.int .i64 n,.bool b]) w:=by kernel_rfl
theorem C0(i m n:Int)(b:Bool)(a:Option Addr)(l c:Nat)(w:World):(Instr.build 247 #[(0,.int .i64 i),(1,.agg #[.slice a l c,.int .i64 m,.int .i64 n,.bool b])]).events PR w #[]=#[]:=by kernel_rfl
end Go.Proofs.W
namespace Go.Proofs.W
open Go.Conc Go.ck Go.ck.Cr Go.ck.Wg Go.RowKit Go.Conc.Lib Go.ConcR.Gen
open Go.ConcR (KK wgBlock WgAt stA smA mk DC0)
def rm(rd:Nat->Prop)(Q:World->Prop):Prop:=∀(w a:World),w.heap.size<=a.heap.size->(∀b,b<w.heap.size->rd b->a.heap[b]? =w.heap[b]?)->Q w->Q a
theorem rm.rely{own rd:Nat->Prop}{L:World->Prop}{Q:World->Prop}(h:rm rd Q){w w1:World}(c:cO own rd L w w1)(d:Q w):Q w1:=h w w1 c.size (λb e a=>c.heap b e (.inr a)) d
structure KW(pc ic oc Wg Ch:Nat)(pl:Addr)(i:Int)(Q:World->Prop)(w:World):Prop where
 p:w.cell? ⟨pc,0,none⟩=some (.pointer (some pl))
 i:w.cell? ⟨ic,0,none⟩=some (.int .i64 i)
 o:w.cell? ⟨oc,0,none⟩=some (.chan (some Ch))
 live:Lv 241 Wg w
 q:Q w
theorem KW.rely{pc b oc Wg Ch:Nat}{pl:Addr}{i:Int}{Q:World->Prop}{own rd:Nat->Prop}(c:rd pc)(d:rd b)(e:rd oc)(f:rm rd Q):jV own rd (Lv 241 Wg) (KW pc b oc Wg Ch pl i Q):=
 λ_ _ a h=>⟨a.cell (.inr c) h.p,a.cell (.inr d) h.i,a.cell (.inr e) h.o,a.live h.live,f.rely a h.q⟩
def gl(pl:Addr):Array Value:=#[.pointer (some pl),.slice none 0 0,.int .u8 0,.int .u8 0,.int .u8 0,.int .u8 0,.int .u8 0,.int .u8 0,.slice none 0 0,.int .i64 0,.int .i64 0,.bool false]
noncomputable def xF:Array Oper:=(λ(x:Array Oper) (_:eg Tryz.f188 2=.region 2 x false)=>x) _ (by conv=>lhs;whnf)
noncomputable def dq:Array Oper:=(λ(x:Array Oper) (_:eg Tryz.f188 3=.region 3 x true)=>x) _ (by conv=>lhs;whnf)
noncomputable def fQ(pc i oc Wg T:Nat)(pl:Addr)(j k a b c d e f g h:Value):Act:=
 {tmps:=#[.pointer (some ⟨Wg,0,none⟩),.pointer (some ⟨pc,0,none⟩),.pointer (some ⟨i,0,none⟩),.pointer (some ⟨oc,0,none⟩),.pointer (some ⟨T,0,none⟩),.pointer (some pl),.agg (gl pl),.pointer (some ⟨T,0,none⟩),j,k,a,b,c,d,e,f,g,h],defers:=[dcall 189 #[.pointer (some ⟨Wg,0,none⟩)]]}
noncomputable def xG(pc a oc Wg T:Nat)(pl:Addr)(i:Int):Frame:=
 xD.at (fQ pc a oc Wg T pl (.pointer (some ⟨T,0,none⟩)) (.int .i64 i) undef undef undef undef undef undef undef undef) [.inRegion xF [2],.code (.region 3 dq true)]
def JR(rd:Nat->Prop)(Wg:Nat)(pl:Addr)(i:Int)(Q:World->Prop)(Sc:(Nat->Prop)->World->Value->Prop):Prop:=
 ∀(d:Nat->Prop) (w:World) (T:Nat) (c:Frame) (e:List Frame),Q w->(∀b,d b↔b=T)->w.heap[T]? =some (.cells (gl pl) 245)->
  Wy PR 241 Wg false rd (λo g f=>g=G (c.finish undef) e/\o T/\∃k p q r t u v x a l h m n s y,f.heap[T]? =some (.cells #[k,p,q,r,t,u,v,x,.slice a l h,.int .i64 m,.int .i64 n,.bool s] 245 y)/\
   ∀j,cO o rd (Lv 241 Wg) f j->Sc o j (.agg #[.slice a l h,.int .i64 m,.int .i64 n,.bool s])) d (G (Frame.enter PR 190 #[.pointer (some ⟨T,0,none⟩),.int .i64 i] .normal) (c::e)) w
theorem nJ{w:World}{ad:Addr}{v:Value}(h:w.cell? ad=some v):ad.block<w.heap.size:=by refine Nat.lt_of_not_le λa=>?_;have:w.heap[ad.block]? =none:=Array.getElem?_eq_none a;simp[World.cell?,this]at h
theorem pY{w:World}{ad:Addr}{v:Value}{ob:Obj}(h:w.cell? ad=some v):({w with heap:=w.heap.push ob}:World).cell? ad=w.cell? ad:=by
 have b:ad.block<w.heap.size:=by refine Nat.lt_of_not_le λa=>?_;have:w.heap[ad.block]? =none:=Array.getElem?_eq_none a;simp[World.cell?,this]at h
 have:(w.heap.push ob)[ad.block]? =w.heap[ad.block]? :=by
  rw[Array.getElem?_push];split
  ·omega
  ·rfl
 simp only[World.cell?,this]
theorem nK{w:World}{ty Wg:Nat}{ob:Obj}(h:Lv ty Wg w):Lv ty Wg ({w with heap:=w.heap.push ob}:World):=by
 obtain⟨a,b,h⟩:=h;refine⟨a,b,?_⟩;have c:w.heap[Wg]? =some (wgBlock ty a b):=h;show(w.heap.push ob)[Wg]? =_;rw[Array.getElem?_push];split
 ·have:=lt_of_heap c;omega
 ·exact c
theorem H3{pc g oc Wg Ch:Nat}{pl:Addr}{i:Int}{Q:World->Prop}{rd:Nat->Prop}{S:eK}(t:rd pc)(u:rd g)(A:rd oc)(y:rm rd Q)
 (B:∀T,WK PR 241 Wg false rd S (λx=>ci x\/x=T) (λw=>KW pc g oc Wg Ch pl i Q w/\w.heap[T]? =some (.cells (gl pl) 245)/\pc<T/\g<T/\oc<T/\Wg<T)
  (G (Frame.enter PR 190 #[.pointer (some ⟨T,0,none⟩),.int .i64 i] .normal) [xG pc g oc Wg T pl i,bot])):
 WK PR 241 Wg false rd S ci (KW pc g oc Wg Ch pl i Q) (born PR (call188 pc g oc Wg)):=by
 have c:∀m,jV m rd (Lv 241 Wg) (KW pc g oc Wg Ch pl i Q):=λ_=>KW.rely t u A y;have r:=λw=>Fq pl w;have s:=λw=>CZ pl w;refine WK.ctl (c _) rfl (CY pc g oc Wg) ?_;simp only[vX,Tryz.f188,Option.getD_some,xE,Array.replicate,List.replicate];refine WK.ctl (c _) rfl (λ_=>stepG_seq) ?_;refine WK.ctl (c _) rfl (λ_=>stepG_region) ?_;simp only[List.size_toArray,List.length_cons,List.length_nil,Nat.reduceAdd,Nat.zero_add,List.range,List.range.loop];refine WK.ctl (c _) rfl (λ_=>stepG_defer rfl rfl (by k_ne) rfl) ?_;walk_nrm;refine WK.ctl (c _) rfl (λ_=>stepG_region_end) ?_;refine WK.ctl (c _) rfl (λ_=>stepG_seq) ?_;refine WK.ctl (c _) rfl (λ_=>stepG_region) ?_;simp only[List.size_toArray,List.length_cons,List.length_nil,Nat.reduceAdd,Nat.zero_add,List.range,List.range.loop];refine WK.load (v:=.pointer (some pl)) (c _) rfl rfl (by k_ne) (λw a=>?_) (λw a e j=>?_) ?_
 ·have k:=(λw a=>a.p) w a;go_simp
 ·have k:=(λw a=>a.p) w a;simp[go_sem,k]at j;exact .inl ⟨_,_,j,.inr (.inl ⟨rfl,t⟩)⟩
 walk_nrm;refine WK.val (v:=.agg (gl pl)) (c _) rfl rfl (by k_ne) (λw=>?_) (λw=>?_) ?_
 ·go_simp;first|rfl|simp only[r]|skip
 ·simp[go_sem,s]
 walk_nrm;refine WK.new (f:=λn=>.pointer (some ⟨n,0,none⟩)) (ob:=.cells (gl pl) 245) (c _) rfl rfl (by k_ne) (λw a=>?_) (λw a e j=>?_) (λT=>?_)
 ·go_simp;first|rfl|skip
 ·simp[go_sem]at j
 refine WK.mono (K':=λw=>KW pc g oc Wg Ch pl i Q w/\w.heap[T]? =some (.cells (gl pl) 245)/\pc<T/\g<T/\oc<T/\Wg<T) ?_ ?_;rotate_left
 ·rintro w ⟨l,a,rfl,z⟩;have C:KW pc g oc Wg Ch pl i Q {l with heap:=l.heap.push (.cells (gl pl) 245)}:=by
   exact⟨by rw[<-a.p];exact pY a.p,by rw[<-a.i];exact pY a.i,by rw[<-a.o];exact pY a.o,nK a.live,y l _ (by simp) (λb E _=>by
    show(l.heap.push _)[b]? =_;rw[Array.getElem?_push];split
    ·omega
    ·rfl) a.q⟩
  obtain⟨F,H,D⟩:=a.live;exact⟨(c _) _ _ z C,z.obj (.inl (.inr rfl)) (by simp),nJ a.p,nJ a.i,nJ a.o,lt_of_heap D⟩
 have d:jV (λx=>ci x\/x=T) rd (Lv 241 Wg) (λw=>KW pc g oc Wg Ch pl i Q w/\w.heap[T]? =some (.cells (gl pl) 245)/\pc<T/\g<T/\oc<T/\Wg<T):=BO (c _) (BO (H2 (.inl (.inr rfl))) λ_ _ _ h=>h);walk_nrm;refine WK.val (v:=?_) d rfl rfl (by k_ne) (λw=>?_) (λw=>?_) ?_;rotate_left
 ·go_simp;rfl
 ·go_simp
 walk_nrm;refine WK.ctl d rfl (λ_=>stepG_region_end) ?_;refine WK.ctl d rfl (λ_=>stepG_seq) ?_;refine WK.ctl d rfl (λ_=>stepG_region) ?_;simp only[List.size_toArray,List.length_cons,List.length_nil,Nat.reduceAdd,Nat.zero_add,List.range,List.range.loop];refine WK.val (v:=?_) d rfl rfl (by k_ne) (λw=>?_) (λw=>?_) ?_;rotate_left
 ·go_simp;rfl
 ·go_simp
 walk_nrm;refine WK.load (v:=.int .i64 i) d rfl rfl (by k_ne) (λw a=>?_) (λw a e j=>?_) ?_
 ·have k:=(λw a=>a.1.i) w a;go_simp
 ·have k:=(λw a=>a.1.i) w a;simp[go_sem,k]at j;exact .inl ⟨_,_,j,.inr (.inl ⟨rfl,u⟩)⟩
 walk_nrm;refine WK.enter d rfl rfl (by k_ne) rfl Tryz.func190 rfl rfl ?_;simp only[List.map_toArray,List.map_cons,List.map_nil];exact B T
def Cl(d e a b c f:Bool):Prop:=(a=true->e=true)/\(b=true->a=true)/\(c=true->b=true)/\(f=true->c=true/\d=true)
instance (b1 b2 b3 b4 b5 b6:Bool):Decidable (Cl b1 b2 b3 b4 b5 b6):=by unfold Cl;infer_instance
theorem Ar:∀g a b c d e f:Bool,Cl a b c d e f->Region.ready .any dq #[g,a,b,c,d,e,f,false]≠[]:=by decide+kernel
def ct(b:Bool):Nat:=if b then 0 else 1
def Nx(f a b c d e g:Bool)(i:Nat):Prop:=(i=0/\f=false)\/(i=1/\a=false)\/(i=2/\b=false)\/(i=3/\c=false/\b=true)\/(i=4/\d=false/\c=true)\/(i=5/\e=false/\d=true)\/(i=6/\g=false/\e=true/\a=true)\/(i=7/\f=true/\a=true/\b=true/\c=true/\d=true/\e=true/\g=true)
instance (b0 b1 b2 b3 b4 b5 b6:Bool) (i:Nat):Decidable (Nx b0 b1 b2 b3 b4 b5 b6 i):=by unfold Nx;infer_instance
theorem xH:∀g a b c d e f:Bool,Cl a b c d e f->((Region.ready .any dq #[g,a,b,c,d,e,f,false]).all λi=>decide (Nx g a b c d e f i))=true:=by decide+kernel
theorem As{g a b c d e f:Bool}(h:Cl a b c d e f)(i:Nat)(j:i∈Region.ready .any dq #[g,a,b,c,d,e,f,false]):Nx g a b c d e f i:=by have:=List.all_eq_true.1 (xH g a b c d e f h) i j;simpa using this
structure K2(pc ic oc Wg Ch T:Nat)(pl:Addr)(i:Int)(Q:World->Prop)(p0 p1 p2 p3 p4 p5 p6 p7 sa:Value)(m n:Int)(s:Bool)(Sc:World->Value->Prop)(w:World):Prop where
 kw:KW pc ic oc Wg Ch pl i Q w
 t:∃fz,w.heap[T]? =some (.cells #[p0,p1,p2,p3,p4,p5,p6,p7,sa,.int .i64 m,.int .i64 n,.bool s] 245 fz)
 sc:Sc w (.agg #[sa,.int .i64 m,.int .i64 n,.bool s])
noncomputable def mR(pc c oc Wg Ch T:Nat)(pl:Addr)(i:Int)(a b:Value)(d e f g h j k:Bool):Act:=
 fQ pc c oc Wg T pl (.pointer (some ⟨T,0,none⟩)) (.int .i64 i) undef (if d then .chan (some Ch)else undef) (if e then .int .i64 i else undef) (if f then .pointer (some ⟨T,0,none⟩)else undef)
  (if g then .pointer (some ⟨T,0,none⟩)else undef) (if h then .pointer (some ⟨T,8,none⟩)else undef) (if j then a else undef) (if k then b else undef)
theorem so{ops:Array Oper}{fuel t:Nat}{l:Array Bool}(b:Region.ready .any ops l≠[]):∃i c,i∈Region.ready .any ops l/\Region.linearise.go .any ops (fuel+1) t l []=i::Region.linearise.go .any ops fuel c (l.setIfInBounds i true) []:=by
 have a:t%(Region.ready .any ops l).length<(Region.ready .any ops l).length:=Nat.mod_lt _ (by cases h:Region.ready .any ops l with|nil=>exact absurd h b|cons=>simp);refine⟨(Region.ready .any ops l)[t%(Region.ready .any ops l).length],t/(Region.ready .any ops l).length,List.getElem_mem a,?_⟩;simp only[Region.linearise.go];change(match(Region.ready .any ops l)[t%(Region.ready .any ops l).length]? with
  |some i=>Region.linearise.go .any ops fuel (t/(Region.ready .any ops l).length) (l.setIfInBounds i true) [i]
  |none=>[].reverse)=_
 rw[List.getElem?_eq_getElem a];simp only;rw[linearise_go_acc];simp
theorem H4{pc B oc Wg Ch T:Nat}{pl:Addr}{i:Int}{Q:World->Prop}{rd own:Nat->Prop}{S:eK}{E F H I J K L M:Value}{sa:Option Addr}{sl sc:Nat}{m n:Int}{s:Bool}{Sc:World->Value->Prop}(h2:rd B)(h3:rd oc)(hT:own T) (d:jV own rd (Lv 241 Wg) (K2 pc B oc Wg Ch T pl i Q E F H I J K L M (.slice sa sl sc) m n s Sc)) (hn:WK PR 241 Wg false rd S own (K2 pc B oc Wg Ch T pl i Q E F H I J K L M (.slice sa sl sc) m n s Sc) (G (xD.at (mR pc B oc Wg Ch T pl i (.agg #[.slice sa sl sc,.int .i64 m,.int .i64 n,.bool s]) (.agg #[.int .i64 i,.slice sa sl sc,.int .i64 m,.int .i64 n,.bool s]) true true true true true true true) [.inRegion dq [7]]) [bot])):∀(fuel:Nat) (k l p q r u f:Bool) (t:Nat),Cl l p q r u f->fuel=1+ct k+ct l+ct p+ct q+ct r+ct u+ct f->WK PR 241 Wg false rd S own (K2 pc B oc Wg Ch T pl i Q E F H I J K L M (.slice sa sl sc) m n s Sc) (G (xD.at (mR pc B oc Wg Ch T pl i (.agg #[.slice sa sl sc,.int .i64 m,.int .i64 n,.bool s]) (.agg #[.int .i64 i,.slice sa sl sc,.int .i64 m,.int .i64 n,.bool s]) k l p q r u f) [.inRegion dq (Region.linearise.go .any dq fuel t #[k,l,p,q,r,u,f,false] [])]) [bot]):=by
 intro fuel;induction fuel with
 |zero=>intro k l p q r u f t a b;omega
 |succ fuel y=>
  intro k l p q r u f t a b;obtain⟨j,z,hj,e⟩:=so (fuel:=fuel) (t:=t) (Ar k l p q r u f a);rw[e];rcases As a j hj with⟨rfl,g⟩|⟨rfl,g⟩|⟨rfl,g⟩|⟨rfl,g,A⟩|⟨rfl,g,A⟩|⟨rfl,g,A⟩|⟨rfl,g,A,N⟩|⟨rfl,O,P,R,U,V,W,X⟩
  ·subst g;refine WK.load (v:=.chan (some Ch)) d rfl rfl (by k_ne) (λw x=>?_) (λw x e c=>?_) (y true l p q r u f z a (by simp only[ct]at b⊢;simp at b⊢;omega))
   ·have a:=x.kw.o;simp only[dq,mR,fQ];go_simp
   ·have a:=x.kw.o;simp only[dq,mR,fQ]at c;simp[go_sem,a]at c;exact .inl ⟨_,_,c,.inr (.inl ⟨rfl,h3⟩)⟩
  ·subst g;refine WK.load (v:=.int .i64 i) d rfl rfl (by k_ne) (λw x=>?_) (λw x e c=>?_) (y k true p q r u f z ⟨a.1,a.2.1,a.2.2.1,λh=>⟨(a.2.2.2 h).1,rfl⟩⟩ (by simp only[ct]at b⊢;simp at b⊢;omega))
   ·have a:=x.kw.i;simp only[dq,mR,fQ];go_simp
   ·have a:=x.kw.i;simp only[dq,mR,fQ]at c;simp[go_sem,a]at c;exact .inl ⟨_,_,c,.inr (.inl ⟨rfl,h2⟩)⟩
  ·subst g;refine WK.val (v:=.pointer (some ⟨T,0,none⟩)) d rfl rfl (by k_ne) (λw=>?_) (λw=>?_) (y k l true q r u f z ⟨λ_=>rfl,a.2.1,a.2.2⟩ (by simp only[ct]at b⊢;simp at b⊢;omega))
   ·simp only[dq,mR,fQ];go_simp
   ·simp only[dq,mR,fQ];simp[go_sem]
  ·subst g A;refine WK.val (v:=.pointer (some ⟨T,0,none⟩)) d rfl rfl (by k_ne) (λw=>?_) (λw=>?_) (y k l true true r u f z ⟨λ_=>rfl,λ_=>rfl,a.2.2⟩ (by simp only[ct]at b⊢;simp at b⊢;omega))
   ·simp only[dq,mR,fQ];go_simp
   ·simp only[dq,mR,fQ];simp[go_sem]
  ·subst g A;refine WK.val (v:=.pointer (some ⟨T,8,none⟩)) d rfl rfl (by k_ne) (λw=>?_) (λw=>?_) (y k l p true true u f z ⟨a.1,λ_=>rfl,λ_=>rfl,a.2.2.2⟩ (by simp only[ct]at b⊢;simp at b⊢;omega))
   ·simp only[dq,mR,fQ];go_simp
   ·simp only[dq,mR,fQ];simp[go_sem]
  ·subst g A;refine WK.load (v:=.agg #[.slice sa sl sc,.int .i64 m,.int .i64 n,.bool s]) d rfl rfl (by k_ne) (λw x=>?_) (λw x e c=>?_) (y k l p q true true f z ⟨a.1,a.2.1,λ_=>rfl,λh=>⟨rfl,(a.2.2.2 h).2⟩⟩ (by simp only[ct]at b⊢;simp at b⊢;omega))
   ·obtain⟨fz,a⟩:=x.t;have Y:w.cell? ⟨T,8,none⟩=some (.slice sa sl sc):=by simp[World.cell?,a]
    have Z:w.cell? ⟨T,9,none⟩=some (.int .i64 m):=by simp[World.cell?,a]
    have C:w.cell? ⟨T,10,none⟩=some (.int .i64 n):=by simp[World.cell?,a]
    have D:w.cell? ⟨T,11,none⟩=some (.bool s):=by simp[World.cell?,a]
    simp only[dq,mR,fQ];go_simp
   ·obtain⟨fz,a⟩:=x.t;have Y:w.cell? ⟨T,8,none⟩=some (.slice sa sl sc):=by simp[World.cell?,a]
    have Z:w.cell? ⟨T,9,none⟩=some (.int .i64 m):=by simp[World.cell?,a]
    have C:w.cell? ⟨T,10,none⟩=some (.int .i64 n):=by simp[World.cell?,a]
    have D:w.cell? ⟨T,11,none⟩=some (.bool s):=by simp[World.cell?,a]
    simp only[dq,mR,fQ]at c;simp[go_sem,Y,Z,C,D]at c;rcases c with c|c|c|c<;>exact .inl ⟨_,_,c,.inl hT⟩
  ·subst g A N;refine WK.val (v:=.agg #[.int .i64 i,.slice sa sl sc,.int .i64 m,.int .i64 n,.bool s]) d rfl rfl (by k_ne) (λw=>?_) (λw=>?_) (y k true p q r true true z ⟨a.1,a.2.1,a.2.2.1,λ_=>⟨rfl,rfl⟩⟩ (by simp only[ct]at b⊢;simp at b⊢;omega))
   ·simp only[dq,mR,fQ];first|(go_simp;done)|(go_simp;have:=Fs i m n s sa sl sc w;rw[this];rfl)
   ·simp only[dq,mR,fQ];have:=C0 i m n s sa sl sc w;simp[go_sem,this]
  ·subst O P R U V W X;have:fuel=0:=by simp only[ct]at b;simp at b;omega
   subst this;simpa[Region.linearise.go]using hn
end Go.Proofs.W
namespace Go.ck.Wg
open Go.Conc Go.ConcN Go.RowKit Go.Conc.Lib Go.ConcR.Gen Go.ConcN.Gen Go.ck
open Go.ConcR (KK wgBlock WgAt stA smA mk Payload DC0)
section
variable{L:WgLink}
theorem MU{P:Program}(H:WgLib P L){Wg qt:Nat}{c:Frame}{cs:List Frame}(d:c.mode=.returning)(g:QuitsD P qt 0 (G c cs))(w:World)(b:True/\WgLive L.tWg Wg w):Goes P false (cO Cr.ci Cr.ci (Cr.Lv L.tWg Wg)) DC0 (Cr.R0 P L.tWg Wg) 43 (G ((baseD L.done).at ⟨#[.pointer (some ⟨Wg,0,none⟩),undef,undef,undef],[]⟩ [.code (body_done L)]) (c::cs)) w:=by have e:∀{w a:World},True/\WgLive L.tWg Wg w->cO Cr.ci Cr.ci (Cr.Lv L.tWg Wg) w a->True/\WgLive L.tWg Wg a:=λh r=>⟨trivial,r.live h.2⟩;lib_facts;have f:=@H0 L;simp only[body_done,body_add,doneFn,addFn,Option.getD_some,Nat.reduceSub,Array.replicate,List.replicate,List.append_toArray,List.cons_append,List.nil_append]at f⊢;u_reg e b;u_op e b;u_in e b;refine goes_call rfl rfl (by k_ne) rfl H.f_add (nm_add L) rfl ⟨⟨rfl,rfl⟩,?_⟩;walk_nrmf addFn;refine f H (qt:=qt+3) ?_ _ b;q_c stepG_region_end;q_c stepG_end;exact QuitsD.leaveD rfl rfl H.f_done rfl d g
end
end Go.ck.Wg
namespace Go.Proofs.W
open Go.Conc Go.ck Go.ck.Cr Go.ck.Wg Go.RowKit Go.Conc.Lib Go.ConcR.Gen
open Go.ConcR (KK wgBlock WgAt stA smA mk DC0)
theorem Ft{Ch:Nat}{v:Value}{ev:Operand->Value}{o:Oper}{x y:Operand}(a:o.op=.send x y)(b:ev x=.chan (some Ch))(c:ev y=v)(w:World):(execOp ev o).run PR w=.ok (.comm #[scase Ch v undef] true .send) w:=by simp only[execOp,a,b,c];simp;rfl
theorem xI{Ch:Nat}{v:Value}{ev:Operand->Value}{o:Oper}{x y:Operand}(a:o.op=.send x y)(b:ev x=.chan (some Ch))(c:ev y=v)(w:World):(execOp ev o).events PR w #[]=#[]:=by simp only[execOp,a,b,c];simp
theorem sq{R:World->World->Prop}{S:Goroutine->World->Prop}{K:World->Prop}(c:∀{w a:World},K w->R w a->K a){m:Nat}{g g':Goroutine}(d:g.status=.running)(e:∀w,stepG PR false g w=.go g' w #[]) (h:∀w,K w->Goes PR false R DC0 S m g' w):∀w,K w->Goes PR false R DC0 S (m+1) g w:=by intro w f;refine .inr ⟨d,λb i=>?_⟩;rw[e b];exact⟨⟨rfl,rfl⟩,h b (c f i)⟩
theorem sr{fn:Func}(f:FuncId)(b:PR.funcs[f]? =some fn)(a:fn.results=#[])(c:Array Value)(d:List Item):QuitsD PR 2 0 (G {(baseD f).at ⟨c,[]⟩ d with mode:=.returning} [bot]):=by
 refine .inr ⟨rfl,G bot [],#[],by simp,λw=>?_,.inr ⟨rfl,{G bot []with status:=.finished},#[],by simp,λw=>?_,⟨rfl,rfl⟩⟩⟩
 ·simp[G,stepG,unwind,doReturn,Frame.at,baseD,b,results,a,bot,goexitEntry,seen,GStep.after,Sem.runT_eq]
 ·simp[G,stepG,unwind,bot,goexitEntry,Frame.catches];rfl
theorem Au{pc e oc Wg Ch T:Nat}{pl:Addr}{i:Int}{b c:Value}:∀(w:World),Lv 241 Wg w->Goes PR false (cO ci ci (Lv 241 Wg)) DC0 (R0 PR 241 Wg) 46 (G (xD.at (mR pc e oc Wg Ch T pl i b c true true true true true true true) [.inRegion dq []]) [bot]) w:=by have d:∀{w a:World},Lv 241 Wg w->cO ci ci (Lv 241 Wg) w a->Lv 241 Wg a:=λh r=>r.live h;refine sq (K:=Lv 241 Wg) d rfl (λ_=>stepG_region_end) ?_;refine sq (K:=Lv 241 Wg) d rfl (λ_=>stepG_end) ?_;refine sq (K:=Lv 241 Wg) d rfl (λ_=>stepG_unwind_enter rfl Tryz.func189 rfl rfl) ?_;intro w f;exact MU (L:=Tryz.link) Tryz.qD (qt:=2) rfl (sr 188 Tryz.func188 rfl _ _) w ⟨trivial,f⟩
theorem H5{pc a oc Wg Ch T k:Nat}{pl:Addr}{i:Int}{Q:World->Prop}{rd own:Nat->Prop}{d f g j l o p q:Value}{sa:Option Addr}{sl sc:Nat}{m n:Int}{s:Bool}{Sc:World->Value->Prop}{val:Nat->Value->(Nat->Prop)->World->Prop}(u:rd a)(x:rd oc)(y:own T) (c:jV own rd (Lv 241 Wg) (K2 pc a oc Wg Ch T pl i Q d f g j l o p q (.slice sa sl sc) m n s Sc)) (z:∀w,K2 pc a oc Wg Ch T pl i Q d f g j l o p q (.slice sa sl sc) m n s Sc w->val k (.agg #[.int .i64 i,.slice sa sl sc,.int .i64 m,.int .i64 n,.bool s]) own w):WK PR 241 Wg false rd (Sends PR 241 Wg Ch val k) own (K2 pc a oc Wg Ch T pl i Q d f g j l o p q (.slice sa sl sc) m n s Sc) (G ((xG pc a oc Wg T pl i).finish undef) [bot]):=by
 have e:(xG pc a oc Wg T pl i).finish undef=xD.at (fQ pc a oc Wg T pl (.pointer (some ⟨T,0,none⟩)) (.int .i64 i) undef undef undef undef undef undef undef undef) [.inRegion xF [],.code (.region 3 dq true)]:=by unfold xG;rw[Frame.finish_at];rfl
 rw[e];refine WK.ctl (g':=G (xD.at (fQ pc a oc Wg T pl (.pointer (some ⟨T,0,none⟩)) (.int .i64 i) undef undef undef undef undef undef undef undef) [.code (.region 3 dq true)]) [bot]) c rfl (λ_=>stepG_region_end) ?_;intro w A;refine ia rfl λt B=>?_;refine⟨_,_,_,own,stepG_region_draw,⟨rfl,rfl,rfl,Nat.le_refl _,λb=>⟨.inl,λh=>h.elim id λh=>absurd h.2 (Nat.not_lt.2 h.1)⟩,λ_ _ _=>rfl,λe C=>by simp at C⟩,?_⟩;have r:K2 pc a oc Wg Ch T pl i Q d f g j l o p q (.slice sa sl sc) m n s Sc {t with drawn:=t.drawn+1}:=(c w _ (B.trans ⟨rfl,rfl,rfl,Nat.le_refl _,λ_ _ _=>rfl,λh=>h⟩) A);have D:PR.follows .mixedOrders=true:=by kernel_rfl
 simp only[Region.schedule,D,Bool.true_or,if_true];refine H4 u x y c ?_ 8 false false false false false false false _ (by decide) rfl _ r;refine WK.stop c λw r=>⟨.agg #[.int .i64 i,.slice sa sl sc,.int .i64 m,.int .i64 n,.bool s],undef,rfl,λw=>?_,z w r,46,?_⟩
 ·refine(stepG_comm rfl rfl (by k_ne) (Ft rfl rfl rfl w)).trans ?_;unfold listed;rw[xI (v:=.agg #[.int .i64 i,.slice sa sl sc,.int .i64 m,.int .i64 n,.bool s]) (Ch:=Ch) rfl rfl rfl w,seen_none];rfl
 ·exact Au w r.kw.live
theorem ez{w w':World}{ad:Addr}(h:w'.heap[ad.block]? =w.heap[ad.block]?):w'.cell? ad=w.cell? ad:=by unfold World.cell?;rw[h]
theorem worker{pc f oc Wg Ch k:Nat}{pl:Addr}{i:Int}{Q:World->Prop}{rd:Nat->Prop}{Sc:(Nat->Prop)->World->Value->Prop}{val:Nat->Value->(Nat->Prop)->World->Prop}(z:rd pc)(j:rd f)(u:rd oc)(I:rm rd Q)(J:JR rd Wg pl i Q Sc) (K:∀o w a l c m n s,Sc o w (.agg #[.slice a l c,.int .i64 m,.int .i64 n,.bool s])->val k (.agg #[.int .i64 i,.slice a l c,.int .i64 m,.int .i64 n,.bool s]) o w):WK PR 241 Wg false rd (Sends PR 241 Wg Ch val k) ci (KW pc f oc Wg Ch pl i Q) (born PR (call188 pc f oc Wg)):=by
 refine H3 z j u I λT=>?_;rintro w ⟨e,L,O,P,R,S⟩;have d:=J (λx=>ci x\/x=T) w T (xG pc f oc Wg T pl i) [bot] e.q (λb=>⟨λh=>h.elim (λh=>h.elim) id,.inr⟩) L
 have d:=Wy.keep (B:=λb=>b=pc\/b=f\/b=oc) (by
  rintro b (rfl|rfl|rfl)
  ·exact⟨z,λh=>h.elim (λh=>h.elim) (λh=>by omega),nJ e.p⟩
  ·exact⟨j,λh=>h.elim (λh=>h.elim) (λh=>by omega),nJ e.i⟩
  ·exact⟨u,λh=>h.elim (λh=>h.elim) (λh=>by omega),nJ e.o⟩) d
 have d:=Wy.MT (λh=>h.elim (λh=>h.elim) (λh=>by omega)) e.live d;refine d.bind ?_;rintro o g G ⟨⟨⟨rfl,r,U,V,W,X,Y,Z,p6,p7,a,l,cc,m,n,s,H,A,C⟩,D⟩,M⟩;have E:KW pc f oc Wg Ch pl i (λ_=>True) G:=⟨(ez (D pc (.inl rfl))).trans e.p,(ez (D f (.inr (.inl rfl)))).trans e.i,(ez (D oc (.inr (.inr rfl)))).trans e.o,M,trivial⟩;refine H5 (T:=T) (Sc:=λw v=>∀y,cO o rd (Lv 241 Wg) w y->Sc o y v) j u r (λw y F h=>⟨KW.rely z j u (λ_ _ _ _ h=>h) w y F h.kw,h.t.imp λH h=>F.obj (.inl r) h,λN j=>h.sc N (F.trans j)⟩) (λw h=>K _ _ _ _ _ _ _ _ (h.sc w (.refl _ _ _ _))) G ⟨E,⟨H,A⟩,C⟩
end Go.Proofs.W
namespace Go.ck.Cr
open Go.Conc Go.ck Go.ck.Kn Go.ck.Wg
open Go.ConcR (KK wgBlock WgAt stA smA mk DC0)
section
variable{P:Program}{own:Nat->Prop}{ty:TypeId}{Wg Ch:Nat}{rc:Nat->Prop}{mM Fin:Goroutine->World->Prop}
theorem sv(q:∀g w,mM g w->∃k,Goes P false (cO own rc (Lv ty Wg)) DC0 (Po P false (cO own rc (Lv ty Wg)) Wg ty mM Fin) k g w)
 (r:∀g w,Fin g w->Wy P ty Wg false rc (Mg P Ch) own g w):Anchor P ty Wg Ch rc λo g w=>o=own/\mM g w:=by
 have f:∀{k:Nat} {g:Goroutine} {w:World},Goes P false (cO own rc (Lv ty Wg)) DC0 (Ol P false (cO own rc (Lv ty Wg)) Wg Fin) k g w->Wy P ty Wg false rc (NF P ty Wg Ch rc) own g w:=λh=>
  fF h λg w h=>lR (λh=>fF h λg w h=>lR (λh=>o9 h r) h) h
 refine⟨λo g w ⟨s,j⟩=>?_⟩;subst s;obtain⟨k,a⟩:=q g w j;refine fF a λg w ⟨c,d⟩=>⟨c,λv t i=>?_⟩;obtain⟨b,e,j,u⟩:=d v t i;refine⟨b,e,λl=>?_,λl=>?_⟩
 ·obtain⟨k,a⟩:=j l;exact f a
 ·obtain⟨k,a⟩:=u l;refine fF a λg w ⟨c,d⟩=>⟨c,λx m n=>?_⟩;obtain⟨y,z⟩:=d x m n;refine⟨λe=>?_,λe=>?_⟩
  ·obtain⟨b,p,k,a⟩:=y e;refine⟨b,p,fF a λg w h=>lR (λh=>fF h λg w ⟨c,d,A,B⟩=>⟨c,d,A,λi=>?_⟩) h⟩;obtain⟨b,e,k,a⟩:=B i;refine⟨b,e,fF a λg w ⟨c,d⟩=>⟨c,λi=>?_⟩⟩;obtain⟨b,e,k,a⟩:=d i;exact⟨b,e,f a⟩
  ·obtain⟨b,p,k,a⟩:=z e;exact⟨b,p,fF a λg w h=>⟨rfl,h⟩⟩
theorem xJ{m:Nat}{g:Goroutine}{w:World}(h:Goes P false (cO own rc (Lv ty Wg)) DC0 (uL P false (cO own rc (Lv ty Wg)) .disable mM) m g w):
 Wy P ty Wg false rc (NG P ty Wg rc λo g w=>o=own/\mM g w) own g w:=
 fF h λg w h=>lR (λh=>fF h λg w h=>⟨rfl,h⟩) h
end
end Go.ck.Cr
namespace Go.Proofs.W
open Go.Conc Go.ck Go.ck.Cr Go.ck.Wg Go.RowKit Go.Conc.Lib Go.ConcR.Gen
open Go.ConcN Go.ConcN.Gen
open Go.ConcR (KK wgBlock WgAt stA smA mk DC0)
noncomputable def xK:Frame:=baseD 191
noncomputable def call191(oc Wg:Nat):Deferred:={target:=.fn (.func 191) #[.pointer (some ⟨Wg,0,none⟩),.pointer (some ⟨oc,0,none⟩)],args:=#[]}
noncomputable def vZ:Code:=Tryz.f191.body.getD .skip
theorem H6(oc Wg:Nat)(w:World):stepG PR false (born PR (call191 oc Wg)) w=.go (G (xK.at ⟨#[.pointer (some ⟨Wg,0,none⟩),.pointer (some ⟨oc,0,none⟩),undef,undef],[]⟩ [.code vZ]) [bot]) w #[]:=by simp[born,call191,stepG,unwind,callDeferred,invoke,callFunc,Tryz.func191,Tryz.f191,seen,GStep.after,G,Frame.enter,Frame.at,xK,baseD,bot,vZ]
structure KC(oc Wg Ch:Nat)(w:World):Prop where
 o:w.cell? ⟨oc,0,none⟩=some (.chan (some Ch))
 live:Lv 241 Wg w
theorem KC.rely{oc Wg Ch:Nat}{own rd:Nat->Prop}(b:rd oc):jV own rd (Lv 241 Wg) (KC oc Wg Ch):=λ_ _ a h=>⟨a.cell (.inr b) h.o,a.live h.live⟩
noncomputable def mS:Array Oper:=#[{dst:=some 2,op:=Op.call {callee:=Callee.value (Operand.func 192),args:=#[Operand.tmp 0],argTypes:=#[241]},type:=0,pos:= "plan.go:152",after:=#[],guard:=none}]
noncomputable def jC:Array Oper:=#[{dst:=some 3,op:=Op.load 232 (Operand.tmp 1),type:=232,pos:= "plan.go:153",after:=#[],guard:=none},{dst:=none,op:=Op.call {callee:=Callee.builtin Builtin.close,args:=#[Operand.tmp 3],argTypes:=#[232]},type:=0,pos:= "plan.go:153",after:=#[{on:=0,ground:=Ground.data}],guard:=none}]
noncomputable def jD(oc Wg:Nat)(a b:Value):Act:=⟨#[.pointer (some ⟨Wg,0,none⟩),.pointer (some ⟨oc,0,none⟩),a,b],[]⟩
theorem Av{oc Wg Ch:Nat}{rd:Nat->Prop}(f:rd oc):WK PR 241 Wg false rd (Mg PR Ch) ci (KC oc Wg Ch) (G (xK.at (jD oc Wg (.tuple #[]) undef) [.inRegion mS [],.code (.region 1 jC false)]) [bot]):=by
 have a:jV ci rd (Lv 241 Wg) (KC oc Wg Ch):=KC.rely f;refine WK.ctl a rfl (λ_=>stepG_region_end) ?_;refine WK.ctl a rfl (λ_=>stepG_region) ?_;simp only[List.size_toArray,List.length_cons,List.length_nil,Nat.reduceAdd,Nat.zero_add,List.range,List.range.loop];simp only[jC,jD];refine WK.load (v:=.chan (some Ch)) a rfl rfl (by k_ne) (λw b=>?_) (λw b e g=>?_) ?_
 ·have d:=(λw b=>b.o) w b;go_simp
 ·have d:=(λw b=>b.o) w b;simp[go_sem,d]at g;exact .inl ⟨_,_,g,.inr (.inl ⟨rfl,f⟩)⟩
 walk_nrm;refine WK.stop a λw b=>⟨rfl,?_,G (xK.at (jD oc Wg (.tuple #[]) (.chan (some Ch))) [.inRegion jC []]) [bot],rfl,λs r d=>?_,5,?_⟩
 ·rfl
 ·rw[stepG_close (c:=Ch) rfl rfl (by k_ne) rfl rfl d (by kernel_rfl)];rfl
 ·refine iv (n:=4) (by omega) ?_;refine .ctl rfl (λ_=>stepG_region_end) ?_;refine .ctl rfl (λ_=>stepG_end) ?_;exact sr 191 Tryz.func191 rfl _ _
theorem closer{oc Wg Ch:Nat}{rd:Nat->Prop}(j:rd oc)(l:oc≠Wg)(w:World)(i:KC oc Wg Ch w):ES PR 241 Wg Ch rd ci (born PR (call191 oc Wg)) w:=by
 have d:jV ci rd (Lv 241 Wg) (KC oc Wg Ch):=KC.rely j;have m:∀{w b:World},(w.cell? ⟨oc,0,none⟩=some (.chan (some Ch)))/\WgLive Tryz.link.tWg Wg w->cO ci rd (Lv 241 Wg) w b->(b.cell? ⟨oc,0,none⟩=some (.chan (some Ch)))/\WgLive Tryz.link.tWg Wg b:=λh r=>⟨r.cell (.inr j) h.1,r.live h.2⟩;have e:∀(w:World) (a:Addr) (x:Value),a.block=Wg->w.cell? ⟨oc,0,none⟩=some (.chan (some Ch))->(w.setCell a x).cell? ⟨oc,0,none⟩=some (.chan (some Ch)):=by
  intro w a x n h;rw[ez]
  ·exact h
  ·exact Below.heap_setCell w a x oc (by rw[n];exact l)
 have p:=λ(g:Goroutine) (w:World)=>Ap (L:=Tryz.link) (main:=false) (R:=cO ci rd (Lv 241 Wg)) (Wg:=Wg) (F:=λw=>w.cell? ⟨oc,0,none⟩=some (.chan (some Ch)))
  (b₀:=xK) (a₀:=jD oc Wg undef undef) (ops₀:=mS) (i₀:=0) (rest₀:=[]) (k₀:=[.code (.region 1 jC false)]) (cs:=[bot]) Tryz.qD m (λw x h=>e w _ x rfl h) (λw x h=>e w _ x rfl h) rfl g w
 refine⟨_,sv p ?_,?_⟩
 ·rintro g w ⟨rfl,q,s⟩;exact Av j w ⟨q,s⟩
 ·suffices h:WK PR 241 Wg false rd (NG PR 241 Wg rd λo g w=>o=ci/\AnchWN Tryz.link (λw=>w.cell? ⟨oc,0,none⟩=some (.chan (some Ch))) Wg (xK.at (jD oc Wg undef undef) [.inRegion mS [0],.code (.region 1 jC false)]) [bot] g w) ci (KC oc Wg Ch) (born PR (call191 oc Wg))from h w i;refine WK.ctl d rfl (H6 oc Wg) ?_;simp only[vZ,Tryz.f191,Option.getD_some];refine WK.ctl d rfl (λ_=>stepG_seq) ?_;refine WK.ctl d rfl (λ_=>stepG_region) ?_;simp only[List.size_toArray,List.length_cons,List.length_nil,Nat.reduceAdd,Nat.zero_add,List.range,List.range.loop];refine WK.enter (f:=Tryz.link.wait) (fn:=waitFn Tryz.link) (c:=body_wait Tryz.link) d rfl rfl (by k_ne) rfl Tryz.qD.f_wait (nm_wait Tryz.link) (by kernel_rfl) ?_;intro w i;rw[enter_at (fn:=waitFn Tryz.link) (c:=body_wait Tryz.link) _ Tryz.qD.f_wait (by kernel_rfl)]
  have t:=Ao (L:=Tryz.link) (main:=false) (R:=cO ci rd (Lv 241 Wg)) (Wg:=Wg) (F:=λw=>w.cell? ⟨oc,0,none⟩=some (.chan (some Ch)))
   (b₀:=xK) (a₀:=jD oc Wg undef undef) (ops₀:=mS) (i₀:=0) (rest₀:=[]) (k₀:=[.code (.region 1 jC false)]) (cs:=[bot]) Tryz.qD m w ⟨i.o,i.live⟩
  obtain⟨k,u⟩:=t;have v:=xJ u;have y:Array.map (jD oc Wg undef undef).eval #[Operand.tmp 0]=#[Value.pointer (some ⟨Wg,0,none⟩)]:=by simp[jD,Act.eval]
  change Wy PR 241 Wg false rd _ ci (G ((base Tryz.link.wait).at {tmps:=Array.map (jD oc Wg undef undef).eval #[Operand.tmp 0]++Array.replicate ((waitFn Tryz.link).ntmps-(Array.map (jD oc Wg undef undef).eval #[Operand.tmp 0]).size) undef,defers:=[]} [.code (body_wait Tryz.link)]) (xK.at (jD oc Wg undef undef) [.inRegion mS [0],.code (.region 1 jC false)]::[bot])) w;rw[y];exact v
noncomputable def sx:Array Oper:=(λ(x:Array Oper) (_:eg Tryz.f163 0=.region 0 x false)=>x) _ (by conv=>lhs;whnf)
noncomputable def sB:Array Oper:=(λ(x:Array Oper) (_:eg Tryz.f163 1=.region 1 x false)=>x) _ (by conv=>lhs;whnf)
noncomputable def xL:Array Oper:=(λ(x:Array Oper) (_:eg Tryz.f163 2=.region 2 x false)=>x) _ (by conv=>lhs;whnf)
noncomputable def xM:Array Oper:=(λ(x:Array Oper) (_:eg Tryz.f163 3=.region 3 x false)=>x) _ (by conv=>lhs;whnf)
noncomputable def xN:Array Oper:=(λ(x:Array Oper) (_:eg Tryz.f163 4=.region 4 x false)=>x) _ (by conv=>lhs;whnf)
noncomputable def xO:Array Oper:=(λ(x:Array Oper) (_:eg Tryz.f163 5=.region 5 x false)=>x) _ (by conv=>lhs;whnf)
noncomputable def sC:Array Oper:=(λ(x:Array Oper) (_:eg Tryz.f163 6=.region 6 x false)=>x) _ (by conv=>lhs;whnf)
noncomputable def xP:Array Oper:=(λ(x:Array Oper) (_:eg Tryz.f163 7=.region 7 x false)=>x) _ (by conv=>lhs;whnf)
noncomputable def mT:Array Oper:=(λ(x:Array Oper) (_:eg Tryz.f163 8=.region 8 x false)=>x) _ (by conv=>lhs;whnf)
noncomputable def jE:Array Oper:=(λ(x:Array Oper) (_:eg Tryz.f163 9=.region 9 x false)=>x) _ (by conv=>lhs;whnf)
noncomputable def iw:Array Oper:=(λ(x:Array Oper) (_:eg Tryz.f163 10=.region 10 x false)=>x) _ (by conv=>lhs;whnf)
noncomputable def nL:Array Oper:=(λ(x:Array Oper) (_:eg Tryz.f163 11=.region 11 x false)=>x) _ (by conv=>lhs;whnf)
noncomputable def jm:Array Oper:=(λ(x:Array Oper) (_:eg Tryz.f163 12=.region 12 x false)=>x) _ (by conv=>lhs;whnf)
noncomputable def pZ:Array Oper:=(λ(x:Array Oper) (_:eg Tryz.f163 13=.region 13 x false)=>x) _ (by conv=>lhs;whnf)
noncomputable def ix:Array Oper:=(λ(x:Array Oper) (_:eg Tryz.f163 14=.region 14 x false)=>x) _ (by conv=>lhs;whnf)
noncomputable def qa:Array Oper:=(λ(x:Array Oper) (_:eg Tryz.f163 15=.region 15 x false)=>x) _ (by conv=>lhs;whnf)
noncomputable def qb:Array Oper:=(λ(x:Array Oper) (_:eg Tryz.f163 16=.region 16 x false)=>x) _ (by conv=>lhs;whnf)
noncomputable def uM:Array Oper:=(λ(x:Array Oper) (_:eg Tryz.f163 17=.region 17 x false)=>x) _ (by conv=>lhs;whnf)
noncomputable def dQ:Code:=(Go.Code.region 6 sC false).seq ((Go.Code.cond (Go.Operand.tmp 24) Go.Code.skip (Go.Code.exit 0)).seq ((Go.Code.block 1 ((Go.Code.region 7 xP false).seq ((Go.Code.region 8 mT false).seq (Go.Code.region 9 jE false)))).seq (Go.Code.region 10 iw false)))
noncomputable def kg:Code:=(Go.Code.region 14 ix false).seq ((Go.Code.cond (Go.Operand.tmp 40) Go.Code.skip (Go.Code.exit 2)).seq (Go.Code.block 3 ((Go.Code.region 15 qa false).seq (Go.Code.region 16 qb false))))
noncomputable def ie:Code:=(Go.Code.region 17 uM false).seq Go.Code.ret
noncomputable def fo:Code:=(Go.Code.region 11 nL false).seq ((Go.Code.region 12 jm false).seq (((Go.Code.region 13 pZ false).seq (Go.Code.block 2 kg.loop)).seq ie))
noncomputable def pd:Code:=(Go.Code.region 0 sx false).seq (((Go.Code.region 1 sB false).seq (Go.Code.cond (Go.Operand.tmp 13) ((Go.Code.region 2 xL false).seq Go.Code.ret) Go.Code.skip)).seq ((Go.Code.region 3 xM false).seq ((Go.Code.region 4 xN false).seq (((Go.Code.region 5 xO false).seq (Go.Code.block 0 dQ.loop)).seq fo))))
theorem sD:Tryz.f163.body=some pd:=by kernel_rfl
noncomputable def gT:Frame:=base 163
structure mU where
 (x0 x2 x8 x9 Pp Pq Pr Ps Pt Pu Pw Px Py Pz PC PD:Value)
noncomputable def jd(e:mU)(pc oc Wg n i:Nat)(x5 x24 x25 x26 x27 x28:Value):Act:=
 ⟨#[e.x0,.pointer (some ⟨pc,0,none⟩),e.x2,.pointer (some ⟨oc,0,none⟩),.pointer (some ⟨Wg,0,none⟩),x5,undef,undef,e.x8,e.x9,e.Pp,e.Pq,e.Pr,e.Ps,e.Pt,e.Pu,e.Pw,e.Px,e.Py,e.Pz,e.PC,e.PD,.int .i64 n,.int .i64 i,x24,x25,x26,x27,x28,undef,undef,undef,undef,undef,undef,undef,undef,undef,undef,undef,undef,undef,undef,undef,undef,undef,undef,undef,undef,undef,undef,undef],[]⟩
structure H7(pc oc Wg Ch:Nat)(pl:Addr)(rd:Nat->Prop)(Q:World->Prop)(w:World):Prop where
 p:w.cell? ⟨pc,0,none⟩=some (.pointer (some pl))
 o:w.cell? ⟨oc,0,none⟩=some (.chan (some Ch))
 r:∀b,rd b->b<w.heap.size
 q:Q w
def mV(rd:Nat->Prop)(Q:World->Prop):Prop:=∀w a:World,(∀b,rd b->a.heap[b]? =w.heap[b]?)->Q w->Q a
structure KS(pc oc Wg Ch:Nat)(pl:Addr)(rd:Nat->Prop)(Q:World->Prop)(w:World):Prop where
 k:H7 pc oc Wg Ch pl rd Q w
 live:Lv 241 Wg w
section
variable{pc oc Wg Ch:Nat}{pl:Addr}{Q:World->Prop}{own rd:Nat->Prop}
theorem H7.same{w w':World}(h:H7 pc oc Wg Ch pl rd Q w)(c:rd pc)(d:rd oc)(e:mV rd Q)(f:w.heap.size<=w'.heap.size)(a:∀b,rd b->w'.heap[b]? =w.heap[b]?):H7 pc oc Wg Ch pl rd Q w':=
 ⟨(ez (a pc c)).trans h.p,(ez (a oc d)).trans h.o,λb g=>Nat.lt_of_lt_of_le (h.r b g) f,e w w' a h.q⟩
theorem H7.rely{L:World->Prop}(d:rd pc)(e:rd oc)(f:mV rd Q):jV own rd L (H7 pc oc Wg Ch pl rd Q):=
 λ_ _ a h=>h.same d e f a.size λb c=>a.heap b (h.r b c) (.inr c)
theorem KS.rely(b:rd pc)(c:rd oc)(d:mV rd Q):jV own rd (Lv 241 Wg) (KS pc oc Wg Ch pl rd Q):=
 λw e a h=>⟨H7.rely b c d w e a h.k,a.live h.live⟩
end
theorem Aw{e:mU}{pc oc Wg Ch n:Nat}{pl:Addr}{Q:World->Prop}{rd:Nat->Prop}{S:eK}{cs:List Frame}(b:rd pc)(c:rd oc)(d:mV rd Q){x5 x24 x25 x26 x27 x28:Value} (f:∀x24,WK PR 241 Wg true rd S ci (KS pc oc Wg Ch pl rd Q) (G (gT.at (jd e pc oc Wg n n x5 x24 x25 x26 x27 x28) [.code fo]) cs)):WK PR 241 Wg true rd S ci (KS pc oc Wg Ch pl rd Q) (G (gT.at (jd e pc oc Wg n n x5 x24 x25 x26 x27 x28) [.code dQ,.inLoop dQ,.inBlock 0,.code fo]) cs):=by
 have a:jV ci rd (Lv 241 Wg) (KS pc oc Wg Ch pl rd Q):=KS.rely b c d;refine WK.ctl a rfl (λ_=>stepG_seq) ?_;refine WK.ctl a rfl (λ_=>stepG_region) ?_;simp only[sC,jd,List.size_toArray,List.length_cons,List.length_nil,Nat.reduceAdd,Nat.zero_add,List.range,List.range.loop];refine WK.val (v:=.bool false) a rfl rfl (by k_ne) (λw=>?_) (λw=>?_) ?_
 ·go_simp
 ·simp[go_sem]
 walk_nrm;refine WK.ctl a rfl (λ_=>stepG_region_end) ?_;refine WK.ctl a rfl (λ_=>stepG_seq) ?_;refine WK.ctl a rfl (λ_=>stepG_cond (t:=false) rfl) ?_;refine WK.ctl a rfl (λ_=>stepG_exit rfl) ?_;exact f (.bool false)
theorem oz{w:World}{a:Addr}{x:Value}{ty Wg:Nat}(h:Wg≠a.block)(b:Lv ty Wg w):Lv ty Wg (w.setCell a x):=by obtain⟨c,d,b⟩:=b;exact⟨c,d,(cR w a x Wg h).trans b⟩
structure Mk(pc oc Wg Ch ic:Nat)(pl:Addr)(rd:Nat->Prop)(Q:World->Prop)(v:Int)(w:World):Prop where
 s:H7 pc oc Wg Ch pl rd Q w
 i:w.heap[ic]? =some (.cells #[.int .i64 v] 3)
 lr:∀b,rd b->b<ic
 lw:Wg<ic
structure KI(pc oc Wg Ch ic:Nat)(pl:Addr)(rd:Nat->Prop)(Q:World->Prop)(v:Int)(w:World):Prop where
 k:Mk pc oc Wg Ch ic pl rd Q v w
 live:Lv 241 Wg w
section
variable{pc oc Wg Ch ic:Nat}{pl:Addr}{Q:World->Prop}{own rd:Nat->Prop}{v:Int}
theorem Mk.rely{L:World->Prop}(b:rd pc)(c:rd oc)(d:own ic)(e:mV rd Q):jV own rd L (Mk pc oc Wg Ch ic pl rd Q v):=
 λw f a h=>⟨H7.rely b c e w f a h.s,a.obj (.inl d) h.i,h.lr,h.lw⟩
theorem KI.rely(b:rd pc)(c:rd oc)(d:own ic)(e:mV rd Q):jV own rd (Lv 241 Wg) (KI pc oc Wg Ch ic pl rd Q v):=
 λw f a h=>⟨Mk.rely b c d e w f a h.k,a.live h.live⟩
end
theorem we{ev:Operand->Value}{o:Oper}{x:Operand}{f:FuncId}{cs:Array Value}(a:o.op=.go {callee:=.value x,args:=#[],argTypes:=#[]})(b:ev x=.func (.func f) #[] cs)(w:World):(execOp ev o).run PR w=.ok (.spawn {target:=.fn (.func f) cs,args:=#[]}) w/\(execOp ev o).events PR w #[]=#[]:=by
 constructor
 ·simp[execOp,a,b,resolve,Deferred.ofValue]
 ·simp[execOp,a,b,resolve,Deferred.ofValue]
theorem Ax{e:mU}{pc oc Wg Ch n i:Nat}{pl:Addr}{Q:World->Prop}{rd:Nat->Prop}{val:Nat->Value->(Nat->Prop)->World->Prop}{S:eK}{cs:List Frame}(I:i<n)(O:n<2^62)(l:rd pc)(u:rd oc)(J:¬rd Wg)(y:mV rd Q){x5 x24 x25 x26 x27 x28:Value}
 (z:∀ic w,KW pc ic oc Wg Ch pl i (λw=>Q w/\∀b,rd b->b<w.heap.size) w->Wy PR 241 Wg false (λb=>rd b\/b=ic) (Sends PR 241 Wg Ch val i) ci (born PR (call188 pc ic oc Wg)) w)
 (A:∀x5 x24 x25 x26 x27 x28,WK PR 241 Wg true rd S ci (KS pc oc Wg Ch pl rd Q) (G (gT.at (jd e pc oc Wg n (i+1) x5 x24 x25 x26 x27 x28) [.code dQ,.inLoop dQ,.inBlock 0,.code fo]) cs)):WK PR 241 Wg true rd (MJ PR 241 Wg Ch rd val i (Wy PR 241 Wg true rd S)) ci (KS pc oc Wg Ch pl rd Q) (G (gT.at (jd e pc oc Wg n i x5 x24 x25 x26 x27 x28) [.code dQ,.inLoop dQ,.inBlock 0,.code fo]) cs):=by
 have a:jV ci rd (Lv 241 Wg) (KS pc oc Wg Ch pl rd Q):=KS.rely l u y;refine WK.ctl a rfl (λ_=>stepG_seq) ?_;refine WK.ctl a rfl (λ_=>stepG_region) ?_;simp only[sC,jd,List.size_toArray,List.length_cons,List.length_nil,Nat.reduceAdd,Nat.zero_add,List.range,List.range.loop];refine WK.val (v:=.bool true) a rfl rfl (by k_ne) (λw=>?_) (λw=>?_) ?_
 ·go_simp;first|done|simp[I]
 ·simp[go_sem]
 walk_nrm;refine WK.ctl a rfl (λ_=>stepG_region_end) ?_;refine WK.ctl a rfl (λ_=>stepG_seq) ?_;refine WK.ctl a rfl (λ_=>stepG_cond (t:=true) rfl) ?_;simp only[if_true];refine WK.ctl a rfl (λ_=>stepG_skip) ?_;refine WK.ctl a rfl (λ_=>stepG_seq) ?_;refine WK.ctl a rfl (λ_=>stepG_block) ?_;refine WK.ctl a rfl (λ_=>stepG_seq) ?_;refine WK.ctl a rfl (λ_=>stepG_region) ?_;simp only[xP,List.size_toArray,List.length_cons,List.length_nil,Nat.reduceAdd,Nat.zero_add,List.range,List.range.loop];refine WK.val (v:=?_) a rfl rfl (by k_ne) (λw=>?_) (λw=>?_) ?_;rotate_left
 ·go_simp;rfl
 ·go_simp
 walk_nrm;refine WK.new (f:=λn=>.pointer (some ⟨n,0,none⟩)) (ob:=.cells #[.int .i64 0] 3) a rfl rfl (by k_ne) (λw d=>?_) (λw d e C=>?_) (λic=>?_)
 ·go_simp;first|rfl|skip
 ·simp[go_sem]at C
 refine WK.mono (K':=KI pc oc Wg Ch ic pl rd Q 0) ?_ ?_;rotate_left
 ·rintro w ⟨D,d,rfl,K⟩;obtain⟨Z,sm,U⟩:=d.live
  have M:KI pc oc Wg Ch D.heap.size pl rd Q 0 {D with heap:=D.heap.push (.cells #[.int .i64 0] 3)}:=⟨⟨d.k.same l u y (by simp) λb B=>by
   have:=d.k.r b B;show(D.heap.push _)[b]? =_;rw[Array.getElem?_push];split
   ·omega
   ·rfl,by simp,d.k.r,lt_of_heap U⟩,nK d.live⟩
  exact KI.rely l u (.inr rfl) y _ _ K M
 have E:jV (λx=>ci x\/x=ic) rd (Lv 241 Wg) (KI pc oc Wg Ch ic pl rd Q 0):=KI.rely l u (.inr rfl) y;walk_nrm;refine WK.store (ad:=⟨ic,0,none⟩) (x:=.int .i64 i) E rfl rfl (by k_ne) (.inr rfl) (λw d=>?_) (λw d e C=>?_) ?_
 ·have H:w.cell? ⟨ic,0,none⟩=some (.int .i64 0):=by simp[World.cell?,d.k.i]
  have P:w.frozen? ⟨ic,0,none⟩=false:=by simp[World.frozen?,d.k.i]
  go_simp
 ·have H:w.cell? ⟨ic,0,none⟩=some (.int .i64 0):=by simp[World.cell?,d.k.i]
  have P:w.frozen? ⟨ic,0,none⟩=false:=by simp[World.frozen?,d.k.i]
  simp[go_sem,H,P]at C;exact .inl ⟨_,_,C,.inl (.inr rfl)⟩
 refine WK.mono (K':=KI pc oc Wg Ch ic pl rd Q i) ?_ ?_;rotate_left
 ·rintro w ⟨D,d,K⟩
  have M:KI pc oc Wg Ch ic pl rd Q i (D.setCell ⟨ic,0,none⟩ (.int .i64 i)):=⟨⟨d.k.s.same l u y (by simp[World.setCell]) λb B=>cR _ _ _ _ (by have:=d.k.lr b B;simp;omega),
   by simp[World.setCell,Array.getElem?_modify,d.k.i],d.k.lr,d.k.lw⟩,oz (by have:=d.k.lw;simp;omega) d.live⟩
  exact KI.rely l u (.inr rfl) y _ _ K M
 have j:jV (λx=>ci x\/x=ic) rd (Lv 241 Wg) (KI pc oc Wg Ch ic pl rd Q i):=KI.rely l u (.inr rfl) y;refine WK.ctl j rfl (λ_=>stepG_region_end) ?_;refine WK.ctl j rfl (λ_=>stepG_seq) ?_;refine WK.ctl j rfl (λ_=>stepG_region) ?_;simp only[mT,List.size_toArray,List.length_cons,List.length_nil,Nat.reduceAdd,Nat.zero_add,List.range,List.range.loop];refine WK.enter (f:=Tryz.link.add) (fn:=addFn Tryz.link) (c:=body_add Tryz.link) j rfl rfl (by k_ne) rfl Tryz.qD.f_add (nm_add Tryz.link) (by kernel_rfl) ?_;intro w T;rw[enter_at (fn:=addFn Tryz.link) (c:=body_add Tryz.link) _ Tryz.qD.f_add (by kernel_rfl)]
 obtain⟨m,C⟩:=Oj (L:=Tryz.link) (main:=true) (R:=cO (λx=>ci x\/x=ic) rd (Lv 241 Wg)) (Wg:=Wg) (F:=Mk pc oc Wg Ch ic pl rd Q i)
  (b₀:=gT) (a₀:=jd e pc oc Wg n i (.pointer (some ⟨ic,0,none⟩)) (.bool true) (.int .i64 i) x26 x27 x28) (ops₀:=mT) (i₀:=0) (rest₀:=[]) (k₀:=[.code (Go.Code.region 9 jE false),.inBlock 1,.code (Go.Code.region 10 iw false),.inLoop dQ,.inBlock 0,.code fo]) (cs:=cs) Tryz.qD (λh r=>⟨Mk.rely l u (.inr rfl) y _ _ r h.1,r.live h.2⟩) (λw x h=>⟨h.s.same l u y (by simp[World.setCell]) λb B=>cR _ _ _ _ (λe=>J (by rw[show Wg=b from e.symm];exact B)),(cR _ _ _ _ (by have:=h.lw;simp[stA];omega)).trans h.i,h.lr,h.lw⟩) rfl w ⟨T.k,T.live⟩
 have H:=Aq (Ch:=Ch) (val:=val) (i:=i) (Next:=Wy PR 241 Wg true rd S) C ?_
 ·have V:Array.map (jd e pc oc Wg n i (.pointer (some ⟨ic,0,none⟩)) (.bool true) (.int .i64 i) x26 x27 x28).eval #[Operand.tmp 4,Operand.const (Value.int IntKind.i64 1)]=#[Value.pointer (some ⟨Wg,0,none⟩),.int .i64 1]:=by simp[jd,Act.eval]
  change Wy PR 241 Wg true rd _ (λx=>ci x\/x=ic) (G ((base Tryz.link.add).at {tmps:=Array.map (jd e pc oc Wg n i (.pointer (some ⟨ic,0,none⟩)) (.bool true) (.int .i64 i) x26 x27 x28).eval #[Operand.tmp 4,Operand.const (Value.int IntKind.i64 1)]++Array.replicate ((addFn Tryz.link).ntmps-(Array.map (jd e pc oc Wg n i (.pointer (some ⟨ic,0,none⟩)) (.bool true) (.int .i64 i) x26 x27 x28).eval #[Operand.tmp 4,Operand.const (Value.int IntKind.i64 1)]).size) undef,defers:=[]} [.code (body_add Tryz.link)])
   (gT.at (jd e pc oc Wg n i (.pointer (some ⟨ic,0,none⟩)) (.bool true) (.int .i64 i) x26 x27 x28) [.inRegion mT [0],.code (Go.Code.region 9 jE false),.inBlock 1,.code (Go.Code.region 10 iw false),.inLoop dQ,.inBlock 0,.code fo]::cs)) w
  rw[V];exact H
 ·rintro g w ⟨rfl,N,W⟩
  suffices h:WK PR 241 Wg true rd (NH PR 241 Wg Ch rd val i (Wy PR 241 Wg true rd S)) (λx=>ci x\/x=ic) (KI pc oc Wg Ch ic pl rd Q i)
   (G (gT.at (jd e pc oc Wg n i (.pointer (some ⟨ic,0,none⟩)) (.bool true) (.int .i64 i) (.tuple #[]) x27 x28) [.inRegion mT [],.code (Go.Code.region 9 jE false),.inBlock 1,.code (Go.Code.region 10 iw false),.inLoop dQ,.inBlock 0,.code fo]) cs)from h w ⟨N,W⟩
  refine WK.ctl j rfl (λ_=>stepG_region_end) ?_;refine WK.ctl j rfl (λ_=>stepG_region) ?_;simp only[jE,jd,List.size_toArray,List.length_cons,List.length_nil,Nat.reduceAdd,Nat.zero_add,List.range,List.range.loop];refine WK.val (v:=?_) j rfl rfl (by k_ne) (λw=>?_) (λw=>?_) ?_;rotate_left
  ·go_simp;rfl
  ·rfl
  walk_nrm;refine WK.stop j λw d=>⟨rfl,G (gT.at (jd e pc oc Wg n i (.pointer (some ⟨ic,0,none⟩)) (.bool true) (.int .i64 i) (.tuple #[]) (.func (.func 188) #[] (xE pc ic oc Wg)) x28) [.inRegion jE [],.inBlock 1,.code (Go.Code.region 10 iw false),.inLoop dQ,.inBlock 0,.code fo]) cs,born PR (call188 pc ic oc Wg),λx=>x=ic,(stepG_spawn rfl rfl (by k_ne) (we (f:=188) (cs:=xE pc ic oc Wg) rfl rfl w).1 rfl).trans ?_,rfl,λb B=>.inr B,?_,?_⟩
  ·unfold listed;rw[(we (f:=188) (cs:=xE pc ic oc Wg) rfl rfl w).2,seen_none];rfl
  ·exact z ic w ⟨d.k.s.p,by simp[World.cell?,d.k.i],d.k.s.o,d.live,d.k.s.q,d.k.s.r⟩
  ·have X:(λb=>(ci b\/b=ic)/\¬b=ic)=ci:=by
    funext b;exact propext ⟨λ⟨h,Y⟩=>h.elim id λh=>Y h,λh=>h.elim⟩
   rw[X];suffices h:WK PR 241 Wg true rd S ci (KS pc oc Wg Ch pl rd Q) (G (gT.at (jd e pc oc Wg n i (.pointer (some ⟨ic,0,none⟩)) (.bool true) (.int .i64 i) (.tuple #[]) (.func (.func 188) #[] (xE pc ic oc Wg)) x28) [.inRegion jE [],.inBlock 1,.code (Go.Code.region 10 iw false),.inLoop dQ,.inBlock 0,.code fo]) cs)from h w ⟨d.k.s,d.live⟩;refine WK.ctl a rfl (λ_=>stepG_region_end) ?_;refine WK.ctl a rfl (λ_=>stepG_inBlock) ?_;refine WK.ctl a rfl (λ_=>stepG_region) ?_;simp only[iw,jd,List.size_toArray,List.length_cons,List.length_nil,Nat.reduceAdd,Nat.zero_add,List.range,List.range.loop];refine WK.val (v:=.int .i64 ((i+1:Nat):Int)) a rfl rfl (by k_ne) (λw=>?_) (λw=>?_) ?_
   ·go_simp;rw[IntKind.wrap_i64];omega
   ·simp[go_sem]
   walk_nrm;refine WK.val (v:=?_) a rfl rfl (by k_ne) (λw=>?_) (λw=>?_) ?_;rotate_left
   ·go_simp;rfl
   ·go_simp
   walk_nrm;refine WK.ctl a rfl (λ_=>stepG_region_end) ?_;refine WK.ctl a rfl (λ_=>stepG_inLoop) ?_;exact A _ _ _ _ _ _
def Sr(Wg Ch n:Nat)(rd:Nat->Prop)(val:Nat->Value->(Nat->Prop)->World->Prop)(End:eK):Nat->eK
 |0=>ET PR 241 Wg Ch n rd val End
 |r+1=>MJ PR 241 Wg Ch rd val (n-(r+1)) (kG PR 241 Wg Ch n rd val End r)
theorem uN(Wg Ch n:Nat)(rd:Nat->Prop)(val:Nat->Value->(Nat->Prop)->World->Prop)(End:eK):∀r,kG PR 241 Wg Ch n rd val End r=Wy PR 241 Wg true rd (Sr Wg Ch n rd val End r)
 |0=>rfl
 |_+1=>rfl
theorem K8{e:mU}{pc oc Wg Ch n:Nat}{pl:Addr}{Q:World->Prop}{rd:Nat->Prop}{val:Nat->Value->(Nat->Prop)->World->Prop}{End:eK}{cs:List Frame}(d:n<2^62)(j:rd pc)(k:rd oc)(g:¬rd Wg)(l:mV rd Q)
 (a:∀i f w,i<n->KW pc f oc Wg Ch pl i (λw=>Q w/\∀b,rd b->b<w.heap.size) w->Wy PR 241 Wg false (λb=>rd b\/b=f) (Sends PR 241 Wg Ch val i) ci (born PR (call188 pc f oc Wg)) w)
 (c:∀x5 x24 x25 x26 x27 x28,WK PR 241 Wg true rd (ET PR 241 Wg Ch n rd val End) ci (KS pc oc Wg Ch pl rd Q) (G (gT.at (jd e pc oc Wg n n x5 x24 x25 x26 x27 x28) [.code fo]) cs)):∀r,r<=n->∀x5 x24 x25 x26 x27 x28,WK PR 241 Wg true rd (Sr Wg Ch n rd val End r) ci (KS pc oc Wg Ch pl rd Q) (G (gT.at (jd e pc oc Wg n (n-r) x5 x24 x25 x26 x27 x28) [.code dQ,.inLoop dQ,.inBlock 0,.code fo]) cs):=by
 intro r;induction r with
 |zero=>
  intro _ x5 x24 x25 x26 x27 x28;rw[Nat.sub_zero];exact Aw j k l λx24=>c _ _ _ _ _ _
 |succ r m=>
  intro p x5 x24 x25 x26 x27 x28;have h:=Ax (e:=e) (cs:=cs) (val:=val) (i:=n-(r+1)) (S:=Sr Wg Ch n rd val End r) (by omega) d j k g l (x5:=x5) (x24:=x24) (x25:=x25) (x26:=x26) (x27:=x27) (x28:=x28) (λf w o=>a _ f w (by omega) o) (λx5 x24 x25 x26 x27 x28=>by have:=m (by omega) x5 x24 x25 x26 x27 x28;rwa[show n-r=n-(r+1)+1 by omega]at this);rw[<-uN]at h;exact h
noncomputable def sE(e:mU)(pc oc Wg n:Nat)(x5 w x a x24 x25 x26 x27 x28 b c d f g h i j k l m o p q r s t u v:Value):Act:=
 ⟨#[e.x0,.pointer (some ⟨pc,0,none⟩),e.x2,.pointer (some ⟨oc,0,none⟩),.pointer (some ⟨Wg,0,none⟩),x5,w,x,e.x8,e.x9,e.Pp,e.Pq,e.Pr,e.Ps,e.Pt,e.Pu,e.Pw,e.Px,e.Py,e.Pz,e.PC,e.PD,.int .i64 n,a,x24,x25,x26,x27,x28,b,c,d,f,g,h,i,j,k,l,m,o,p,q,r,s,t,u,v,undef,undef,undef,undef],[]⟩
structure Fu(pb:Nat)(la:Addr)(L C:Nat)(a0:Option Addr)(n c0:Nat)(w:World):Prop where
 f2:w.cell? ⟨pb,2,none⟩=some (.slice (some la) L C)
 l0:w.cell? la=some (.slice a0 n c0)
noncomputable def jF:Code:=((Go.Code.region 13 pZ false).seq (Go.Code.block 2 kg.loop))
theorem xQ{e:mU}{pc oc Wg Ch n pb:Nat}{Q:World->Prop}{rd:Nat->Prop}{val:Nat->Value->(Nat->Prop)->World->Prop}{End:eK}{z:Value}{cs:List Frame}(m:rd pc)(d:rd oc)(g:¬rd Wg)(p:mV rd Q)
 (c:∀x5 i x24 x25 x26 x27 x28 j,WK PR 241 Wg true rd (j7 PR 241 Wg Ch n rd val End z n (λ_=>false)) ci (KS pc oc Wg Ch ⟨pb,0,none⟩ rd Q)
  (G (gT.at (sE e pc oc Wg n x5 undef undef i x24 x25 x26 x27 x28 j undef undef undef undef undef undef undef undef undef undef undef undef undef undef undef undef undef undef) [.code (Go.Code.region 12 jm false),.code (jF.seq ie)]) cs))
 (x5 x24 x25 x26 x27 x28:Value):WK PR 241 Wg true rd (ET PR 241 Wg Ch n rd val End) ci (KS pc oc Wg Ch ⟨pb,0,none⟩ rd Q) (G (gT.at (jd e pc oc Wg n n x5 x24 x25 x26 x27 x28) [.code fo]) cs):=by
 have a:jV ci rd (Lv 241 Wg) (KS pc oc Wg Ch ⟨pb,0,none⟩ rd Q):=KS.rely m d p;refine WK.ctl a rfl (λ_=>stepG_seq) ?_;refine WK.ctl a rfl (λ_=>stepG_region) ?_;simp only[nL,jd,List.size_toArray,List.length_cons,List.length_nil,Nat.reduceAdd,Nat.zero_add,List.range,List.range.loop];refine WK.val (v:=?_) a rfl rfl (by k_ne) (λw=>?_) (λw=>?_) ?_;rotate_left
 ·go_simp;rfl
 ·rfl
 walk_nrm
 refine WK.stop a λw l=>⟨rfl,G (gT.at (sE e pc oc Wg n x5 undef undef (.int .i64 n) x24 x25 x26 x27 x28 (.func (.func 191) #[] #[.pointer (some ⟨Wg,0,none⟩),.pointer (some ⟨oc,0,none⟩)]) undef undef undef undef undef undef undef undef undef undef undef undef undef undef undef undef undef undef)
  [.inRegion nL [],.code ((Go.Code.region 12 jm false).seq (jF.seq ie))]) cs,born PR (call191 oc Wg),ci,z,(stepG_spawn rfl rfl (by k_ne) (we (f:=191) (cs:=#[.pointer (some ⟨Wg,0,none⟩),.pointer (some ⟨oc,0,none⟩)]) rfl rfl w).1 rfl).trans ?_,rfl,λb q=>q.elim,?_,?_⟩
 ·unfold listed;rw[(we (f:=191) (cs:=#[.pointer (some ⟨Wg,0,none⟩),.pointer (some ⟨oc,0,none⟩)]) rfl rfl w).2,seen_none];rfl
 ·refine closer (rd:=λb=>rd b\/ci b) (.inl d) (λe=>g (by rw[<-e];exact d)) w ⟨l.k.o,l.live⟩
 ·have r:(λb=>ci b/\¬ci b)=ci:=by
   funext b;exact propext ⟨λh=>h.1,λh=>h.elim⟩
  rw[r]
  suffices h:WK PR 241 Wg true rd (j7 PR 241 Wg Ch n rd val End z n (λ_=>false)) ci (KS pc oc Wg Ch ⟨pb,0,none⟩ rd Q) (G (gT.at (sE e pc oc Wg n x5 undef undef (.int .i64 n) x24 x25 x26 x27 x28 (.func (.func 191) #[] #[.pointer (some ⟨Wg,0,none⟩),.pointer (some ⟨oc,0,none⟩)]) undef undef undef undef undef undef undef undef undef undef undef undef undef undef undef undef undef undef)
   [.inRegion nL [],.code ((Go.Code.region 12 jm false).seq (jF.seq ie))]) cs)from h w l
  refine WK.ctl a rfl (λ_=>stepG_region_end) ?_;refine WK.ctl a rfl (λ_=>stepG_seq) ?_;exact c _ _ _ _ _ _ _ _
end Go.Proofs.W
namespace Go.Proofs.W
open Go.Conc Go.ck Go.ck.Cr Go.ck.Wg Go.RowKit Go.Conc.Lib Go.ConcR.Gen
def iS:Value:=.agg #[.slice none 0 0,.int .i64 0,.int .i64 0,.bool false]
noncomputable def i199:TypeInfo:=(PR.info? 199).getD default
theorem BQ:PR.info? 199=some i199:=by kernel_rfl
theorem H8:i199.size=4:=by kernel_rfl
theorem sF:i199.bytes=48:=by kernel_rfl
theorem BR:i199.zero=some iS:=by kernel_rfl
theorem xR:PR.underlying 248=some (.slice 199):=by kernel_rfl
theorem H9{n:Nat}(a:n<=65536)(w:World):(Instr.makeSlice 248 (.int .i64 n) (.int .i64 n)).run PR w=.ok (.slice (some ⟨w.heap.size,0,none⟩) n n) (w.alloc (.cells (madeCells iS.cells (n*4)) 199)):=by have:=run_make (P:=PR) w 248 199 i199 iS xR BQ BR .i64 .i64 (n:Int) (n:Int) (by omega) (by omega) (by rw[sF];omega) (by omega);simpa[H8]using this
theorem Fv{n:Nat}(a:n<=65536)(w:World):(Instr.makeSlice 248 (.int .i64 n) (.int .i64 n)).events PR w #[]=#[]:=
 events_make (P:=PR) w 248 199 i199 iS xR BQ BR .i64 .i64 (n:Int) (n:Int) (by omega) (by omega) (by rw[sF];omega) (by omega) (by rw[sF];omega) #[]
end Go.Proofs.W
