/- Laws that the proof needs, part 4. Conditions: none. -/
import Derived.Conc.Beside
import Derived.Conc.JoinTrace
import Derived.Test.YteeagjkaflglpaaGreatX03
set_option maxRecDepth 100000
set_option maxHeartbeats 8000000
set_option linter.all false
namespace Go.cF
open Go.Conc
open Go.ConcN (sumTo upd sumTo_upd upd_ne upd_same)
def nU(X:Nat->Prop):Loc->Prop
 | .cell a=>X a.block
 | .obj r=>X r
 |_=>False
def qq(v u:cd):Ta:=λj q=>if j<v.drawn then v.tape j q else u.tape (u.drawn+(j-v.drawn)) q
def Bm(v u:cd):Below v (qq v u):=λj a=>by funext q;simp[qq,a]
theorem WR.qq{ρ:cR}{v u:cd}(h:HR ρ v u):WR ρ (cI v (qq v u)) u:=
 ⟨h.obj,h.low,λj q=>by show Go.cF.qq v u (v.drawn+j) q=_;unfold Go.cF.qq;rw[cr (by omega)];congr 2;omega⟩
def GV{ρ:cR}{v:cd}{X:Nat->Prop}{n m:Nat}(k:∀b c,ρ.r b c->¬X c)(l:∀c,X c->c<n)(o:∀b c,ρ.r b c->c<m){e:Event}(h:VZ ρ v n m e):EvL (nU X) m e:=by rcases h with⟨a,i,b,rfl,g,_,_⟩|⟨r,i,b,rfl,g,_⟩|⟨a,i,rfl,p,j⟩|⟨r,i,rfl,p,j⟩|rfl;refine⟨λx d f=>?_,by simp,by simp,o _ _ g⟩;simp only[MemAct.ofEvent,MemAct.touch?,fI]at d;subst d;exact absurd f (k _ _ g);refine⟨λx d f=>?_,by simp,by simp,by simpa[MemAct.ofEvent,MemAct.low,Loc.low]using o _ _ g⟩;simp only[MemAct.ofEvent,MemAct.touch?,fI]at d;subst d;exact absurd f (k _ _ g);refine⟨λx d f=>?_,by simp,by simp,j⟩;simp only[MemAct.ofEvent,MemAct.touch?,fI]at d;subst d;have:=l _ f;omega;refine⟨λx d f=>?_,by simp,by simp,by simpa[MemAct.ofEvent,MemAct.low,Loc.low]using j⟩;simp only[MemAct.ofEvent,MemAct.touch?,fI]at d;subst d;have:=l _ f;omega;refine⟨λx d f=>?_,by simp,by simp,trivial⟩;simp[MemAct.ofEvent,MemAct.touch?]at d
structure Eb(P:cf)(fs:Array Func)(w0:cd)(ρ:cR)(X:Nat->Prop)(c:pA)(gs:Array cj)(a:cj)(w:cd)(t:Trace)(q:Nat->Nat):Prop where
 inv:Inv P c
 good:Good P ρ
 same:ρ.fs=fs
 at0:gs[0]? =some a
 gor:qB P ρ [] (G c.fr c.cl) a
 heap:HR ρ c.v w
 leavers:Leavers (P.ir fs) t gs q
 past:Past (nU X) w.heap.size t
 low:∀b,X b->b<w.heap.size
 apart:∀b c',ρ.r b c'->¬X c'
 old:∀b c',ρ.r b c'->c'<w0.heap.size->wN c.v b
 grown:w0.heap.size<=w.heap.size
 kept:∀c',c'<w0.heap.size->w.heap[c']? =w0.heap[c']?
 world:w.tape=w0.tape/\w.os=w0.os/\w.output=w0.output
 holes:(∀f,ρ.hole f=true->P.funcs[f]?≠fs[f]?)/\ρ.dim=false/\¬ρ.Def
inductive Path (P:cf) (Stop:Frame->List Frame->cd->Prop):pA->pA->Prop
 |one {c c1:pA} {T:Ta} {es:Array Event} (hn:¬Stop c.fr c.cl c.v) (hT:Below c.v T) (e:stepG P true (G c.fr c.cl) (cI c.v T)=.go (G c1.fr c1.cl) c1.v es):Path P Stop c c1
 |cons {c c1 c2:pA} {T:Ta} {es:Array Event} (hn:¬Stop c.fr c.cl c.v) (hT:Below c.v T) (e:stepG P true (G c.fr c.cl) (cI c.v T)=.go (G c1.fr c1.cl) c1.v es) (h:Path P Stop c1 c2):Path P Stop c c2
def Reach.Mm{P:cf}{a:Frame->List Frame->cd->Prop}{M:pA->Prop}(k:∀c,a c.fr c.cl c.v->M c) (o:∀c,Reach P a c->¬a c.fr c.cl c.v->(∀c',Path P a c c'->M c')->M c):∀c,Reach P a c->M c:=by
 intro c p;have g:Reach P a c/\M c/\∀c',Path P a c c'->Reach P a c'/\M c':=by
  induction p with
  | @here c h=>
   refine⟨.here h,k c h,λc' d=>?_⟩;cases d with
   |one f _ _=>exact absurd h f
   |cons f _ _ _=>exact absurd h f
  | @next c i q l=>
   have m:Reach P a c:=.next i q;have b:∀c',Path P a c c'->Reach P a c'/\M c':=by
    intro c' d;cases d with
    |one f j e=>
     have:=l _ _ _ j e;exact⟨this.1,this.2.1⟩
    |cons f j e d=>
     have:=l _ _ _ j e;exact this.2.2 _ d
   refine⟨m,?_,b⟩;by_cases n:a c.fr c.cl c.v;exact k c n;exact o c m n λc' d=>(b c' d).2
 exact g.2.1
section
variable{P:cf}{fs:Array Func}{w0:cd}
theorem Eb.step{i:Frame->List Frame->cd->Prop}(R:∀fr cl v,i fr cl v->cl≠[]){ρ:cR}{X:Nat->Prop}{c:pA}{M:Array cj}{a:cj}{w:cd}{t:Trace}{q:Nat->Nat}(h:Eb P fs w0 ρ X c M a w t q)(C:dC P ρ c.fr a.frame) (S:Reach P i c)(D:¬i c.fr c.cl c.v)(d:Nat):∃l s B w1 es,Path P i c l/\stepG (P.ir fs) true a (w.at d)=.go B w1 es/\fe ρ s (cI c.v (qq c.v (w.at d))) (w.at d) l.v w1 es/\Eb P fs w0 s X l ((M.map (woken (P.ir fs) a B w1)).setIfInBounds 0 B) B w1 (t++MemOp.ofEvents 0 a.frame.fn a.frame.place es) q:=by
 have T:=h.same;subst T;have hw:WR ρ (cI c.v (qq c.v (w.at d))) (w.at d):=WR.qq ⟨h.heap.obj,h.heap.low⟩;have U:=Bm c.v (w.at d);have hs:=GU h.good hw h.gor C true true;have N:=h.inv.cI (qq c.v (w.at d));cases S with
 |here h=>exact absurd h D
 |next p O=>
  obtain⟨l,V,e⟩:=p _ U;have W:=O _ l V U e;have hp:Path P i c l:=.one D U e;have E:Inv P l:=by
   rcases N.step with⟨o,w',es,u⟩|⟨g1,v1,es,u,k⟩|⟨ad,ae,v1,es,u,F⟩;rw[show stepG P true (G c.fr c.cl) (cI c.v (qq c.v (w.at d)))=_ from u]at e;cases e;rw[show stepG P true (G c.fr c.cl) (cI c.v (qq c.v (w.at d)))=_ from u]at e;injection e with Y Z e3;subst Y;exfalso;have aa:=k;obtain⟨k1,k2,k0,k3,k4⟩:=k;cases W with
   |here h=>exact R _ _ _ h k3
   |next p O=>
    obtain⟨c2,af,H⟩:=p l.v.tape λ_ _=>rfl;obtain⟨o,w',z,ab⟩:=aa.ended (P:=P) true (cI l.v l.v.tape);rw[ab]at H;cases H
   rw[show stepG P true (G c.fr c.cl) (cI c.v (qq c.v (w.at d)))=_ from u]at e;injection e with Y Z e3;injection Y with e4 e5;obtain⟨fr,cl,v⟩:=l;simp only at Z e4 e5;subst Z e4 e5;exact F
  rw[e]at hs;rcases hs with k|⟨s,B,w1,z,u,m,hg⟩;exfalso;have:=E.callers;exact this k.2.2.2.1;refine⟨l,s,B,w1,z,hp,u,m,E,h.good.mono m.le,m.le.f.symm,?_,hg,m.rel.hr,?_,?_,λb hb=>dl (h.low b hb) m.usize,λb n r I=>?_,λb n r J=>?_,cJ h.grown m.usize,λn J=>?_,⟨m.tape.trans h.world.1,m.os.trans h.world.2.1,m.output.trans h.world.2.2⟩,⟨λf C=>h.holes.1 f (by rw[m.le.h];exact C),m.le.d▸h.holes.2.1,λ⟨f,C⟩=>h.holes.2.2 ⟨f,by rw[m.le.w];exact C⟩⟩⟩;have K:0<M.size:=(eP.1 h.at0).1;simp[K];refine⟨λj x Q I=>?_,λj Q=>?_⟩;have ac:0≠j:=by omega
  rw[eY ac,qF]at I;obtain⟨y,hy,rfl⟩:=ij.1 I;have hq:=h.leavers.old j y Q hy;rw[woken_quitsD hq,Deaf_other t (by omega) _ (λop A=>by obtain⟨e,_,rfl⟩:=Go.Conc.mem_ofEvents A;rfl)];exact hq;have K:0<M.size:=(eP.1 h.at0).1;rw[Deaf_other t (g:=j) (g':=0) (by simp at Q;omega) (MemOp.ofEvents 0 a.frame.fn a.frame.place z) (λop A=>by obtain⟨e,_,rfl⟩:=Go.Conc.mem_ofEvents A;rfl)];exact h.leavers.above j (by simpa using Q);have L:w.heap.size<=w1.heap.size:=m.usize;refine(h.past.mono L).own λe he=>GV h.apart h.low (λb c S=>?_) (m.evs e he);exact dl (hw.TP S) L;rcases m.fresh b n r with p|⟨_,p⟩;exact h.apart b n p I;have:=h.low n I;have O:w.heap.size<=n:=p;omega;rcases m.fresh b n r with p|⟨_,p⟩;have N:wN (cI c.v (qq c.v (w.at d))) b:=h.old b n p J;exact N.keep (m.tX b N);have O:w.heap.size<=n:=p;have:=h.grown;omega;rw[m.same n (dl J h.grown) λb r=>h.old b n r J];exact h.kept n J
end
section
variable{P:cf}{fs:Array Func}{w0:cd}{Stop:Frame->List Frame->cd->Prop}
def Mn(P:cf)(fs:Array Func)(w0:cd)(Stop:Frame->List Frame->cd->Prop):Prop:=
 ∀(e:cR) (X:Nat->Prop) (c:pA) (i:Array cj) (a:cj) (w:cd) (n:Option (Nat×Nat)) (t:Trace) (q:Nat->Nat) (f:cm) (j b:Array ce),Eb P fs w0 e X c i a w t q->Reach P Stop c->e.S f=true->e.hole f=true->eT e j b->c.fr=Frame.enter P f j .normal->a.frame=Frame.enter (P.ir fs) f b .normal->∃(N:Nat) (d:Array cj) (k:cd) (g:Option (Nat×Nat)) (l:Trace) (o:Nat->Nat) (m:pA) (h:cR) (p:Nat->Prop) (r:cj),runNT (P.ir fs) N (crowd i w n) t=(.next (crowd d k g),l)/\Eb P fs w0 h p m d r k l o/\Path P Stop c m
def runNT_add{Q:cf}{N d:Nat}{m e a:Machine}{t f b:Trace}(h:runNT Q N m t=(.next e,f))(i:runNT Q d e f=(.next a,b)):runNT Q (N+d) m t=(.next a,b):=by
 induction N generalizing m t with
 |zero=>
  simp only[runNT]at h;injection h with c g;injection c with c;subst c g;rw[cB];exact i
 |succ N j=>
  rw[show N+1+d=(N+d)+1 from by omega];simp only[runNT]at h⊢;cases k:stepT Q m with
  |mk s l=>
   rw[k]at h;cases s with
   |next n=>exact j h
   |ended o w=>simp only at h;injection h with c g;cases c
def jY{Q:cf}{m a:Machine}{t:Trace}{ops:Array MemOp}(h:stepT Q m=(.next a,ops)):runNT Q 1 m t=(.next a,t++ops):=by simp only[runNT,h]
def Eb.pick{ρ:cR}{X:Nat->Prop}{c:pA}{f:Array cj}{a:cj}{w:cd}{t:Trace}{q:Nat->Nat}(h:Eb P fs w0 ρ X c f a w t q)(sl:Option (Nat×Nat)):(∃d b,stepT (P.ir fs) (crowd f w sl)=runT (P.ir fs) (crowd f (w.at d) b) 0)\/∃d b o ops N,stepT (P.ir fs) (crowd f w sl)=(.next (crowd o (w.at d) b),ops)/\Eb P fs w0 ρ X c o a (w.at d) (t++ops) N/\sumTo o.size N+1=sumTo f.size q:=by
 have l:a.status=.running:=h.gor.st.2;have H:=h.at0;have D:=h.leavers;have I:∀g∈f,awake g:=by
  intro g u;obtain⟨i,v,rfl⟩:=Array.mem_iff_getElem.1 u;rcases nS i with rfl|m;have:f[0]=a:=by simpa[ji v]using H
  rw[this];exact awake_of (.inl l);exact awake_of ((D.old i _ m (ji v)).status.elim .inl λx=>.inr (.inr x))
 obtain⟨i,g,d,b,v,u,z⟩:=crowd_pick (P:=P.ir fs) (w:=w) (sl:=sl) I ⟨0,a,H,l⟩;rcases nS i with rfl|m;exact .inl ⟨d,b,z⟩;have E:=D.old i g m v;have J:(i==0)=false:=by simp;omega
 have A:i<f.size:=(eP.1 v).1;cases p:q i with
 |zero=>rw[p]at E;rw[E.1]at u;cases u
 |succ k=>
  rw[p]at E;rcases E with⟨Q,_⟩|⟨_,g',R,S,B,K⟩;rw[Q]at u;cases u;have r:=runT_crowd_go (P:=P.ir fs) (sl:=b) (i:=i) v (by rw[J];exact B (w.at d));have L:((f.map (woken (P.ir fs) g g' (w.at d))).setIfInBounds i g').size=f.size:=by simp
  have O:sumTo f.size (upd q i k)+(k+1)=sumTo f.size q+k:=by have:=sumTo_upd q k id A;simpa[p]using this
  refine .inr ⟨d,b,_,_,upd q i k,z.trans r,⟨h.inv,h.good,h.same,?_,h.gor,⟨h.heap.obj,h.heap.low⟩,⟨λj x F G=>?_,λj F=>?_⟩,h.past.mute (by omega) S,h.low,h.apart,h.old,h.grown,h.kept,h.world,h.holes⟩,by rw[L];omega⟩;have M:i≠0:=by omega
  rw[eY M,qF,H];simp[woken_run l];by_cases n:i=j;subst n;rw[jE (by simpa using A)]at G;obtain rfl:=cE G;rw[upd_same,Deaf_own];exact K;rw[eY n,qF]at G;obtain⟨y,T,rfl⟩:=ij.1 G;have C:=D.old j y F T;rw[woken_quitsD C,upd_ne q k (fO n),Deaf_other t n _ (λU s=>by obtain⟨e,_,rfl⟩:=Go.Conc.mem_ofEvents s;rfl)];exact C;rw[Deaf_other t (g:=j) (g':=i) (by simp at F;omega) (MemOp.ofEvents i g.frame.fn g.frame.place R) (λU s=>by obtain⟨e,_,rfl⟩:=Go.Conc.mem_ofEvents s;rfl)];exact D.above j (by simpa using F)
def Path.then{c a b:pA}(h:Path P Stop c a)(k:b=a\/Path P Stop a b):Path P Stop c b:=by
 rcases k with rfl|k;exact h;induction h with
 |one d f e=>exact .cons d f e k
 |cons d f e _ g=>exact .cons d f e (g k)
theorem lead(SD:∀fr cl v,Stop fr cl v->cl≠[])(hole:Mn P fs w0 Stop):∀c,Reach P Stop c->∀(ρ:cR) (X:Nat->Prop) (gs:Array Goroutine) (a:Goroutine) (w:World) (sl:Option (Nat×Nat)) (t:Trace) (q:Nat->Nat),Eb P fs w0 ρ X c gs a w t q->∃(N:Nat) (um:Array Goroutine) (w':World) (un:Option (Nat×Nat)) (t':Trace) (q':Nat->Nat) (c':pA) (mV:cR) (X':Nat->Prop) (a':Goroutine),runNT (P.ir fs) N (crowd gs w sl) t=(.next (crowd um w' un),t')/\Eb P fs w0 mV X' c' um a' w' t' q'/\Stop c'.fr c'.cl c'.v/\(c'=c\/Path P Stop c c'):=by
 intro c hc
 refine Reach.Mm (M:=λc=>∀(ρ:cR) (X:Nat->Prop) (gs:Array Goroutine) (a:Goroutine) (w:World) (sl:Option (Nat×Nat)) (t:Trace) (q:Nat->Nat),
  Eb P fs w0 ρ X c gs a w t q->∃(N:Nat) (um:Array Goroutine) (w':World) (un:Option (Nat×Nat)) (t':Trace) (q':Nat->Nat) (c':pA) (mV:cR) (X':Nat->Prop) (a':Goroutine),runNT (P.ir fs) N (crowd gs w sl) t=(.next (crowd um w' un),t')/\Eb P fs w0 mV X' c' um a' w' t' q'/\Stop c'.fr c'.cl c'.v/\(c'=c\/Path P Stop c c')) ?_ ?_ c hc
 ·intro c hs ρ X gs a w sl t q hI;exact⟨0,gs,w,sl,t,q,c,ρ,X,a,rfl,hI,hs,.inl rfl⟩
 ·intro c hr Xx ih;have Vs:∀{c1 c2:pA},Path P Stop c c1->(c2=c1\/Path P Stop c1 c2)->Path P Stop c c2:=λh k=>h.then k;have main:∀(M:Nat) (ρ:cR) (X:Nat->Prop) (gs:Array Goroutine) (a:Goroutine) (w:World) (sl:Option (Nat×Nat)) (t:Trace) (q:Nat->Nat),sumTo gs.size q<=M->
   Eb P fs w0 ρ X c gs a w t q->∃(N:Nat) (um:Array Goroutine) (w':World) (un:Option (Nat×Nat)) (t':Trace) (q':Nat->Nat) (c':pA) (mV:cR) (X':Nat->Prop) (a':Goroutine),runNT (P.ir fs) N (crowd gs w sl) t=(.next (crowd um w' un),t')/\Eb P fs w0 mV X' c' um a' w' t' q'/\Stop c'.fr c'.cl c'.v/\(c'=c\/Path P Stop c c'):=by
   intro M;induction M with
   |zero=>
    intro ρ X gs a w sl t q hM hI;have SH:=hI.gor;have yH:=SH.fr;generalize GT:(G c.fr c.cl).frame=fr at yH;generalize JS:a.frame=oQ at yH;cases yH with
    |fr hf=>
     rcases hI.pick sl with⟨d,un,JU⟩|⟨d,un,um,ops,q',_,_,hs⟩
     ·obtain⟨c1,mV,a1,w1,es,hp,e,m,Uk⟩:=hI.step SD (by rw[JS];subst GT;exact hf) hr Xx d;obtain⟨N,Po,w2,Pp,t2,q2,c2,Pq,X2,a2,r1,r2,r3,r4⟩:=ih c1 hp mV X _ a1 w1 un _ q Uk;have h1:=JU.trans (runT_crowd_go (P:=P.ir fs) (sl:=un) (i:=0) hI.at0 (show stepG (P.ir fs) (0==0) a (w.at d)=_ from e));exact⟨1+N,Po,w2,Pp,t2,q2,c2,Pq,X2,a2,runNT_add (jY h1) r1,r2,r3,.inr (Vs hp r4)⟩
     ·omega
    | @hole f hS hh xs xs' hx=>
     have e2:a.frame=Frame.enter (P.ir fs) f xs' .normal:=by rw[JS,hI.same]
     obtain⟨N,um,w',un,t',q',c',mV,X',a',r1,r2,r3⟩:=hole ρ X c gs a w sl t q f xs xs' hI hr hS hh hx GT e2;obtain⟨N2,Po,w2,Pp,t2,q2,c2,Pq,X2,a2,s1,s2,s3,s4⟩:=ih c' r3 mV X' um a' w' un t' q' r2;exact⟨N+N2,Po,w2,Pp,t2,q2,c2,Pq,X2,a2,runNT_add r1 s1,s2,s3,.inr (Vs r3 s4)⟩
   |succ M YG=>
    intro ρ X gs a w sl t q hM hI;have SH:=hI.gor;have yH:=SH.fr;generalize GT:(G c.fr c.cl).frame=fr at yH;generalize JS:a.frame=oQ at yH;cases yH with
    |fr hf=>
     rcases hI.pick sl with⟨d,un,JU⟩|⟨d,un,um,ops,q',JU,Uk,hs⟩
     ·obtain⟨c1,mV,a1,w1,es,hp,e,m,Uk⟩:=hI.step SD (by rw[JS];subst GT;exact hf) hr Xx d;obtain⟨N,Po,w2,Pp,t2,q2,c2,Pq,X2,a2,r1,r2,r3,r4⟩:=ih c1 hp mV X _ a1 w1 un _ q Uk;have h1:=JU.trans (runT_crowd_go (P:=P.ir fs) (sl:=un) (i:=0) hI.at0 (show stepG (P.ir fs) (0==0) a (w.at d)=_ from e));exact⟨1+N,Po,w2,Pp,t2,q2,c2,Pq,X2,a2,runNT_add (jY h1) r1,r2,r3,.inr (Vs hp r4)⟩
     ·obtain⟨N,Po,w2,Pp,t2,q2,c2,Pq,X2,a2,r1,r2,r3,r4⟩:=YG ρ X um a (w.at d) un (t++ops) q' (by omega) Uk;exact⟨1+N,Po,w2,Pp,t2,q2,c2,Pq,X2,a2,runNT_add (jY JU) r1,r2,r3,r4⟩
    | @hole f hS hh xs xs' hx=>
     have e2:a.frame=Frame.enter (P.ir fs) f xs' .normal:=by rw[JS,hI.same]
     obtain⟨N,um,w',un,t',q',c',mV,X',a',r1,r2,r3⟩:=hole ρ X c gs a w sl t q f xs xs' hI hr hS hh hx GT e2;obtain⟨N2,Po,w2,Pp,t2,q2,c2,Pq,X2,a2,s1,s2,s3,s4⟩:=ih c' r3 mV X' um a' w' un t' q' r2;exact⟨N+N2,Po,w2,Pp,t2,q2,c2,Pq,X2,a2,runNT_add r1 s1,s2,s3,.inr (Vs r3 s4)⟩
  intro ρ X gs a w sl t q hI;exact main _ ρ X gs a w sl t q (Nat.le_refl _) hI
end
end Go.cF
namespace Go.cF
open Go.Conc (G)
structure dG(own rd:Nat->Prop)(L:cd->Prop)(w w1:cd):Prop where
 tape:w1.tape=w.tape
 os:w1.os=w.os
 output:w1.output=w.output
 size:w.heap.size<=w1.heap.size
 heap:∀b,b<w.heap.size->own b\/rd b->w1.heap[b]? =w.heap[b]?
 live:L w->L w1
theorem dG.refl(own rd:Nat->Prop)(L:cd->Prop)(w:cd):dG own rd L w w:=⟨rfl,rfl,rfl,cz _,λ_ _ _=>rfl,id⟩
theorem dG.trans{own rd:Nat->Prop}{L:cd->Prop}{a b c:cd}(h:dG own rd L a b)(k:dG own rd L b c):dG own rd L a c:=
 ⟨k.tape.trans h.tape,k.os.trans h.os,k.output.trans h.output,cJ h.size k.size,λx d e=>(k.heap x (dl d h.size) e).trans (h.heap x d e),k.live∘h.live⟩
theorem dG.at(own rd:Nat->Prop){L:cd->Prop}(a:∀w d,L w->L (w.at d))(w:cd)(d:Nat):dG own rd L w (w.at d):=⟨rfl,rfl,rfl,cz _,λ_ _ _=>rfl,a w d⟩
def EvW(own rd:Nat->Prop)(n m:Nat)(e:Event):Prop:=
 (∃a b,e=⟨.cell a,b,false⟩/\(own a.block\/(b=false/\rd a.block)\/(n<=a.block/\a.block<m)))\/
 (∃r b,e=⟨.obj r,b,false⟩/\(own r\/(n<=r/\r<m)))\/e=⟨.mark .noRoom,false,true⟩
structure LX(own rd:Nat->Prop)(w1 w':cd)(es:Array Event)(own':Nat->Prop):Prop where
 tape:w'.tape=w1.tape
 os:w'.os=w1.os
 output:w'.output=w1.output
 size:w1.heap.size<=w'.heap.size
 owns:∀b,own' b↔own b\/(w1.heap.size<=b/\b<w'.heap.size)
 same:∀b,b<w1.heap.size->¬own b->w'.heap[b]? =w1.heap[b]?
 evs:∀e∈es,EvW own rd w1.heap.size w'.heap.size e
inductive WT:Type
 |leaf
 |node (f:cd->WT)
inductive Way (P:cf) (main:Bool) (rd:Nat->Prop) (L:cd->Prop) (Stop:(Nat->Prop)->cj->cd->Prop):WT->(Nat->Prop)->cj->cd->Prop
 |here {τ:WT} {own:Nat->Prop} {g:cj} {w:cd} (h:∀w1,dG own rd L w w1->Stop own g w1):Way P main rd L Stop τ own g w
 |step {f:cd->WT} {own:Nat->Prop} {g:cj} {w:cd} (hs:g.status=.running)
  (h1:∀w1,dG own rd L w w1->∃g' w' es own',stepG P main g w1=.go g' w' es/\LX own rd w1 w' es own')
  (h2:∀w1 g' w' es own',dG own rd L w w1->stepG P main g w1=.go g' w' es->LX own rd w1 w' es own'->Way P main rd L Stop (f w1) own' g' w'):Way P main rd L Stop (.node f) own g w
theorem LX.unique{own rd:Nat->Prop}{w1 w':cd}{es a:Array Event}{o o':Nat->Prop}(h:LX own rd w1 w' es o)(k:LX own rd w1 w' a o'):o=o':=
 funext λb=>propext ((h.owns b).trans (k.owns b).symm)
section
variable{P:cf}{main:Bool}{rd:Nat->Prop}{L:cd->Prop}{Stop:(Nat->Prop)->cj->cd->Prop}{own:Nat->Prop}{g:cj}{w:cd}
theorem Way.rely{e:WT}{w1:cd}(h:Way P main rd L Stop e own g w)(c:dG own rd L w w1):Way P main rd L Stop e own g w1:=by
 cases h with
 |here h=>exact .here λa d=>h a (c.trans d)
 |step f i d=>exact .step f (λa k=>i a (c.trans k)) λa j l m b k=>d a j l m b (c.trans k)
theorem Way.mk(k:g.status=.running)(h:∀w1,dG own rd L w w1->∃g' w' es own' b,stepG P main g w1=.go g' w' es/\LX own rd w1 w' es own'/\Way P main rd L Stop b own' g' w'):∃b,Way P main rd L Stop b own g w:=by refine⟨.node λw1=>open Classical in if a:dG own rd L w w1 then Classical.choose (iu (iu (iu (iu (h w1 a)))))else .leaf,.step k (λw1 a=>?_) λw1 g' w' es own' a e c=>?_⟩;obtain⟨g',w',es,own',b,e,l,_⟩:=h w1 a;exact⟨g',w',es,own',e,l⟩;have d:=iu (iu (iu (iu (iu (h w1 a)))));rw[dif_pos a];generalize Classical.choose (iu (iu (iu (iu (h w1 a)))))=b at d;revert d;generalize Classical.choose (iu (iu (iu (h w1 a))))=i;generalize Classical.choose (iu (iu (h w1 a)))=m;generalize Classical.choose (iu (h w1 a))=r;generalize Classical.choose (h w1 a)=s;rintro⟨j,f,n⟩;rw[e]at j;injection j with o p q;subst o p q;rw[c.unique f];exact n
theorem Way.bind{a:(Nat->Prop)->cj->cd->Prop}{b:WT}(h:Way P main rd L Stop b own g w)(m:∀own g w,Stop own g w->∃b,Way P main rd L a b own g w):∃b,Way P main rd L a b own g w:=by
 induction h with
 | @here b own g w h=>exact m own g w (h w (.refl _ _ _ _))
 |step n o r p=>
  refine Way.mk n λd f=>?_;obtain⟨i,j,k,c,e,l⟩:=o d f;obtain⟨b,q⟩:=p d i j k c f e l;exact⟨i,j,k,c,b,e,l,q⟩
end
structure vM(ρ:cR)(v w:cd)(own rd:Nat->Prop):Prop where
 heap:HR ρ v w
 zone:∀b c',ρ.r b c'->own c'\/(rd c'/\wN v b)
theorem vM.rely{ρ:cR}{v w w1:cd}{own rd:Nat->Prop}{L:cd->Prop}(h:vM ρ v w own rd)(e:dG own rd L w w1):vM ρ v w1 own rd:=by refine⟨⟨λb d a=>?_,λc g=>h.heap.low c (cJ e.size g)⟩,h.zone⟩;obtain⟨o,i,j,f,k⟩:=h.heap.obj b d a;refine⟨o,i,j,?_,k⟩;rw[e.heap d (lt_of_heap f) ((h.zone b d a).imp id (·.1))];exact f
def Ec(P:cf)(Stop:Frame->List Frame->cd->Prop)(rd:Nat->Prop)(cs:List Frame)(ρ:cR)(own:Nat->Prop)(g:cj)(w:cd):Prop:=
 ∃c a,Stop c.fr c.cl c.v/\qB P a cs (G c.fr c.cl) g/\dC P a c.fr g.frame/\cR.Le ρ a/\vM a c.v w own rd/\Inv P c
theorem SI{P:cf}{main:Bool}{Stop:Frame->List Frame->cd->Prop}(O:∀fr cl v,Stop fr cl v->cl≠[]){rd:Nat->Prop}{L:cd->Prop}{cs:List Frame}{ρ0:cR}:∀c,Reach P Stop c->∀(ρ:cR) (own:Nat->Prop) (g:cj) (w:cd),Inv P c->Good P ρ->(∀f,ρ.S f=true->ρ.hole f=false)->cR.Le ρ0 ρ->qB P ρ cs (G c.fr c.cl) g->vM ρ c.v w own rd->∃Q,Way (P.ir ρ0.fs) main rd L (Ec P Stop rd cs ρ0) Q own g w:=by
 intro c hc;induction hc with
 | @here c h=>
  intro ρ own g w A R N u B T;have k:dC P ρ c.fr g.frame:=by
   have d:=B.fr;generalize k:(G c.fr c.cl).frame=fr at d;generalize D:g.frame=U at d;cases d with
   |fr V=>subst k;exact V
   |hole W E _=>rw[N _ W]at E;cases E
  exact⟨.leaf,.here λn X=>⟨c,ρ,h,B,k,u,T.rely X,A⟩⟩
 | @next c Y h2 ih=>
  intro ρ own g w A R N u B T;have k:dC P ρ c.fr g.frame:=by
   have d:=B.fr;generalize k:(G c.fr c.cl).frame=fr at d;generalize D:g.frame=U at d;cases d with
   |fr V=>subst k;exact V
   |hole W E _=>rw[N _ W]at E;cases E
  refine Way.mk B.st.2 λn X=>?_;have p:=T.rely X;have hw:WR ρ (cI c.v (qq c.v n)) n:=WR.qq p.heap;have Z:=Bm c.v n;have hs:=GU R hw B k true main;have aa:=A.cI (qq c.v n);obtain⟨x,F,e⟩:=Y _ Z;have ab:=h2 _ x F Z e;have H:Inv P x:=by
   rcases aa.step with⟨o,C,es,y⟩|⟨g1,v1,es,y,l⟩|⟨ai,aj,v1,es,y,I⟩;rw[show stepG P true (G c.fr c.cl) (cI c.v (qq c.v n))=_ from y]at e;cases e;rw[show stepG P true (G c.fr c.cl) (cI c.v (qq c.v n))=_ from y]at e;injection e with e1 e2 e3;subst e1;exfalso;have ac:=l;obtain⟨k1,k2,k0,k3,k4⟩:=l;cases ab with
   |here h=>exact O _ _ _ h k3
   |next Y h2=>
    obtain⟨c2,ak,J⟩:=Y x.v.tape λ_ _=>rfl;obtain⟨o,C,K,ad⟩:=ac.ended (P:=P) true (cI x.v x.v.tape);rw[ad]at J;cases J
   rw[show stepG P true (G c.fr c.cl) (cI c.v (qq c.v n))=_ from y]at e;injection e with e1 e2 e3;injection e1 with e4 e5;obtain⟨fr,cl,v⟩:=x;simp only at e2 e4 e5;subst e2 e4 e5;exact I
  rw[e]at hs;rcases hs with l|⟨M,a1,C,K,y,m,ae⟩;exfalso;have:=H.callers;exact this l.2.2.2.1;rw[<-u.f]at y;let q:Nat->Prop:=λb=>own b\/(n.heap.size<=b/\b<C.heap.size);have af:vM M x.v C q rd:=by refine⟨m.rel.hr,λb c' i=>?_⟩;rcases m.fresh b c' i with h|⟨_,h⟩;rcases p.zone b c' h with h|⟨h,j⟩;exact .inl (.inl h);have t:wN (cI c.v (qq c.v n)) b:=j;exact .inr ⟨h,t.keep (m.tX b t)⟩;exact .inl (.inr ⟨h,m.rel.TP i⟩)
  obtain⟨Q,ag⟩:=ih _ x F Z e M q a1 C H (R.mono m.le) (by rw[<-m.le.s,<-m.le.h];exact N) (u.trans m.le) ae af;refine⟨a1,C,K,q,Q,y,⟨m.tape,m.os,m.output,m.usize,λb=>l8,λb hb ah=>m.same b hb λb0 i=>?_,λe he=>?_⟩,ag⟩;rcases p.zone b0 b i with h|⟨_,h⟩;exact absurd h ah;exact h;rcases m.evs e he with⟨a,z,b,rfl,i,_,A⟩|⟨r,z,b,rfl,i,A⟩|⟨a,z,rfl,hn,hm⟩|⟨r,z,rfl,hn,hm⟩|rfl;refine .inl ⟨a,z,rfl,?_⟩;rcases p.zone b a.block i with h|⟨h,j⟩;exact .inl h;cases z with
  |true=>exact absurd (show wN (cI c.v (qq c.v n)) b from j) (A rfl)
  |false=>exact .inr (.inl ⟨rfl,h⟩)
  refine .inr (.inl ⟨r,z,rfl,?_⟩);rcases p.zone b r i with h|⟨h,j⟩;exact .inl h;exact absurd (show wN (cI c.v (qq c.v n)) b from j) A;exact .inl ⟨a,z,rfl,.inr (.inr ⟨hn,hm⟩)⟩;exact .inr (.inl ⟨r,z,rfl,.inr ⟨hn,hm⟩⟩);exact .inr (.inr rfl)
end Go.cF
namespace Go.cF
open Go.Conc
structure qs where
 own:Nat->Nat->Prop
 rd:Nat->Nat->Prop
 wg:Nat->Prop
 done:Nat->Prop
def blk:Loc->Option Nat
 | .cell a=>some a.block
 | .obj r=>some r
 |_=>none
def V8(G:qs)(g n m:Nat)(e:Event):Prop:=
 (∀x,(MemAct.ofEvent e).touch?=some x->∀b,blk x.loc=some b->G.own g b\/(G.rd g b/\x.write=false)\/(n<=b/\b<m)\/(G.wg b/\x.kind=.atomic))/\
 (∀x,(MemAct.ofEvent e).touch?=some x->x.loc.isMemory=true->∃b,blk x.loc=some b)/\
 (MemAct.ofEvent e).low m
structure ft(G:qs)(n:Nat)(t:Trace):Prop where
 clean:∀said,¬Race said t
 own:∀i a g b,touchAt t i=some a->blk a.loc=some b->G.own g b->Knows t g i
 rd:∀i a g b,touchAt t i=some a->blk a.loc=some b->G.rd g b->a.write=true->Knows t g i
 wg:∀i a b,touchAt t i=some a->blk a.loc=some b->G.wg b->a.kind=.atomic
 low:∀op∈t,op.act.low n
theorem Bn{x:MemAct}{a:Touch}{n b:Nat}(h:x.low n)(c:x.touch?=some a)(f:blk a.loc=some b):b<n:=by
 cases x with
 |access e=>
  simp only[MemAct.touch?,Option.some.injEq]at c
  subst c
  obtain⟨d,g,i⟩:=e
  cases d<;>simp_all[blk,MemAct.low,Loc.low]
 |mark m=>
  cases m<;>simp only[MemAct.touch?]at c<;>first|(cases c;done)|skip
  all_goals
   simp only[Option.some.injEq]at c
   subst c
   simp_all[blk,MemAct.low]
 |_=>simp[MemAct.touch?]at c
structure qs.Fits(G:qs)(n:Nat):Prop where
 own:∀g b,G.own g b->b<n
 rd:∀g b,G.rd g b->b<n
 wg:∀b,G.wg b->b<n
 one:∀g g' b,G.own g b->G.own g' b->g=g'
 still:∀g g' b,G.own g b->¬G.rd g' b
 ownwg:∀g b,G.own g b->¬G.wg b
 rdwg:∀g b,G.rd g b->¬G.wg b
def qs.grow(G:qs)(g n m:Nat):qs:={G with own:=λa b=>G.own a b\/(a=g/\n<=b/\b<m)}
theorem qs.Fits.grow{G:qs}{n m:Nat}(h:G.Fits n)(e:n<=m)(g:Nat):(G.grow g n m).Fits m:=by refine⟨λf b d=>?_,λf b d=>dl (h.rd f b d) e,λb d=>dl (h.wg b d) e,λi j b a c=>?_,λi j b a c=>?_,λi b a c=>?_,h.rdwg⟩;rcases d with d|d;exact dl (h.own f b d) e;exact d.2.2;rcases a with a|a<;>rcases c with c|c;exact h.one _ _ _ a c;have:=h.own _ _ a;omega;have:=h.own _ _ c;omega;rw[a.1,c.1];rcases a with a|a;exact h.still _ _ _ a c;have:=h.rd _ _ c;omega;rcases a with a|a;exact h.ownwg _ _ a c;have:=h.wg _ c;omega
def ft.step{G:qs}{g n m:Nat}{t:Trace}{fn:cm}{pos:String}{es:Array Event}(h:ft G n t)(w:G.Fits n)(R:n<=m)(E:∀e∈es,V8 G g n m e):ft (G.grow g n m) m (t++MemOp.ofEvents g fn pos es):=by
 have p:∀f∈MemOp.ofEvents g fn pos es,f.g=g/\∃e∈es,f.act=.ofEvent e:=by intro f c;obtain⟨e,d,rfl⟩:=Go.Conc.mem_ofEvents c;exact⟨rfl,e,d,rfl⟩
 have F:∀i a b,touchAt t i=some a->blk a.loc=some b->b<n:=by intro i a b q o;obtain⟨f,c,z⟩:=touch_of q;exact Bn (h.low f (mem_of_getElem? c)) z o
 have B:∀i a,touchAt (t++MemOp.ofEvents g fn pos es) i=some a->touchAt t i=some a\/(∃f,(t++MemOp.ofEvents g fn pos es)[i]? =some f/\f.g=g/\∃e∈es,(MemAct.ofEvent e).touch?=some a):=by intro i a q;obtain⟨f,c,z⟩:=touch_of q;rcases getElem?_append_cases c with⟨_,H⟩|⟨_,I⟩;exact .inl (by rw[touchAt_of H];exact z);obtain⟨C,e,d,l⟩:=p f I;exact .inr ⟨f,c,C,e,d,by rw[<-l];exact z⟩
 have J:∀{i f},(t++MemOp.ofEvents g fn pos es)[i]? =some f->f.g=g->Knows (t++MemOp.ofEvents g fn pos es) g i:=by intro i f c C;have:=knows_own c;rwa[C]at this
 refine⟨λK=>noRace_append (h.clean K) (λf c=>(p f c).1) λi a q f c b o L=>?_,λi a Q b q o r=>?_,λi a Q b q o y s=>?_,λi a b q o s=>?_,λf c=>?_⟩;obtain⟨_,e,d,l⟩:=p f c;obtain⟨S,T,_⟩:=E e d;rw[l]at o;obtain⟨k,M⟩:=T b o (L.1▸L.2.1);have A:blk a.loc=some k:=by rw[L.1];exact M
 rcases S b o k M with r|⟨y,s⟩|D|⟨s,N⟩;exact h.own i a g k q A r;refine h.rd i a g k q A y ?_;rcases L.2.2.1 with x|x;exact x;rw[s]at x;cases x;have:=F i a k q A;omega;have O:=h.wg i a k q A s;rcases L.2.2.2 with x|x|⟨_,x,_⟩;rw[O]at x;cases x;rw[N]at x;cases x;rw[O]at x;cases x;rcases B i a q with j|⟨f,c,C,e,d,u⟩;rcases r with r|r;exact(h.own i a Q b j o r).app _;have:=F i a b j o;omega;have M:=J c C;rcases r with r|r;rcases(E e d).1 a u b o with v|⟨y,_⟩|D|⟨s,_⟩;rw[w.one Q g b r v];exact M;exact absurd y (w.still _ _ _ r);have:=w.own _ _ r;omega;exact absurd s (w.ownwg _ _ r);rw[r.1];exact M;rcases B i a q with j|⟨f,c,C,e,d,u⟩;exact(h.rd i a Q b j o y s).app _;rcases(E e d).1 a u b o with v|⟨_,P⟩|D|⟨P,_⟩;exact absurd y (w.still _ _ _ v);rw[P]at s;cases s;have:=w.rd _ _ y;omega;exact absurd P (w.rdwg _ _ y);rcases B i a q with j|⟨f,c,C,e,d,u⟩;exact h.wg i a b j o s;rcases(E e d).1 a u b o with v|⟨y,_⟩|D|⟨_,P⟩;exact absurd s (w.ownwg _ _ v);exact absurd s (w.rdwg _ _ y);have:=w.wg _ s;omega;exact P;rcases DV.1 c with c|c;exact MemAct.low_mono R (h.low f c);obtain⟨_,e,d,l⟩:=p f c;rw[l];exact(E e d).2.2
def ft.Ed{G G':qs}{n:Nat}{t:Trace}(h:ft G n t) (e:∀g b,G'.own g b->∀i a,touchAt t i=some a->blk a.loc=some b->Knows t g i) (f:∀g b,G'.rd g b->∀i a,touchAt t i=some a->blk a.loc=some b->a.write=true->Knows t g i) (j:∀b,G'.wg b->∀i a,touchAt t i=some a->blk a.loc=some b->a.kind=.atomic):ft G' n t:=
 ⟨h.clean,λi a g b c d k=>e g b k i a c d,λi a g b c d k w=>f g b k i a c d w,λi a b c d k=>j b k i a c d,h.low⟩
def ft.mute{G:qs}{n g:Nat}{t u:Trace}(h:ft G n t)(s:∀d∈u,d.g=g)(r:∀d∈u,d.act.touch?=none)(v:∀d∈u,d.act.low n):ft G n (t++u):=by
 have f:∀i a,touchAt (t++u) i=some a->touchAt t i=some a:=by intro i a j;obtain⟨d,c,l⟩:=touch_of j;rcases getElem?_append_cases c with⟨_,m⟩|⟨_,o⟩;rw[touchAt_of m];exact l;rw[r d o]at l;cases l
 refine⟨λp=>noRace_append (h.clean p) s λi a _ d c b e _=>(by rw[r d c]at e;cases e),λi a q b j e k=>(h.own i a q b (f i a j) e k).app _,λi a q b j e k w=>(h.rd i a q b (f i a j) e k w).app _,λi a b j e k=>h.wg i a b (f i a j) e k,λd c=>?_⟩;rcases DV.1 c with c|c;exact h.low d c;exact v d c
def Knows.pass{t:Trace}{g g' i p q:Nat}{x y:MemOp}(h:Knows t g i){u:Trace}(b:(t++u)[p]? =some x)(a:t.size<=p)(c:x.g=g)(d:(t++u)[q]? =some y)(e:y.g=g') (f:HappensBefore (t++u) p q):Knows (t++u) g' i:=⟨q,y,d,e,.inr ((h.hb_new a b c).trans f)⟩
def GW{t:Trace}{g i:Nat}{y:MemOp}(a:t[i]? =some y)(h:y.act≠ .mark .disable/\y.act≠ .mark .enable):t.deaf g (i+1)=t.deaf g i:=by rw[deaf_succ a];unfold deafStep;obtain⟨d,e,b,c⟩:=y;simp only at h;split<;>simp_all
def jy{t:Trace}{u:Array MemOp}(k:Nat):(t++u)[t.size+k]? =u[k]? :=by rw[yr (by omega)];congr 1;omega
def oV{t:Trace}{u:Array MemOp}{g k:Nat}{y:MemOp}(d:Deaf t g=0)(b:u[k]? =some y)(e:y.g=g)(f:∀c∈u,c.act≠ .mark .disable/\c.act≠ .mark .enable):(t++u).heard (t.size+k):=by
 refine⟨g,by simp[Trace.g?,jy,b,e],?_⟩;have a:∀j,j<=u.size->(t++u).deaf g (t.size+j)=0:=by
  intro j;induction j with
  |zero=>intro _;rw[mT,deaf_old (cz _)];exact d
  |succ j h=>
   intro l;have i:u[j]? =some u[j]:=ji (by omega);rw[<-yz,GW (by rw[jy];exact i) (f _ (Array.getElem_mem _))];exact h (by omega)
 exact a k (Nat.le_of_lt (eP.1 b).1)
def Ee{t:Trace}{g k i:Nat}{x y:MemOp}(c:x.g=g/\x.act=.go k)(a:y.g=k/\y.act=.start)(f:Deaf t g=0)(j:Deaf t k=0)(h:Knows t g i):Knows (t++#[x,y]) k i:=by
 have e:∀d∈#[x,y],d.act≠ .mark .disable/\d.act≠ .mark .enable:=by intro d b;simp only[DX,eQ,sN,ou]at b;rcases b with rfl|rfl;simp[c.2];simp[a.2]
 refine Knows.pass h (u:=#[x,y]) (p:=t.size+0) (q:=t.size+1) (x:=x) (y:=y) (by rw[jy];rfl) (by omega) c.1 (by rw[jy];rfl) a.1 (.single (.inr ⟨.spawn (child:=k) ?_ ?_ ?_,oV f (k:=0) rfl c.1 e,oV j (k:=1) rfl a.1 e⟩));simp only[Trace.act?,jy];simp[c.2];simp only[Trace.act?,jy];simp[a.2];simp only[Trace.g?,jy];simp[a.1]
def CJ{t:Trace}{g r i c s cap:Nat}{a d e b:MemOp}(j:a.g=g/\a.act=.send c s)(o:d.g=r/\d.act=.recv c s cap)(v:e.g=g/\e.act=.sendDone c s)(l:b.g=r/\b.act=.recvDone c s) (w:Deaf t g=0)(z:Deaf t r=0)(h:Knows t g i):Knows (t++#[a,d,e,b]) r i:=by
 have n:∀m∈#[a,d,e,b],m.act≠ .mark .disable/\m.act≠ .mark .enable:=by intro m f;simp only[DX,eQ,sN,ou]at f;rcases f with rfl|rfl|rfl|rfl;simp[j.2];simp[o.2];simp[v.2];simp[l.2]
 refine Knows.pass h (u:=#[a,d,e,b]) (p:=t.size+0) (q:=t.size+3) (x:=a) (y:=b) (by rw[jy];rfl) (by omega) j.1 (by rw[jy];rfl) l.1 (.single (.inr ⟨.handOver (c:=c) (k:=s) ?_ ?_,oV w (k:=0) rfl j.1 n,oV z (k:=3) rfl l.1 n⟩));simp only[Trace.act?,jy];simp[j.2];simp only[Trace.act?,jy];simp[l.2]
def CK{t:Trace}{g i c p:Nat}{y:MemOp}(h:t.act? p=some (.close c))(j:t.heard p)(l:Before t i p)(d:y.g=g/\y.act=.recvClosed c)(m:Deaf t g=0):Knows (t++#[y]) g i:=by
 have a:=lt_of_act? h;have e:∀f∈#[y],f.act≠ .mark .disable/\f.act≠ .mark .enable:=by intro f b;simp only[DX,eQ,sN,ou]at b;subst b;simp[d.2]
 refine⟨t.size+0,y,by rw[jy];rfl,d.1,.inr ((l.app #[y]).hb (.single (.inr ⟨.closed (c:=c) ?_ ?_,(heard_old a).2 j,oV m (k:=0) rfl d.1 e⟩)))⟩;rw[act?_old a];exact h;simp only[Trace.act?,jy];simp[d.2]
end Go.cF
namespace Go.cF.Kn
open Go.Conc Go.cF
structure Gh where
 own:Nat->Nat->Prop
 rd:Nat->Nat->Prop
 wg:Nat->Prop
 user:Nat->Prop
 sayer:Nat
 x:Nat->Prop
 done:Nat->Prop
 t0:Nat
def na(G:Gh)(g d n m:Nat)(es:Array Event):Prop:=∀(j:Nat) (e:Event),es[j]? =some e->(∀x,(MemAct.ofEvent e).touch?=some x->x.loc.isMemory=true->∃b,blk x.loc=some b/\((x.kind=.plain/\(G.own g b\/(G.rd g b/\x.write=false)\/(n<=b/\b<m)))\/(x.kind=.atomic/\G.wg b/\G.user g/\(G.done g->0<deafBehind d (es.extract 0 j)))\/(x.kind=.said/\G.wg b/\G.user g/\g=G.sayer)))/\(MemAct.ofEvent e).low m
structure ft(G:Gh)(n:Nat)(t:Trace):Prop where
 len:G.t0<=t.size
 clean:∀said,¬Race said t
 own:∀i a g b,touchAt t i=some a->blk a.loc=some b->G.own g b->Knows t g i
 rd:∀i a g b,touchAt t i=some a->blk a.loc=some b->G.rd g b->a.write=true->Knows t g i
 wg:∀i a b,touchAt t i=some a->blk a.loc=some b->G.wg b->a.kind=.atomic\/(a.kind=.said/\Knows t G.sayer i)\/∀g,G.user g->Knows t g i
 told:∀i a g,touchAt t i=some a->a.loc.isMemory=true->t.g? i=some g->G.done g\/i<G.t0->Knows t 0 i\/(a.kind=.atomic/\(∃b,blk a.loc=some b/\(G.wg b\/G.x b))/\¬t.heard i)
 low:∀op∈t,op.act.low n
structure Gh.Fits(G:Gh)(n:Nat):Prop where
 own:∀g b,G.own g b->b<n
 rd:∀g b,G.rd g b->b<n
 wg:∀b,G.wg b->b<n
 one:∀g g' b,G.own g b->G.own g' b->g=g'
 still:∀g g' b,G.own g b->¬G.rd g' b
 ownwg:∀g b,G.own g b->¬G.wg b
 rdwg:∀g b,G.rd g b->¬G.wg b
 done:∀g,G.done g->g≠0/\G.sayer≠g/\(∀b,¬G.own g b)/\∀b,¬G.rd g b
def Gh.grow(G:Gh)(g n m:Nat):Gh:={G with own:=λa b=>G.own a b\/(a=g/\n<=b/\b<m)}
def Gh.rZ(G:Gh)(g n:Nat):G.grow g n n=G:=by unfold Gh.grow;congr;funext g' b;apply propext;constructor;rintro(h|⟨_,a,c⟩);exact h;omega;exact .inl
theorem Gh.Fits.grow{G:Gh}{n m:Nat}(h:G.Fits n)(e:n<=m)(g:Nat)(k:G.done g->m=n):(G.grow g n m).Fits m:=by refine⟨λf b d=>?_,λf b d=>dl (h.rd f b d) e,λb d=>dl (h.wg b d) e,λj l b a c=>?_,λj l b a c=>?_,λj b a c=>?_,h.rdwg,λf i=>?_⟩;rcases d with d|d;exact dl (h.own f b d) e;exact d.2.2;rcases a with a|a<;>rcases c with c|c;exact h.one _ _ _ a c;have:=h.own _ _ a;omega;have:=h.own _ _ c;omega;rw[a.1,c.1];rcases a with a|a;exact h.still _ _ _ a c;have:=h.rd _ _ c;omega;rcases a with a|a;exact h.ownwg _ _ a c;have:=h.wg _ c;omega;obtain⟨a,c,o,p⟩:=h.done f i;refine⟨a,c,λb d=>?_,p⟩;rcases d with d|⟨rfl,q,r⟩;exact o b d;have:=k i;omega
def nd{l:Loc}{b:Nat}(h:blk l=some b):l.isMemory=true:=by cases l<;>simp_all[blk,Loc.isMemory]
def GX{l:Loc}(h:l.isMemory=true):∃b,blk l=some b:=by cases l<;>simp_all[blk,Loc.isMemory]
def ft.step{G:Gh}{g n m:Nat}{t:Trace}{fn:cm}{pos:String}{es:Array Event}(h:ft G n t)(C:G.Fits n)(aa:n<=m)(hd:G.done g->m=n)(S:na G g (Deaf t g) n m es):ft (G.grow g n m) m (t++MemOp.ofEvents g fn pos es):=by
 have T:∀l∈MemOp.ofEvents g fn pos es,l.g=g:=λl c=>by obtain⟨e,_,rfl⟩:=Go.Conc.mem_ofEvents c;rfl
 have U:∀i a b,touchAt t i=some a->blk a.loc=some b->b<n:=by intro i a b p q;obtain⟨l,c,Q⟩:=touch_of p;exact Bn (h.low l (mem_of_getElem? c)) Q q
 have ab:∀{i:Nat} {l:MemOp},(t++MemOp.ofEvents g fn pos es)[i]? =some l->t.size<=i->∃e,es[i-t.size]? =some e/\l.act=.ofEvent e/\l.g=g:=by intro i l c H;rw[yr H,ofEvents_eq,qF]at c;obtain⟨e,I,rfl⟩:=ij.1 c;exact⟨e,I,rfl,rfl⟩
 have M:∀i a,touchAt (t++MemOp.ofEvents g fn pos es) i=some a->(i<t.size/\touchAt t i=some a)\/(t.size<=i/\∃l e,(t++MemOp.ofEvents g fn pos es)[i]? =some l/\l.g=g/\es[i-t.size]? =some e/\(MemAct.ofEvent e).touch?=some a):=by intro i a p;obtain⟨l,c,Q⟩:=touch_of p;rcases eA i t.size with H|H;refine .inl ⟨H,?_⟩;rwa[touchAt_old H]at p;obtain⟨e,h1,h2,h3⟩:=ab c H;exact .inr ⟨H,l,e,c,h3,h1,by rw[<-h2];exact Q⟩
 have P:∀{i l},(t++MemOp.ofEvents g fn pos es)[i]? =some l->l.g=g->Knows (t++MemOp.ofEvents g fn pos es) g i:=by intro i l c T;have:=knows_own c;rwa[T]at this
 refine⟨by have:=h.len;simp[Gh.grow];omega,λV=>noRace_append (h.clean V) T λi a p l c b q R=>?_,λi a L b p q v=>?_,λi a L b p q D o=>?_,λi a b p q o=>?_,λi a L p hm N E=>?_,λl c=>?_⟩;obtain⟨e,I,rfl⟩:=Go.Conc.mem_ofEvents c;obtain⟨j,F⟩:=Array.mem_iff_getElem?.1 I;obtain⟨k,hk,d⟩:=(S j e F).1 b q (R.1▸R.2.1);have J:blk a.loc=some k:=by rw[R.1];exact hk
 rcases d with⟨hp,v|⟨D,o⟩|O⟩|⟨r,o,hu,_⟩|⟨r,o,hu,W⟩;exact h.own i a g k p J v;refine h.rd i a g k p J D ?_;rcases R.2.2.1 with x|x;exact x;rw[o]at x;cases x;have:=U i a k p J;omega;rcases h.wg i a k p J o with s|⟨s,_⟩|K;rcases R.2.2.2 with x|x|⟨_,x,_⟩;rw[s]at x;cases x;rw[r]at x;cases x;rw[s]at x;cases x;rcases R.2.2.2 with x|x|⟨_,_,x⟩;rw[s]at x;cases x;rw[r]at x;cases x;rw[r]at x;cases x;exact K g hu;rcases h.wg i a k p J o with s|⟨s,K⟩|K;rcases R.2.2.2 with x|x|⟨_,x,_⟩;rw[s]at x;cases x;rw[r]at x;cases x;rw[s]at x;cases x;rw[W];exact K;exact K g hu;rcases M i a p with⟨_,f⟩|⟨_,l,e,c,w,F,A⟩;rcases v with v|v;exact(h.own i a L b f q v).app _;have:=U i a b f q;omega;have hk:=P c w;obtain⟨X,u,d⟩:=(S _ e F).1 a A (nd q);obtain rfl:b=X:=by rw[q]at u;exact cE u
 rcases v with v|v;rcases d with⟨_,B|⟨D,_⟩|O⟩|⟨_,o,_⟩|⟨_,o,_⟩;rw[C.one L g b v B];exact hk;exact absurd D (C.still _ _ _ v);have:=C.own _ _ v;omega;exact absurd o (C.ownwg _ _ v);exact absurd o (C.ownwg _ _ v);rw[v.1];exact hk;rcases M i a p with⟨_,f⟩|⟨_,l,e,c,w,F,A⟩;exact(h.rd i a L b f q D o).app _;obtain⟨X,u,d⟩:=(S _ e F).1 a A (nd q);obtain rfl:b=X:=by rw[q]at u;exact cE u
 rcases d with⟨_,B|⟨_,r⟩|O⟩|⟨_,r,_⟩|⟨_,r,_⟩;exact absurd D (C.still _ _ _ B);rw[r]at o;cases o;have:=C.rd _ _ D;omega;exact absurd r (C.rdwg _ _ D);exact absurd r (C.rdwg _ _ D);rcases M i a p with⟨_,f⟩|⟨_,l,e,c,w,F,A⟩;exact(h.wg i a b f q o).imp id (Or.imp (λ⟨x,y⟩=>⟨x,y.app _⟩) λx g T=>(x g T).app _);obtain⟨X,u,d⟩:=(S _ e F).1 a A (nd q);obtain rfl:b=X:=by rw[q]at u;exact cE u
 rcases d with⟨_,B|⟨D,_⟩|O⟩|⟨r,_,_,_⟩|⟨r,_,_,W⟩;exact absurd o (C.ownwg _ _ B);exact absurd o (C.rdwg _ _ D);have:=C.wg _ o;omega;exact .inl r;refine .inr (.inl ⟨r,?_⟩);show Knows _ G.sayer i;rw[<-W];exact P c w;rcases M i a p with⟨H,f⟩|⟨H,l,e,c,w,F,A⟩;rw[g?_old H]at N;rcases h.told i a L f hm N E with x|⟨x,y,z⟩;exact .inl (x.app _);exact .inr ⟨x,y,λhh=>z ((heard_old H).1 hh)⟩;have e1:L=g:=by simp only[Trace.g?,c,iX,fI]at N;rw[<-N,w]
 subst e1;have E:G.done L:=E.resolve_right (by have:=h.len;show¬i<G.t0;omega);obtain⟨_,k2,k3,k4⟩:=C.done L E;obtain⟨b,q,d⟩:=(S _ e F).1 a A hm;rcases d with⟨_,B|⟨D,_⟩|O⟩|⟨r,o,_,Y⟩|⟨_,_,_,W⟩;exact absurd B (k3 b);exact absurd D (k4 b);have:=hd E;omega;have Y:=Y E;refine .inr ⟨r,⟨b,q,.inl o⟩,?_⟩;rintro⟨g2,Z,h0⟩;have e2:g2=L:=by simp only[Trace.g?,c,iX,fI]at Z;rw[<-Z,w]
 subst e2;have ac:i-t.size<es.size:=(eP.1 F).1;have:=deaf_inside t g2 fn pos es (i-t.size) (Nat.le_of_lt ac);rw[show t.size+(i-t.size)=i by omega,h0]at this;omega;exact absurd W.symm k2;rcases DV.1 c with c|c;exact MemAct.low_mono aa (h.low l c);obtain⟨e,I,rfl⟩:=Go.Conc.mem_ofEvents c;obtain⟨j,F⟩:=Array.mem_iff_getElem?.1 I;exact(S j e F).2
def ft.mute{G:Gh}{n:Nat}{t u:Trace}(h:ft G n t)(A:∀f∈u,f.act.touch?=none)(B:∀f∈u,f.act.low n)(C:∀l,¬Race l (t++u)):ft G n (t++u):=by
 have d:∀i a,touchAt (t++u) i=some a->i<t.size/\touchAt t i=some a:=by intro i a e;obtain⟨f,c,j⟩:=touch_of e;rcases getElem?_append_cases c with⟨q,m⟩|⟨_,o⟩;exact⟨q,by rw[touchAt_of m];exact j⟩;rw[A f o]at j;cases j
 refine⟨by have:=h.len;simp;omega,C,λi a s b e p k=>(h.own i a s b (d i a e).2 p k).app _,λi a s b e p k w=>(h.rd i a s b (d i a e).2 p k w).app _,λi a b e p k=>(h.wg i a b (d i a e).2 p k).imp id (Or.imp (λ⟨x,y⟩=>⟨x,y.app _⟩) λx g r=>(x g r).app _),
  λi a g e D r E=>?_,λf c=>?_⟩
 obtain⟨q,v⟩:=d i a e;rw[g?_old q]at r;rcases h.told i a g v D r E with x|⟨x,y,z⟩;exact .inl (x.app _);exact .inr ⟨x,y,λF=>z ((heard_old q).1 F)⟩;rcases DV.1 c with c|c;exact h.low f c;exact B f c
theorem wQ{t:Trace}:∀(l:List MemOp),(∀f∈l,f.act.touch?=none)->(∀c,¬Race c t)->∀c,¬Race c (t++l.toArray)
 |[],_,h=>by simpa using h
 |y::l,j,h=>by
  have e:t++(y::l).toArray=(t++#[y])++l.toArray:=by apply Cz;simp
  rw[e];refine wQ l (λf d=>j f (by simp[d])) λc=>noRace_append (g:=y.g) (h c) (λf d=>by simp at d;rw[d]) λi a _ f d b k _=>?_;have:f=y:=by simpa using d
  subst this;rw[j f (by simp)]at k;cases k
def ft.IH{G:Gh}{n:Nat}{t u:Trace}(h:ft G n t)(d:∀a∈u,a.act.touch?=none)(e:∀a∈u,a.act.low n):ft G n (t++u):=by refine h.mute d e λb=>?_;have:=wQ (t:=t) u.toList (λa c=>d a (Array.mem_toList_iff.1 c)) h.clean b;simpa using this
def ft.Ed{G G':Gh}{n:Nat}{t:Trace}(h:ft G n t) (e:∀g b,G'.own g b->∀i a,touchAt t i=some a->blk a.loc=some b->Knows t g i) (f:∀g b,G'.rd g b->∀i a,touchAt t i=some a->blk a.loc=some b->a.write=true->Knows t g i) (j:∀b,G'.wg b->∀i a,touchAt t i=some a->blk a.loc=some b->a.kind=.atomic\/(a.kind=.said/\Knows t G'.sayer i)\/∀g,G'.user g->Knows t g i) (l:G'.t0=G.t0)(m:∀g i,G'.done g\/i<G'.t0->∀a,touchAt t i=some a->a.loc.isMemory=true->t.g? i=some g->Knows t 0 i\/(a.kind=.atomic/\(∃b,blk a.loc=some b/\(G'.wg b\/G'.x b))/\¬t.heard i)):ft G' n t:=
 ⟨l▸h.len,h.clean,λi a g b c d k=>e g b k i a c d,λi a g b c d k w=>f g b k i a c d w,λi a b c d k=>j b k i a c d,λi a g c o p q=>m g i q a c o p,h.low⟩
def ft.begin{X:Nat->Prop}{n m0:Nat}{t:Trace}(h:Past (nU X) n t){rd0:Nat->Prop}(f:∀b,rd0 b->¬X b):
 ft {own:=λ_ _=>False,rd:=λg b=>g=0/\rd0 b,wg:=λ_=>False,user:=λg=>g=0,sayer:=0,x:=X,done:=λg=>g≠0/\g<m0,t0:=t.size} n t:=by
 refine⟨cz _,h.clean,λi a g b _ _ k=>k.elim,λi a g b d c k w=>?_,λi a b _ _ k=>k.elim,λi a g d l q B=>?_,h.seen⟩;obtain⟨rfl,u⟩:=k;rcases h.known i a d (nd c)with x|⟨x,_⟩;exact x;exfalso;refine f b u ?_;revert c x;cases a.loc<;>simp_all[blk,nU];rcases h.known i a d l with x|⟨x,y⟩;exact .inl x;by_cases r:g=0;obtain⟨C,m,o⟩:=ij.1 q;have:=knows_own m;rw[o,r]at this;exact .inl this;by_cases s:t.heard i;obtain⟨j,v,c⟩:=h.over i g q r ⟨a,d,l,.inr s⟩;obtain⟨z,A,p⟩:=ij.1 v;exact .inl ⟨j,z,A,p,.inr c⟩;obtain⟨b,c⟩:=GX l;refine .inr ⟨y,⟨b,c,.inr ?_⟩,s⟩;revert c x;cases a.loc<;>simp_all[blk,nU]<;>(intro x e;subst e;exact x)
def ft.past{G:Gh}{n:Nat}{t:Trace}(h:ft G n t)(c:∀i g,t.g? i=some g->g=0\/G.done g\/i<G.t0)(s:Deaf t 0=0):Past (nU λb=>G.wg b\/G.x b) n t:=by
 refine⟨h.clean,λi a m k=>?_,λi g d e u=>?_,s,h.low⟩;obtain⟨o,f,v⟩:=touch_of m;have d:t.g? i=some o.g:=by simp[Trace.g?,f]
 rcases c i _ d with x|x;have:=knows_own f;rw[x]at this;exact .inl this;rcases h.told i a o.g m k d x with y|⟨y,⟨b,w,C⟩,_⟩;exact .inl y;refine .inr ⟨?_,y⟩;revert w;cases a.loc<;>simp_all[blk,nU];obtain⟨x,A,k,j⟩:=u;have B:=(c i g d).resolve_left e;rcases h.told i x g A k d B with⟨q,z,p,r,l⟩|⟨y,_,z⟩;refine⟨q,by simp[Trace.g?,p,r],?_⟩;rcases l with rfl|l;exfalso;simp only[Trace.g?,p,iX,fI]at d;exact e (d▸r);exact l;rcases j with j|j;exact absurd y j;exact absurd j z
end Go.cF.Kn
namespace Go.cF
inductive WT.Sub:WT->WT->Prop
 |mk (f:cd->WT) (w:cd):WT.Sub (f w) (.node f)
def WT.acc(a:WT):Acc WT.Sub a:=by
 induction a with
 |leaf=>exact⟨_,λy h=>by cases h⟩
 |node f b=>exact⟨_,λy h=>by cases h with|mk f w=>exact b w⟩
def WT.num:Nat->WT
 |0=>.leaf
 |n+1=>.node λ_=>WT.num n
def WT.II(n:Nat):WT.Sub (WT.num n) (WT.num (n+1)):=WT.Sub.mk (λ_=>WT.num n) (default:cd)
def Pr(k:Nat)(f g:Nat->WT):Prop:=∃i,i<k/\WT.Sub (f i) (g i)/\∀j,j<k->j≠i->f j=g j
theorem uq(k:Nat):∀f:Nat->WT,Acc (Pr k) f:=by
 induction k with
 |zero=>exactλf=>⟨_,λg ⟨i,h,_⟩=>absurd h (Nat.not_lt_zero i)⟩
 |succ k uq=>
  intro f;have c:∀b,Acc WT.Sub b->∀f:Nat->WT,Acc (Pr k) f->f k=b->Acc (Pr (k+1)) f:=by
   intro b d;induction d with
   |intro b _ a=>
    intro f q;induction q with
    |intro f _ l=>
     intro n;refine⟨_,λg ⟨i,r,o,p⟩=>?_⟩;by_cases e:i=k;subst e;exact a (g i) (by rw[<-n];exact o) g (uq g) rfl;exact l g ⟨i,by omega,o,λj s m=>p j (by omega) m⟩ (by rw[p k (by omega) (λh=>e h.symm)];exact n)
  exact c (f k) (WT.acc _) f (uq f) rfl
structure Mu where
 a:Nat
 k:Nat
 f:Nat->WT
 b:Nat
inductive Mu.Lt:Mu->Mu->Prop
 |a {x y:Mu} (h:x.a<y.a):Mu.Lt x y
 |f {x y:Mu} (h1:x.a=y.a) (h2:x.k=y.k) (h:Pr y.k x.f y.f):Mu.Lt x y
 |b {x y:Mu} (h1:x.a=y.a) (h2:x.k=y.k) (h3:x.f=y.f) (h:x.b<y.b):Mu.Lt x y
def Mu.wf:WellFounded Mu.Lt:=by
 have c:∀(a:Nat) (k:Nat) (f:Nat->WT) (b:Nat),Acc Mu.Lt ⟨a,k,f,b⟩:=by
  intro a;induction a using Nat.strongRecOn with
  |ind a d=>
   intro k f;induction uq k f with
   |intro f _ e=>
    intro b;induction b using Nat.strongRecOn with
    |ind b g=>
     refine⟨_,λy h=>?_⟩;obtain⟨n,o,m,i⟩:=y;cases h with
     |a h=>exact d n h o m i
     |f j l h=>cases j;cases l;exact e m h i
     |b j l p h=>cases j;cases l;cases p;exact g i h
 exact⟨λ⟨a,k,f,b⟩=>c a k f b⟩
end Go.cF
