/- Laws that the proof needs, part 1. Conditions: none. -/
import Derived.Conc.Beside
import Derived.Conc.JoinTrace
import Derived.Conc.CrowdComm
import Derived.Conc.WrBase2
import Derived.Conc.CrowdBase
import Derived.Conc.WgGenN3
import Derived.Test.YteeagjkaflglpaaGreatX00
set_option maxRecDepth 100000
set_option maxHeartbeats 8000000
set_option linter.all false
variable{m k i j o p s d:Nat}{A B C:Nat->Prop}{R:Go.eV.fj}{h:Go.Addr}{Z:eA}
namespace Go.eV
open Go.Conc
open Go.ConcN (sumTo upd sumTo_upd upd_ne upd_same)
def qu(X:eN):Loc->Prop
 | .cell a=>X a.block
 | .obj r=>X r
 |_=>False
def sX(v u:er):Ta:=λj q=>if j<v.drawn then v.tape j q else u.tape (u.drawn+(j-v.drawn)) q
def Cw(v u:er):Below v (sX v u):=λj a=>by funext q;simp[sX,a]
theorem WR.sX{v u:er}(h:HR R v u):WR R (eU v (sX v u)) u:=
 ⟨h.obj,h.low,λj q=>by show Go.eV.sX v u (v.drawn+j) q=_;unfold Go.eV.sX;rw[ez (by omega)];congr 2;omega⟩
def Ip{v:er}(l:∀b c,R.r b c->¬A c)(n:∀c,A c->c<k)(o:∀b c,R.r b c->c<m){e:Event}(h:VS R v k m e):EvL (qu A) m e:=by obtain⟨a,i,b,rfl,g,_,_⟩|⟨r,i,b,rfl,g,_⟩|⟨a,i,rfl,p,j⟩|⟨r,i,rfl,p,j⟩|rfl:=h;refine⟨λx d f=>?_,by simp,by simp,o _ _ g⟩;simp only[MemAct.ofEvent,MemAct.touch?,iz]at d;subst d;exact absurd f (l _ _ g);refine⟨λx d f=>?_,by simp,by simp,by simpa[MemAct.ofEvent,MemAct.low,Loc.low]using o _ _ g⟩;simp only[MemAct.ofEvent,MemAct.touch?,iz]at d;subst d;exact absurd f (l _ _ g);refine⟨λx d f=>?_,by simp,by simp,j⟩;simp only[MemAct.ofEvent,MemAct.touch?,iz]at d;subst d;have:=n _ f;omega;refine⟨λx d f=>?_,by simp,by simp,by simpa[MemAct.ofEvent,MemAct.low,Loc.low]using j⟩;simp only[MemAct.ofEvent,MemAct.touch?,iz]at d;subst d;have:=n _ f;omega;refine⟨λx d f=>?_,by simp,by simp,trivial⟩;simp[MemAct.ofEvent,MemAct.touch?]at d
structure Fx(P:eE)(fs:Array Func)(w0:er)(ρ:fj)(X:Nat->Prop)(c:rO)(gs:Array eA)(a:eA)(w:er)(t:Trace)(q:Nat->Nat):Prop where
 inv:Inv P c
 good:Good P ρ
 same:ρ.fs=fs
 at0:gs[0]? =some a
 gor:sW P ρ [] (G c.fr c.cl) a
 heap:HR ρ c.v w
 leavers:Leavers (P.ki fs) t gs q
 past:Past (qu X) w.heap.size t
 low:∀b,X b->b<w.heap.size
 apart:∀b c',ρ.r b c'->¬X c'
 old:∀b c',ρ.r b c'->c'<w0.heap.size->zo c.v b
 grown:w0.heap.size<=w.heap.size
 kept:∀c',c'<w0.heap.size->w.heap[c']? =w0.heap[c']?
 world:w.tape=w0.tape/\w.os=w0.os/\w.output=w0.output
 holes:(∀f,ρ.hole f=true->P.funcs[f]?≠fs[f]?)/\ρ.dim=false/\¬ρ.Def
inductive Path (P:eE) (Stop:Frame->List Frame->er->Prop):rO->rO->Prop
 |one {c c1:rO} {T:Ta} {es:Array Event} (hn:¬Stop c.fr c.cl c.v) (hT:Below c.v T) (e:stepG P true (G c.fr c.cl) (eU c.v T)=.go (G c1.fr c1.cl) c1.v es):Path P Stop c c1
 |cons {c c1 c2:rO} {T:Ta} {es:Array Event} (hn:¬Stop c.fr c.cl c.v) (hT:Below c.v T) (e:stepG P true (G c.fr c.cl) (eU c.v T)=.go (G c1.fr c1.cl) c1.v es) (h:Path P Stop c1 c2):Path P Stop c c2
def Reach.NL{P:eE}{a:Frame->List Frame->fa}{M:rO->Prop}(l:∀c,a c.fr c.cl c.v->M c) (p:∀c,Reach P a c->¬a c.fr c.cl c.v->(∀b,Path P a c b->M b)->M c):∀c,Reach P a c->M c:=by
 intro c q;have i:Reach P a c/\M c/\∀b,Path P a c b->Reach P a b/\M b:=by
  induction q with
  | @here c h=>
   refine⟨.here h,l c h,λb f=>?_⟩;cases f with
   |one g _ _=>exact absurd h g
   |cons g _ _ _=>exact absurd h g
  | @next c j r m=>
   have n:Reach P a c:=.next j r;have d:∀b,Path P a c b->Reach P a b/\M b:=by
    intro b f;cases f with
    |one g k e=>
     have:=m _ _ _ k e;exact⟨this.1,this.2.1⟩
    |cons g k e f=>
     have:=m _ _ _ k e;exact this.2.2 _ f
   refine⟨n,?_,d⟩;by_cases o:a c.fr c.cl c.v;exact l c o;exact p c n o λb f=>(d b f).2
 exact i.2.1
section
variable{P:eE}{fs:Array Func}{w0:er}
theorem Fx.step{i:Frame->List Frame->fa}(U:∀fr V v,i fr V v->V≠[]){O:fj}{X:eN}{c:rO}{Q:Array eA}{a:eA}{w:er}{t:Trace}{q:Nat->Nat}(h:Fx P fs w0 O X c Q a w t q)(E:fX P O c.fr a.frame) (W:Reach P i c)(F:¬i c.fr c.cl c.v)(d:Nat):∃l s C u D,Path P i c l/\stepG (P.ki fs) true a (w.at d)=.go C u D/\DJ O s (eU c.v (sX c.v (w.at d))) (w.at d) l.v u D/\Fx P fs w0 s X l ((Q.map (woken (P.ki fs) a C u)).setIfInBounds 0 C) C u (t++MemOp.ofEvents 0 a.frame.fn a.frame.place D) q:=by
 have Y:=h.same;subst Y;have hw:WR O (eU c.v (sX c.v (w.at d))) (w.at d):=WR.sX ⟨h.heap.obj,h.heap.low⟩;have Z:=Cw c.v (w.at d);have hs:=Im h.good hw h.gor E true true;have R:=h.inv.eU (sX c.v (w.at d));cases W with
 |here h=>exact absurd h F
 |next p S=>
  obtain⟨l,aa,e⟩:=p _ Z;have ab:=S _ l aa Z e;have hp:Path P i c l:=.one F Z e;have H:Inv P l:=by
   obtain⟨o,w',D,z⟩|⟨g1,v1,D,z,k⟩|⟨af,ag,v1,D,z,I⟩:=R.step;rw[show stepG P true (G c.fr c.cl) (eU c.v (sX c.v (w.at d)))=_ from z]at e;cases e;rw[show stepG P true (G c.fr c.cl) (eU c.v (sX c.v (w.at d)))=_ from z]at e;injection e with e1 e2 e3;subst e1;exfalso;have ac:=k;obtain⟨k1,k2,k0,k3,k4⟩:=k;cases ab with
   |here h=>exact U _ _ _ h k3
   |next p S=>
    obtain⟨c2,ah,J⟩:=p l.v.tape λ_ _=>rfl;obtain⟨o,w',A,ad⟩:=ac.ended (P:=P) true (eU l.v l.v.tape);rw[ad]at J;cases J
   rw[show stepG P true (G c.fr c.cl) (eU c.v (sX c.v (w.at d)))=_ from z]at e;injection e with e1 e2 e3;injection e1 with e4 e5;obtain⟨fr,V,v⟩:=l;simp only at e2 e4 e5;subst e2 e4 e5;exact I
  rw[e]at hs;obtain k|⟨s,C,u,A,z,⟨d,m⟩,hg⟩:=hs;exfalso;have:=H.callers;exact this k.2.2.2.1;refine⟨l,s,C,u,A,hp,z,⟨d,m⟩,H,h.good.mono m.le,m.le.f.symm,?_,hg,m.rel.hr.drawn,?_,?_,λb hb=>fN (h.low b hb) m.usize,λb n r K=>?_,λb n r L=>?_,ff h.grown m.usize,λn L=>?_,⟨m.tape.trans h.world.1,m.os.trans h.world.2.1,m.output.trans h.world.2.2⟩,⟨λf E=>h.holes.1 f (by rw[m.le.h];exact E),m.le.d▸h.holes.2.1,λ⟨f,E⟩=>h.holes.2.2 ⟨f,by rw[m.le.w];exact E⟩⟩⟩;have M:0<Q.size:=(ik.1 h.at0).1;simp[M];refine⟨λj x T K=>?_,λj T=>?_⟩;have ae:0≠j:=by omega
  rw[gm ae,tk]at K;obtain⟨y,hy,rfl⟩:=jo.1 K;have hq:=h.leavers.old j y T hy;rw[woken_quitsD hq,Deaf_other t (by omega) _ (λop B=>by obtain⟨e,_,rfl⟩:=Go.Conc.mem_ofEvents B;rfl)];exact hq;have M:0<Q.size:=(ik.1 h.at0).1;rw[Deaf_other t (g:=j) (g':=0) (by simp at T;omega) (MemOp.ofEvents 0 a.frame.fn a.frame.place A) (λop B=>by obtain⟨e,_,rfl⟩:=Go.Conc.mem_ofEvents B;rfl)];exact h.leavers.above j (by simpa using T);have N:w.heap.size<=u.heap.size:=m.usize;refine(h.past.mono N).own λe he=>Ip h.apart h.low (λb c W=>?_) (m.evs e he);exact fN (hw.UA W) N;obtain p|⟨_,p⟩:=m.fresh b n r;exact h.apart b n p K;have:=h.low n K;have S:w.heap.size<=n:=p;omega;obtain p|⟨_,p⟩:=m.fresh b n r;have R:zo (eU c.v (sX c.v (w.at d))) b:=h.old b n p L;exact R.keep (m.ww b R);have S:w.heap.size<=n:=p;have:=h.grown;omega;rw[m.same n (fN L h.grown) λb r=>h.old b n r L];exact h.kept n L
end
section
variable{P:eE}{fs:Array Func}{w0:er}{Stop:Frame->List Frame->er->Prop}
def NM(P:eE)(fs:Array Func)(w0:er)(Stop:Frame->List Frame->fa):Prop:=
 ∀(e:fj) (X:eN) (c:rO) (i:Array eA) (a:eA) (w:er) (n:Option (Nat×Nat)) (t:Trace) (q:Nat->Nat) (f:fG) (j b:fZ),Fx P fs w0 e X c i a w t q->Reach P Stop c->e.S f=true->e.hole f=true->iD e j b->c.fr=Frame.enter P f j .normal->a.frame=Frame.enter (P.ki fs) f b .normal->∃(N:Nat) (d:Array eA) (k:er) (g:Option (Nat×Nat)) (l:Trace) (o:Nat->Nat) (m:rO) (h:fj) (p:eN) (r:eA),runNT (P.ki fs) N (crowd i w n) t=(.next (crowd d k g),l)/\Fx P fs w0 h p m d r k l o/\Path P Stop c m
def runNT_add{Q:eE}{d e a:Machine}{t f b:Trace}(h:runNT Q m d t=(.next e,f))(i:runNT Q k e f=(.next a,b)):runNT Q (m+k) d t=(.next a,b):=by
 induction m generalizing d t with
 |zero=>
  simp only[runNT]at h;injection h with c g;injection c with c;subst c g;rw[eJ];exact i
 |succ m j=>
  rw[show m+1+k=(m+k)+1 from by omega];simp only[runNT]at h⊢;cases l:stepT Q d with
  |mk s n=>
   rw[l]at h;cases s with
   |next p=>exact j h
   |ended o w=>simp only at h;injection h with c g;cases c
def nj{Q:eE}{m b:Machine}{t:Trace}{a:Array MemOp}(h:stepT Q m=(.next b,a)):runNT Q 1 m t=(.next b,t++a):=by simp only[runNT,h]
def Fx.pick{X:eN}{c:rO}{b:Array eA}{w:er}{t:Trace}{q:Nat->Nat}(h:Fx P fs w0 R X c b Z w t q)(sl:Option (Nat×Nat)):(∃d a,stepT (P.ki fs) (crowd b w sl)=runT (P.ki fs) (crowd b (w.at d) a) 0)\/∃d a n v N,stepT (P.ki fs) (crowd b w sl)=(.next (crowd n (w.at d) a),v)/\Fx P fs w0 R X c n Z (w.at d) (t++v) N/\sumTo n.size N+1=sumTo b.size q:=by
 have f:Z.status=.running:=h.gor.st.2;have H:=h.at0;have D:=h.leavers;have I:∀g∈b,awake g:=by
  intro g s;obtain⟨i,u,rfl⟩:=Array.mem_iff_getElem.1 s;obtain rfl|l:=ri i;have:b[0]=Z:=by simpa[lA u]using H
  rw[this];exact awake_of (.inl f);exact awake_of ((D.old i _ l (lA u)).status.elim .inl λx=>.inr (.inr x))
 obtain⟨i,g,d,a,u,s,z⟩:=crowd_pick (P:=P.ki fs) (w:=w) (sl:=sl) I ⟨0,Z,H,f⟩;obtain rfl|l:=ri i;exact .inl ⟨d,a,z⟩;have E:=D.old i g l u;have J:(i==0)=false:=by simp;omega
 have A:i<b.size:=(ik.1 u).1;cases o:q i with
 |zero=>rw[o]at E;rw[E.1]at s;cases s
 |succ k=>
  rw[o]at E;obtain⟨Q,_⟩|⟨_,g',S,T,B,K⟩:=E;rw[Q]at s;cases s;have p:=runT_crowd_go (P:=P.ki fs) (sl:=a) (i:=i) u (by rw[J];exact B (w.at d));have L:((b.map (woken (P.ki fs) g g' (w.at d))).setIfInBounds i g').size=b.size:=by simp
  have O:sumTo b.size (upd q i k)+(k+1)=sumTo b.size q+k:=by have:=sumTo_upd q k id A;simpa[o]using this
  refine .inr ⟨d,a,_,_,upd q i k,z.trans p,⟨h.inv,h.good,h.same,?_,h.gor,⟨h.heap.obj,h.heap.low⟩,⟨λj x F G=>?_,λj F=>?_⟩,h.past.mute (by omega) T,h.low,h.apart,h.old,h.grown,h.kept,h.world,h.holes⟩,by rw[L];omega⟩;have M:i≠0:=by omega
  rw[gm M,tk,H];simp[woken_run f];by_cases m:i=j;subst m;rw[mG (by simpa using A)]at G;obtain rfl:=eP G;rw[upd_same,Deaf_own];exact K;rw[gm m,tk]at G;obtain⟨y,U,rfl⟩:=jo.1 G;have C:=D.old j y F U;rw[woken_quitsD C,upd_ne q k (jb m),Deaf_other t m _ (λV r=>by obtain⟨e,_,rfl⟩:=Go.Conc.mem_ofEvents r;rfl)];exact C;rw[Deaf_other t (g:=j) (g':=i) (by simp at F;omega) (MemOp.ofEvents i g.frame.fn g.frame.place S) (λV r=>by obtain⟨e,_,rfl⟩:=Go.Conc.mem_ofEvents r;rfl)];exact D.above j (by simpa using F)
def Path.then{c a b:rO}(h:Path P Stop c a)(k:b=a\/Path P Stop a b):Path P Stop c b:=by
 obtain rfl|k:=k;exact h;induction h with
 |one d f e=>exact .cons d f e k
 |cons d f e _ g=>exact .cons d f e (g k)
def lead(Z:∀fr cl v,Stop fr cl v->cl≠[])(hole:NM P fs w0 Stop):∀c,Reach P Stop c->∀(y:fj) (X:eN) (s:Array eA) (a:eA) (w:er) (sl:Option (Nat×Nat)) (t:Trace) (q:Nat->Nat),Fx P fs w0 y X c s a w t q->∃(N:Nat) (g:Array eA) (A:er) (b:Option (Nat×Nat)) (B:Trace) (C:Nat->Nat) (l:rO) (j:fj) (K:eN) (L:eA),runNT (P.ki fs) N (crowd s w sl) t=(.next (crowd g A b),B)/\Fx P fs w0 j K l g L A B C/\Stop l.fr l.cl l.v/\(l=c\/Path P Stop c l):=by
 intro c hc
 refine Reach.NL (M:=λc=>∀(y:fj) (X:eN) (s:Array eA) (a:eA) (w:er) (sl:Option (Nat×Nat)) (t:Trace) (q:Nat->Nat),
  Fx P fs w0 y X c s a w t q->∃(N:Nat) (g:Array eA) (A:er) (b:Option (Nat×Nat)) (B:Trace) (C:Nat->Nat) (l:rO) (j:fj) (K:eN) (L:eA),runNT (P.ki fs) N (crowd s w sl) t=(.next (crowd g A b),B)/\Fx P fs w0 j K l g L A B C/\Stop l.fr l.cl l.v/\(l=c\/Path P Stop c l)) ?_ ?_ c hc
 intro c hs y X s a w sl t q u;exact⟨0,s,w,sl,t,q,c,y,X,a,rfl,u,hs,.inl rfl⟩;intro c hr aa ih;have O:∀{Y z:rO},Path P Stop c Y->(z=Y\/Path P Stop Y z)->Path P Stop c z:=λh k=>h.then k;have ab:∀(M:Nat) (y:fj) (X:eN) (s:Array eA) (a:eA) (w:er) (sl:Option (Nat×Nat)) (t:Trace) (q:Nat->Nat),sumTo s.size q<=M->
  Fx P fs w0 y X c s a w t q->∃(N:Nat) (g:Array eA) (A:er) (b:Option (Nat×Nat)) (B:Trace) (C:Nat->Nat) (l:rO) (j:fj) (K:eN) (L:eA),runNT (P.ki fs) N (crowd s w sl) t=(.next (crowd g A b),B)/\Fx P fs w0 j K l g L A B C/\Stop l.fr l.cl l.v/\(l=c\/Path P Stop c l):=by
  intro M;induction M with
  |zero=>
   intro y X s a w sl t q hM u;have D:=u.gor;have n:=D.fr;generalize E:(G c.fr c.cl).frame=fr at n;generalize x:a.frame=ad at n;cases n with
   |fr hf=>
    obtain⟨d,b,F⟩|⟨d,b,g,ac,C,_,_,hs⟩:=u.pick sl;obtain⟨Y,j,a1,w1,es,hp,e,m,H⟩:=u.step Z (by rw[x];subst E;exact hf) hr aa d;obtain⟨N,o,Q,p,R,S,z,r,T,U,V,W,I,r4⟩:=ih Y hp j X _ a1 w1 b _ q H;have h1:=F.trans (runT_crowd_go (P:=P.ki fs) (sl:=b) (i:=0) u.at0 (show stepG (P.ki fs) (0==0) a (w.at d)=_ from e));exact⟨1+N,o,Q,p,R,S,z,r,T,U,runNT_add (nj h1) V,W,I,.inr (O hp r4)⟩;omega
   | @hole f hS hh xs J hx=>
    have e2:a.frame=Frame.enter (P.ki fs) f J .normal:=by rw[x,u.same]
    obtain⟨N,g,A,b,B,C,l,j,K,L,V,W,I⟩:=hole y X c s a w sl t q f xs J u hr hS hh hx E e2;obtain⟨N2,o,Q,p,R,S,z,r,T,U,s1,s2,s3,s4⟩:=ih l I j K g L A b B C W;exact⟨N+N2,o,Q,p,R,S,z,r,T,U,runNT_add V s1,s2,s3,.inr (O I s4)⟩
  |succ M ae=>
   intro y X s a w sl t q hM u;have D:=u.gor;have n:=D.fr;generalize E:(G c.fr c.cl).frame=fr at n;generalize x:a.frame=ad at n;cases n with
   |fr hf=>
    obtain⟨d,b,F⟩|⟨d,b,g,ac,C,F,H,hs⟩:=u.pick sl;obtain⟨Y,j,a1,w1,es,hp,e,m,H⟩:=u.step Z (by rw[x];subst E;exact hf) hr aa d;obtain⟨N,o,Q,p,R,S,z,r,T,U,V,W,I,r4⟩:=ih Y hp j X _ a1 w1 b _ q H;have h1:=F.trans (runT_crowd_go (P:=P.ki fs) (sl:=b) (i:=0) u.at0 (show stepG (P.ki fs) (0==0) a (w.at d)=_ from e));exact⟨1+N,o,Q,p,R,S,z,r,T,U,runNT_add (nj h1) V,W,I,.inr (O hp r4)⟩;obtain⟨N,o,Q,p,R,S,z,r,T,U,V,W,I,r4⟩:=ae y X g a (w.at d) b (t++ac) C (by omega) H;exact⟨1+N,o,Q,p,R,S,z,r,T,U,runNT_add (nj F) V,W,I,r4⟩
   | @hole f hS hh xs J hx=>
    have e2:a.frame=Frame.enter (P.ki fs) f J .normal:=by rw[x,u.same]
    obtain⟨N,g,A,b,B,C,l,j,K,L,V,W,I⟩:=hole y X c s a w sl t q f xs J u hr hS hh hx E e2;obtain⟨N2,o,Q,p,R,S,z,r,T,U,s1,s2,s3,s4⟩:=ih l I j K g L A b B C W;exact⟨N+N2,o,Q,p,R,S,z,r,T,U,runNT_add V s1,s2,s3,.inr (O I s4)⟩
 intro y X s a w sl t q u;exact ab _ y X s a w sl t q (eF _) u
end
end Go.eV
namespace Go.eV
open Go.Conc (G)
structure gd(own rd:Nat->Prop)(L:er->Prop)(w w1:er):Prop where
 tape:w1.tape=w.tape
 os:w1.os=w.os
 output:w1.output=w.output
 size:w.heap.size<=w1.heap.size
 heap:∀b,b<w.heap.size->own b\/rd b->w1.heap[b]? =w.heap[b]?
 live:L w->L w1
def gd.refl(own rd:eN)(L:fa)(w:er):gd own rd L w w:=⟨rfl,rfl,rfl,eF _,λ_ _ _=>rfl,id⟩
theorem gd.trans{own rd:eN}{L:fa}{a b c:er}(h:gd own rd L a b)(k:gd own rd L b c):gd own rd L a c:=
 ⟨k.tape.trans h.tape,k.os.trans h.os,k.output.trans h.output,ff h.size k.size,λx d e=>(k.heap x (fN d h.size) e).trans (h.heap x d e),k.live∘h.live⟩
theorem gd.at(own rd:eN){L:fa}(a:∀w d,L w->L (w.at d))(w:er)(d:Nat):gd own rd L w (w.at d):=⟨rfl,rfl,rfl,eF _,λ_ _ _=>rfl,a w d⟩
def EvW(own rd:eN)(n m:Nat)(e:Event):Prop:=
 (∃a b,e=⟨.cell a,b,false⟩/\(own a.block\/(b=false/\rd a.block)\/(n<=a.block/\a.block<m)))\/
 (∃r b,e=⟨.obj r,b,false⟩/\(own r\/(n<=r/\r<m)))\/e=⟨.mark .noRoom,false,true⟩
structure Np(own rd:Nat->Prop)(w1 w':er)(es:Array Event)(own':Nat->Prop):Prop where
 tape:w'.tape=w1.tape
 os:w'.os=w1.os
 output:w'.output=w1.output
 size:w1.heap.size<=w'.heap.size
 owns:∀b,own' b↔own b\/(w1.heap.size<=b/\b<w'.heap.size)
 same:∀b,b<w1.heap.size->¬own b->w'.heap[b]? =w1.heap[b]?
 evs:∀e∈es,EvW own rd w1.heap.size w'.heap.size e
inductive WT:Type
 |leaf
 |node (f:er->WT)
inductive Way (P:eE) (main:Bool) (rd:Nat->Prop) (L:er->Prop) (Stop:(Nat->Prop)->eA->er->Prop):WT->(Nat->Prop)->eA->er->Prop
 |here {τ:WT} {own:Nat->Prop} {g:eA} {w:er} (h:∀w1,gd own rd L w w1->Stop own g w1):Way P main rd L Stop τ own g w
 |step {f:er->WT} {own:Nat->Prop} {g:eA} {w:er} (hs:g.status=.running)
  (h1:∀w1,gd own rd L w w1->∃g' w' es own',stepG P main g w1=.go g' w' es/\Np own rd w1 w' es own')
  (h2:∀w1 g' w' es own',gd own rd L w w1->stepG P main g w1=.go g' w' es->Np own rd w1 w' es own'->Way P main rd L Stop (f w1) own' g' w'):Way P main rd L Stop (.node f) own g w
def Np.unique{own rd:eN}{c d:er}{f a:Array Event}{o e:eN}(h:Np own rd c d f o)(k:Np own rd c d a e):o=e:=
 funext λb=>propext ((h.owns b).trans (k.owns b).symm)
section
variable{P:eE}{main:Bool}{rd:Nat->Prop}{L:er->Prop}{Stop:(Nat->Prop)->eA->er->Prop}{own:Nat->Prop}{g:eA}{w:er}
theorem Way.rely{e:WT}{f:er}(h:Way P main rd L Stop e own g w)(c:gd own rd L w f):Way P main rd L Stop e own g f:=by
 cases h with
 |here h=>exact .here λa d=>h a (c.trans d)
 |step i j d=>exact .step i (λa k=>j a (c.trans k)) λa l m n b k=>d a l m n b (c.trans k)
theorem Way.mk(p:g.status=.running)(h:∀b,gd own rd L w b->∃f d i a j,stepG P main g b=.go f d i/\Np own rd b d i a/\Way P main rd L Stop j a f d):∃j,Way P main rd L Stop j own g w:=by refine⟨.node λb=>open Classical in if c:gd own rd L w b then Classical.choose (kQ (kQ (kQ (kQ (h b c)))))else .leaf,.step p (λb c=>?_) λb f d i a c e k=>?_⟩;obtain⟨f,d,i,a,j,e,q,_⟩:=h b c;exact⟨f,d,i,a,e,q⟩;have l:=kQ (kQ (kQ (kQ (kQ (h b c)))));rw[dif_pos c];generalize Classical.choose (kQ (kQ (kQ (kQ (h b c)))))=j at l;revert l;generalize Classical.choose (kQ (kQ (kQ (h b c))))=n;generalize Classical.choose (kQ (kQ (h b c)))=r;generalize Classical.choose (kQ (h b c))=x;generalize Classical.choose (h b c)=y;rintro⟨o,m,s⟩;rw[e]at o;injection o with t u v;subst t u v;rw[k.unique m];exact s
theorem Way.bind{a:(eN)->eA->fa}{b:WT}(h:Way P main rd L Stop b own g w)(m:∀own g w,Stop own g w->∃b,Way P main rd L a b own g w):∃b,Way P main rd L a b own g w:=by
 induction h with
 | @here b own g w h=>exact m own g w (h w (.refl _ _ _ _))
 |step n o r p=>
  refine Way.mk n λd f=>?_;obtain⟨i,j,k,c,e,l⟩:=o d f;obtain⟨b,q⟩:=p d i j k c f e l;exact⟨i,j,k,c,b,e,l,q⟩
end
structure xJ(ρ:fj)(v w:er)(own rd:Nat->Prop):Prop where
 heap:HR ρ v w
 zone:∀b c',ρ.r b c'->own c'\/(rd c'/\zo v b)
def xJ.rely{v w d:er}{own rd:eN}{L:fa}(h:xJ R v w own rd)(f:gd own rd L w d):xJ R v d own rd:=by refine⟨⟨λb c a=>?_,h.heap.low⟩,h.zone⟩;obtain⟨o,g,i,e,j⟩:=h.heap.obj b c a;refine⟨o,g,i,?_,j⟩;rw[f.heap c (lt_of_heap e) ((h.zone b c a).imp id (·.1))];exact e
def Fy(P:eE)(Stop:Frame->List Frame->fa)(rd:eN)(b:List Frame)(d:fj)(own:eN)(g:eA)(w:er):Prop:=
 ∃c a,Stop c.fr c.cl c.v/\sW P a b (G c.fr c.cl) g/\fX P a c.fr g.frame/\fj.Le d a/\xJ a c.v w own rd/\Inv P c
def TJ{P:eE}{main:Bool}{Stop:Frame->List Frame->fa}(R:∀fr T v,Stop fr T v->T≠[]){rd:eN}{L:fa}{cs:List Frame}{ρ0:fj}:∀c,Reach P Stop c->∀(p:fj) (own:eN) (g:eA) (w:er),Inv P c->Good P p->(∀f,p.S f=true->p.hole f=false)->fj.Le ρ0 p->sW P p cs (G c.fr c.cl) g->xJ p c.v w own rd->∃U,Way (P.ki ρ0.fs) main rd L (Fy P Stop rd cs ρ0) U own g w:=by
 intro c hc;induction hc with
 | @here c h=>
  intro p own g w C V Q y D W;have l:fX P p c.fr g.frame:=by
   have i:=D.fr;generalize l:(G c.fr c.cl).frame=fr at i;generalize F:g.frame=X at i;cases i with
   |fr Y=>subst l;exact Y
   |hole Z H _=>rw[Q _ Z]at H;cases H
  exact⟨.leaf,.here λq hr=>⟨c,p,h,D,l,y,W.rely hr,C⟩⟩
 | @next c h1 h2 ih=>
  intro p own g w C V Q y D W;have l:fX P p c.fr g.frame:=by
   have i:=D.fr;generalize l:(G c.fr c.cl).frame=fr at i;generalize F:g.frame=X at i;cases i with
   |fr Y=>subst l;exact Y
   |hole Z H _=>rw[Q _ Z]at H;cases H
  refine Way.mk D.st.2 λq hr=>?_;have t:=W.rely hr;have hw:WR p (eU c.v (sX c.v q)) q:=WR.sX t.heap;have hT:=Cw c.v q;have hs:=Im V hw D l true main;have aa:=C.eU (sX c.v q);obtain⟨z,I,e⟩:=h1 _ hT;have ab:=h2 _ z I hT e;have J:Inv P z:=by
   obtain⟨o,E,es,A⟩|⟨g1,v1,es,A,n⟩|⟨ai,aj,v1,es,A,K⟩:=aa.step;rw[show stepG P true (G c.fr c.cl) (eU c.v (sX c.v q))=_ from A]at e;cases e;rw[show stepG P true (G c.fr c.cl) (eU c.v (sX c.v q))=_ from A]at e;injection e with e1 e2 e3;subst e1;exfalso;have ac:=n;obtain⟨k1,k2,k0,k3,k4⟩:=n;cases ab with
   |here h=>exact R _ _ _ h k3
   |next h1 h2=>
    obtain⟨c2,ak,M⟩:=h1 z.v.tape λ_ _=>rfl;obtain⟨o,E,N,ad⟩:=ac.ended (P:=P) true (eU z.v z.v.tape);rw[ad]at M;cases M
   rw[show stepG P true (G c.fr c.cl) (eU c.v (sX c.v q))=_ from A]at e;injection e with e1 e2 e3;injection e1 with e4 e5;obtain⟨fr,T,v⟩:=z;simp only at e2 e4 e5;subst e2 e4 e5;exact K
  rw[e]at hs;obtain n|⟨O,a1,E,N,A,⟨d,m⟩,ae⟩:=hs;exfalso;have:=J.callers;exact this n.2.2.2.1;rw[<-y.f]at A;let u:eN:=λb=>own b\/(q.mN<=b/\b<E.mN);have af:xJ O z.v E u rd:=by refine⟨m.rel.hr.drawn,λb c' j=>?_⟩;obtain h|⟨_,h⟩:=m.fresh b c' j;obtain h|⟨h,k⟩:=t.zone b c' h;exact .inl (.inl h);have x:zo (eU c.v (sX c.v q)) b:=k;exact .inr ⟨h,x.keep (m.ww b x)⟩;exact .inl (.inr ⟨h,m.rel.UA j⟩)
  obtain⟨U,ag⟩:=ih _ z I hT e O u a1 E J (V.mono m.le) (by rw[<-m.le.s,<-m.le.h];exact Q) (y.trans m.le) ae af;refine⟨a1,E,N,u,U,A,⟨m.tape,m.os,m.output,m.usize,λb=>nR,λb hb ah=>m.same b hb λb0 j=>?_,λe he=>?_⟩,ag⟩;obtain h|⟨_,h⟩:=t.zone b0 b j;exact absurd h ah;exact h;obtain⟨a,B,b,rfl,j,_,C⟩|⟨r,B,b,rfl,j,C⟩|⟨a,B,rfl,hn,hm⟩|⟨r,B,rfl,hn,hm⟩|rfl:=m.evs e he;refine .inl ⟨a,B,rfl,?_⟩;obtain h|⟨h,k⟩:=t.zone b a.block j;exact .inl h;cases B with
  |true=>exact absurd (show zo (eU c.v (sX c.v q)) b from k) (C rfl)
  |false=>exact .inr (.inl ⟨rfl,h⟩)
  refine .inr (.inl ⟨r,B,rfl,?_⟩);obtain h|⟨h,k⟩:=t.zone b r j;exact .inl h;exact absurd (show zo (eU c.v (sX c.v q)) b from k) C;exact .inl ⟨a,B,rfl,.inr (.inr ⟨hn,hm⟩)⟩;exact .inr (.inl ⟨r,B,rfl,.inr ⟨hn,hm⟩⟩);exact .inr (.inr rfl)
end Go.eV
namespace Go.eV
open Go.Conc
structure sY where
 own:Nat->Nat->Prop
 rd:Nat->Nat->Prop
 wg:Nat->Prop
 done:Nat->Prop
def blk:Loc->Option Nat
 | .cell a=>some a.block
 | .obj r=>some r
 |_=>none
def VZ(G:sY)(g n m:Nat)(e:Event):Prop:=
 (∀x,(MemAct.ofEvent e).touch?=some x->∀b,blk x.loc=some b->G.own g b\/(G.rd g b/\x.write=false)\/(n<=b/\b<m)\/(G.wg b/\x.kind=.atomic))/\
 (∀x,(MemAct.ofEvent e).touch?=some x->x.loc.isMemory=true->∃b,blk x.loc=some b)/\
 (MemAct.ofEvent e).low m
structure iT(G:sY)(n:Nat)(t:Trace):Prop where
 clean:∀said,¬Race said t
 own:∀i a g b,touchAt t i=some a->blk a.loc=some b->G.own g b->Knows t g i
 rd:∀i a g b,touchAt t i=some a->blk a.loc=some b->G.rd g b->a.write=true->Knows t g i
 wg:∀i a b,touchAt t i=some a->blk a.loc=some b->G.wg b->a.kind=.atomic
 low:∀op∈t,op.act.low n
def Cx{x:MemAct}{a:Touch}(h:x.low m)(b:x.touch?=some a)(f:blk a.loc=some k):k<m:=by
 cases x with
 |access e=>
  simp only[MemAct.touch?,iz]at b;subst b;obtain⟨c,g,i⟩:=e;cases c<;>simp_all[blk,MemAct.low,Loc.low]
 |mark d=>
  cases d<;>simp only[MemAct.touch?]at b<;>first|(cases b;done)|skip
  all_goals
   simp only[iz]at b;subst b;simp_all[blk,MemAct.low]
 |_=>simp[MemAct.touch?]at b
structure sY.Fits(G:sY)(n:Nat):Prop where
 own:∀g b,G.own g b->b<n
 rd:∀g b,G.rd g b->b<n
 wg:∀b,G.wg b->b<n
 one:∀g g' b,G.own g b->G.own g' b->g=g'
 still:∀g g' b,G.own g b->¬G.rd g' b
 ownwg:∀g b,G.own g b->¬G.wg b
 rdwg:∀g b,G.rd g b->¬G.wg b
def sY.grow(G:sY)(g n m:Nat):sY:={G with own:=λa b=>G.own a b\/(a=g/\n<=b/\b<m)}
theorem sY.Fits.grow{G:sY}(h:G.Fits k)(e:k<=m)(g:Nat):(G.grow g k m).Fits m:=by refine⟨λf b d=>?_,λf b d=>fN (h.rd f b d) e,λb d=>fN (h.wg b d) e,λi j b a c=>?_,λi j b a c=>?_,λi b a c=>?_,h.rdwg⟩;obtain d|d:=d;exact fN (h.own f b d) e;exact d.2.2;obtain a|a:=a<;>obtain c|c:=c;exact h.one _ _ _ a c;have:=h.own _ _ a;omega;have:=h.own _ _ c;omega;rw[a.1,c.1];obtain a|a:=a;exact h.still _ _ _ a c;have:=h.rd _ _ c;omega;obtain a|a:=a;exact h.ownwg _ _ a c;have:=h.wg _ c;omega
def iT.step{G:sY}{g n m:Nat}{t:Trace}{fn:fG}{pos:String}{z:Array Event}(h:iT G n t)(w:G.Fits n)(S:n<=m)(F:∀e∈z,VZ G g n m e):iT (G.grow g n m) m (t++MemOp.ofEvents g fn pos z):=by
 have p:∀f∈MemOp.ofEvents g fn pos z,f.g=g/\∃e∈z,f.act=.ofEvent e:=by intro f c;obtain⟨e,d,rfl⟩:=Go.Conc.mem_ofEvents c;exact⟨rfl,e,d,rfl⟩
 have H:∀i a b,touchAt t i=some a->blk a.loc=some b->b<n:=by intro i a b q o;obtain⟨f,c,A⟩:=touch_of q;exact Cx (h.low f (mem_of_getElem? c)) A o
 have C:∀i a,touchAt (t++MemOp.ofEvents g fn pos z) i=some a->touchAt t i=some a\/(∃f,(t++MemOp.ofEvents g fn pos z)[i]? =some f/\f.g=g/\∃e∈z,(MemAct.ofEvent e).touch?=some a):=by intro i a q;obtain⟨f,c,A⟩:=touch_of q;obtain⟨_,I⟩|⟨_,J⟩:=getElem?_append_cases c;exact .inl (by rw[touchAt_of I];exact A);obtain⟨D,e,d,l⟩:=p f J;exact .inr ⟨f,c,D,e,d,by rw[<-l];exact A⟩
 have K:∀{i f},(t++MemOp.ofEvents g fn pos z)[i]? =some f->f.g=g->Knows (t++MemOp.ofEvents g fn pos z) g i:=by intro i f c D;have:=knows_own c;rwa[D]at this
 refine⟨λL=>noRace_append (h.clean L) (λf c=>(p f c).1) λi a q f c b o M=>?_,λi a R b q o r=>?_,λi a R b q o y s=>?_,λi a b q o s=>?_,λf c=>?_⟩;obtain⟨_,e,d,l⟩:=p f c;obtain⟨T,U,_⟩:=F e d;rw[l]at o;obtain⟨k,N⟩:=U b o (M.1▸M.2.1);have B:blk a.loc=some k:=by rw[M.1];exact N
 obtain r|⟨y,s⟩|E|⟨s,O⟩:=T b o k N;exact h.own i a g k q B r;refine h.rd i a g k q B y ?_;obtain x|x:=M.2.2.1;exact x;rw[s]at x;cases x;have:=H i a k q B;omega;have P:=h.wg i a k q B s;obtain x|x|⟨_,x,_⟩:=M.2.2.2;rw[P]at x;cases x;rw[O]at x;cases x;rw[P]at x;cases x;obtain j|⟨f,c,D,e,d,u⟩:=C i a q;obtain r|r:=r;exact(h.own i a R b j o r).app _;have:=H i a b j o;omega;have N:=K c D;obtain r|r:=r;obtain v|⟨y,_⟩|E|⟨s,_⟩:=(F e d).1 a u b o;rw[w.one R g b r v];exact N;exact absurd y (w.still _ _ _ r);have:=w.own _ _ r;omega;exact absurd s (w.ownwg _ _ r);rw[r.1];exact N;obtain j|⟨f,c,D,e,d,u⟩:=C i a q;exact(h.rd i a R b j o y s).app _;obtain v|⟨_,Q⟩|E|⟨Q,_⟩:=(F e d).1 a u b o;exact absurd y (w.still _ _ _ v);rw[Q]at s;cases s;have:=w.rd _ _ y;omega;exact absurd Q (w.rdwg _ _ y);obtain j|⟨f,c,D,e,d,u⟩:=C i a q;exact h.wg i a b j o s;obtain v|⟨y,_⟩|E|⟨_,Q⟩:=(F e d).1 a u b o;exact absurd s (w.ownwg _ _ v);exact absurd s (w.rdwg _ _ y);have:=w.wg _ s;omega;exact Q;obtain c|c:=Fe.1 c;exact MemAct.low_mono S (h.low f c);obtain⟨_,e,d,l⟩:=p f c;rw[l];exact(F e d).2.2
def iT.Fz{G e:sY}{t:Trace}(h:iT G m t) (f:∀g b,e.own g b->∀i a,touchAt t i=some a->blk a.loc=some b->Knows t g i) (j:∀g b,e.rd g b->∀i a,touchAt t i=some a->blk a.loc=some b->a.write=true->Knows t g i) (l:∀b,e.wg b->∀i a,touchAt t i=some a->blk a.loc=some b->a.kind=.atomic):iT e m t:=
 ⟨h.clean,λi a g b c d k=>f g b k i a c d,λi a g b c d k w=>j g b k i a c d w,λi a b c d k=>l b k i a c d,h.low⟩
def iT.mute{G:sY}{t u:Trace}(h:iT G m t)(v:∀d∈u,d.g=k)(s:∀d∈u,d.act.touch?=none)(x:∀d∈u,d.act.low m):iT G m (t++u):=by
 have f:∀i a,touchAt (t++u) i=some a->touchAt t i=some a:=by intro i a j;obtain⟨d,c,l⟩:=touch_of j;obtain⟨_,n⟩|⟨_,o⟩:=getElem?_append_cases c;rw[touchAt_of n];exact l;rw[s d o]at l;cases l
 refine⟨λp=>noRace_append (h.clean p) v λi a _ d c b e _=>(by rw[s d c]at e;cases e),λi a r b j e q=>(h.own i a r b (f i a j) e q).app _,λi a r b j e q w=>(h.rd i a r b (f i a j) e q w).app _,λi a b j e q=>h.wg i a b (f i a j) e q,λd c=>?_⟩;obtain c|c:=Fe.1 c;exact h.low d c;exact x d c
def Knows.pass{t:Trace}{g b i p q:Nat}{x y:MemOp}(h:Knows t g i){u:Trace}(c:(t++u)[p]? =some x)(a:t.size<=p)(d:x.g=g)(e:(t++u)[q]? =some y)(f:y.g=b) (j:HappensBefore (t++u) p q):Knows (t++u) b i:=⟨q,y,e,f,.inr ((h.hb_new a c d).trans j)⟩
def Iq{t:Trace}{y:MemOp}(a:t[i]? =some y)(h:y.act≠ .mark .disable/\y.act≠ .mark .enable):t.deaf m (i+1)=t.deaf m i:=by rw[deaf_succ a];unfold deafStep;obtain⟨d,e,b,c⟩:=y;simp only at h;split<;>simp_all
def mC{t:Trace}{u:Array MemOp}(k:Nat):(t++u)[t.size+k]? =u[k]? :=by rw[zn (by omega)];congr 1;omega
def rm{t:Trace}{u:Array MemOp}{y:MemOp}(d:Deaf t m=0)(b:u[k]? =some y)(e:y.g=m)(f:∀c∈u,c.act≠ .mark .disable/\c.act≠ .mark .enable):(t++u).heard (t.size+k):=by
 refine⟨m,by simp[Trace.g?,mC,b,e],?_⟩;have a:∀j,j<=u.size->(t++u).deaf m (t.size+j)=0:=by
  intro j;induction j with
  |zero=>intro _;rw[nT,deaf_old (eF _)];exact d
  |succ j h=>
   intro l;have i:u[j]? =some u[j]:=lA (by omega);rw[<-sR,Iq (by rw[mC];exact i) (f _ (Array.getElem_mem _))];exact h (by omega)
 exact a k (Nat.le_of_lt (ik.1 b).1)
def FA{t:Trace}{x y:MemOp}(c:x.g=m/\x.act=.go k)(a:y.g=k/\y.act=.start)(f:Deaf t m=0)(j:Deaf t k=0)(h:Knows t m i):Knows (t++#[x,y]) k i:=by
 have e:∀d∈#[x,y],d.act≠ .mark .disable/\d.act≠ .mark .enable:=by intro d b;simp only[Co,gI,tq,pC]at b;obtain rfl|rfl:=b;simp[c.2];simp[a.2]
 refine Knows.pass h (u:=#[x,y]) (p:=t.size+0) (q:=t.size+1) (x:=x) (y:=y) (by rw[mC];rfl) (by omega) c.1 (by rw[mC];rfl) a.1 (.single (.inr ⟨.spawn (child:=k) ?_ ?_ ?_,rm f (k:=0) rfl c.1 e,rm j (k:=1) rfl a.1 e⟩));simp only[Trace.act?,mC];simp[c.2];simp only[Trace.act?,mC];simp[a.2];simp only[Trace.g?,mC];simp[a.1]
def DN{t:Trace}{g r i c s m:Nat}{a d e b:MemOp}(j:a.g=g/\a.act=.send c s)(v:d.g=r/\d.act=.recv c s m)(w:e.g=g/\e.act=.sendDone c s)(l:b.g=r/\b.act=.recvDone c s) (z:Deaf t g=0)(A:Deaf t r=0)(h:Knows t g i):Knows (t++#[a,d,e,b]) r i:=by
 have o:∀n∈#[a,d,e,b],n.act≠ .mark .disable/\n.act≠ .mark .enable:=by intro n f;simp only[Co,gI,tq,pC]at f;obtain rfl|rfl|rfl|rfl:=f;simp[j.2];simp[v.2];simp[w.2];simp[l.2]
 refine Knows.pass h (u:=#[a,d,e,b]) (p:=t.size+0) (q:=t.size+3) (x:=a) (y:=b) (by rw[mC];rfl) (by omega) j.1 (by rw[mC];rfl) l.1 (.single (.inr ⟨.handOver (c:=c) (k:=s) ?_ ?_,rm z (k:=0) rfl j.1 o,rm A (k:=3) rfl l.1 o⟩));simp only[Trace.act?,mC];simp[j.2];simp only[Trace.act?,mC];simp[l.2]
def DO{t:Trace}{g i c p:Nat}{y:MemOp}(h:t.act? p=some (.close c))(j:t.heard p)(l:Before t i p)(d:y.g=g/\y.act=.recvClosed c)(m:Deaf t g=0):Knows (t++#[y]) g i:=by
 have a:=lt_of_act? h;have e:∀f∈#[y],f.act≠ .mark .disable/\f.act≠ .mark .enable:=by intro f b;simp only[Co,gI,tq,pC]at b;subst b;simp[d.2]
 refine⟨t.size+0,y,by rw[mC];rfl,d.1,.inr ((l.app #[y]).hb (.single (.inr ⟨.closed (c:=c) ?_ ?_,(heard_old a).2 j,rm m (k:=0) rfl d.1 e⟩)))⟩;rw[act?_old a];exact h;simp only[Trace.act?,mC];simp[d.2]
end Go.eV
namespace Go.eV.Kn
open Go.Conc Go.eV
structure Gh where
 own:Nat->Nat->Prop
 rd:Nat->Nat->Prop
 wg:Nat->Prop
 user:Nat->Prop
 sayer:Nat
 x:Nat->Prop
 done:Nat->Prop
 t0:Nat
def pH(G:Gh)(g d n m:Nat)(a:Array Event):Prop:=∀(j:Nat) (e:Event),a[j]? =some e->(∀x,(MemAct.ofEvent e).touch?=some x->x.loc.isMemory=true->∃b,blk x.loc=some b/\((x.kind=.plain/\(G.own g b\/(G.rd g b/\x.write=false)\/(n<=b/\b<m)))\/(x.kind=.atomic/\G.wg b/\G.user g/\(G.done g->0<deafBehind d (a.extract 0 j)))\/(x.kind=.said/\G.wg b/\G.user g/\g=G.sayer)))/\(MemAct.ofEvent e).low m
structure iT(G:Gh)(n:Nat)(t:Trace):Prop where
 len:G.t0<=t.size
 clean:∀said,¬Race said t
 own:∀i a g b,touchAt t i=some a->blk a.loc=some b->G.own g b->Knows t g i
 rd:∀i a g b,touchAt t i=some a->blk a.loc=some b->G.rd g b->a.write=true->Knows t g i
 wg:∀i a b,touchAt t i=some a->blk a.loc=some b->G.wg b->a.kind=.atomic\/(a.kind=.said/\Knows t G.sayer i)\/∀g,G.user g->Knows t g i
 told:∀i a g,touchAt t i=some a->a.loc.isMemory=true->t.g? i=some g->G.done g\/i<G.t0->Knows t 0 i\/(a.kind=.atomic/\(∃b,blk a.loc=some b/\(G.wg b\/G.x b))/\¬t.heard i)
 low:∀op∈t,op.act.low n
structure Gh.Fits(G:Gh)(n:Nat):Prop where
 own:∀g b,G.own g b->b<n
 rd:∀g b,G.rd g b->b<n
 wg:∀b,G.wg b->b<n
 one:∀g g' b,G.own g b->G.own g' b->g=g'
 still:∀g g' b,G.own g b->¬G.rd g' b
 ownwg:∀g b,G.own g b->¬G.wg b
 rdwg:∀g b,G.rd g b->¬G.wg b
 done:∀g,G.done g->g≠0/\G.sayer≠g/\(∀b,¬G.own g b)/\∀b,¬G.rd g b
def Gh.grow(G:Gh)(g n m:Nat):Gh:={G with own:=λa b=>G.own a b\/(a=g/\n<=b/\b<m)}
def Gh.uL(G:Gh)(g n:Nat):G.grow g n n=G:=by unfold Gh.grow;congr;funext g' b;apply propext;constructor;rintro(h|⟨_,a,c⟩);exact h;omega;exact .inl
theorem Gh.Fits.grow{G:Gh}(h:G.Fits k)(e:k<=m)(g:Nat)(l:G.done g->m=k):(G.grow g k m).Fits m:=by refine⟨λf b d=>?_,λf b d=>fN (h.rd f b d) e,λb d=>fN (h.wg b d) e,λj n b a c=>?_,λj n b a c=>?_,λj b a c=>?_,h.rdwg,λf i=>?_⟩;obtain d|d:=d;exact fN (h.own f b d) e;exact d.2.2;obtain a|a:=a<;>obtain c|c:=c;exact h.one _ _ _ a c;have:=h.own _ _ a;omega;have:=h.own _ _ c;omega;rw[a.1,c.1];obtain a|a:=a;exact h.still _ _ _ a c;have:=h.rd _ _ c;omega;obtain a|a:=a;exact h.ownwg _ _ a c;have:=h.wg _ c;omega;obtain⟨a,c,o,p⟩:=h.done f i;refine⟨a,c,λb d=>?_,p⟩;obtain d|⟨rfl,q,r⟩:=d;exact o b d;have:=l i;omega
def pI{l:Loc}(h:blk l=some m):l.isMemory=true:=by cases l<;>simp_all[blk,Loc.isMemory]
def Ir{l:Loc}(h:l.isMemory=true):∃b,blk l=some b:=by cases l<;>simp_all[blk,Loc.isMemory]
def iT.step{G:Gh}{g n m:Nat}{t:Trace}{fn:fG}{pos:String}{F:Array Event}(h:iT G n t)(C:G.Fits n)(ab:n<=m)(hd:G.done g->m=n)(T:pH G g (Deaf t g) n m F):iT (G.grow g n m) m (t++MemOp.ofEvents g fn pos F):=by
 have U:∀l∈MemOp.ofEvents g fn pos F,l.g=g:=λl c=>by obtain⟨e,_,rfl⟩:=Go.Conc.mem_ofEvents c;rfl
 have V:∀i a b,touchAt t i=some a->blk a.loc=some b->b<n:=by intro i a b p q;obtain⟨l,c,R⟩:=touch_of p;exact Cx (h.low l (mem_of_getElem? c)) R q
 have ac:∀{i:Nat} {l:MemOp},(t++MemOp.ofEvents g fn pos F)[i]? =some l->t.size<=i->∃e,F[i-t.size]? =some e/\l.act=.ofEvent e/\l.g=g:=by intro i l c I;rw[zn I,ofEvents_eq,tk]at c;obtain⟨e,J,rfl⟩:=jo.1 c;exact⟨e,J,rfl,rfl⟩
 have N:∀i a,touchAt (t++MemOp.ofEvents g fn pos F) i=some a->(i<t.size/\touchAt t i=some a)\/(t.size<=i/\∃l e,(t++MemOp.ofEvents g fn pos F)[i]? =some l/\l.g=g/\F[i-t.size]? =some e/\(MemAct.ofEvent e).touch?=some a):=by intro i a p;obtain⟨l,c,R⟩:=touch_of p;obtain I|I:=gQ i t.size;refine .inl ⟨I,?_⟩;rwa[touchAt_old I]at p;obtain⟨e,h1,h2,h3⟩:=ac c I;exact .inr ⟨I,l,e,c,h3,h1,by rw[<-h2];exact R⟩
 have Q:∀{i l},(t++MemOp.ofEvents g fn pos F)[i]? =some l->l.g=g->Knows (t++MemOp.ofEvents g fn pos F) g i:=by intro i l c U;have:=knows_own c;rwa[U]at this
 refine⟨by have:=h.len;simp[Gh.grow];omega,λW=>noRace_append (h.clean W) U λi a p l c b q S=>?_,λi a M b p q v=>?_,λi a M b p q D o=>?_,λi a b p q o=>?_,λi a M p hm O E=>?_,λl c=>?_⟩;obtain⟨e,J,rfl⟩:=Go.Conc.mem_ofEvents c;obtain⟨j,H⟩:=Array.mem_iff_getElem?.1 J;obtain⟨k,hk,d⟩:=(T j e H).1 b q (S.1▸S.2.1);have K:blk a.loc=some k:=by rw[S.1];exact hk
 obtain⟨hp,v|⟨D,o⟩|P⟩|⟨r,o,hu,_⟩|⟨r,o,hu,X⟩:=d;exact h.own i a g k p K v;refine h.rd i a g k p K D ?_;obtain x|x:=S.2.2.1;exact x;rw[o]at x;cases x;have:=V i a k p K;omega;obtain s|⟨s,_⟩|L:=h.wg i a k p K o;obtain x|x|⟨_,x,_⟩:=S.2.2.2;rw[s]at x;cases x;rw[r]at x;cases x;rw[s]at x;cases x;obtain x|x|⟨_,_,x⟩:=S.2.2.2;rw[s]at x;cases x;rw[r]at x;cases x;rw[r]at x;cases x;exact L g hu;obtain s|⟨s,L⟩|L:=h.wg i a k p K o;obtain x|x|⟨_,x,_⟩:=S.2.2.2;rw[s]at x;cases x;rw[r]at x;cases x;rw[s]at x;cases x;rw[X];exact L;exact L g hu;obtain⟨_,f⟩|⟨_,l,e,c,w,H,A⟩:=N i a p;obtain v|v:=v;exact(h.own i a M b f q v).app _;have:=V i a b f q;omega;have hk:=Q c w;obtain⟨Y,u,d⟩:=(T _ e H).1 a A (pI q);obtain rfl:b=Y:=by rw[q]at u;exact eP u
 obtain v|v:=v;obtain⟨_,B|⟨D,_⟩|P⟩|⟨_,o,_⟩|⟨_,o,_⟩:=d;rw[C.one M g b v B];exact hk;exact absurd D (C.still _ _ _ v);have:=C.own _ _ v;omega;exact absurd o (C.ownwg _ _ v);exact absurd o (C.ownwg _ _ v);rw[v.1];exact hk;obtain⟨_,f⟩|⟨_,l,e,c,w,H,A⟩:=N i a p;exact(h.rd i a M b f q D o).app _;obtain⟨Y,u,d⟩:=(T _ e H).1 a A (pI q);obtain rfl:b=Y:=by rw[q]at u;exact eP u
 obtain⟨_,B|⟨_,r⟩|P⟩|⟨_,r,_⟩|⟨_,r,_⟩:=d;exact absurd D (C.still _ _ _ B);rw[r]at o;cases o;have:=C.rd _ _ D;omega;exact absurd r (C.rdwg _ _ D);exact absurd r (C.rdwg _ _ D);obtain⟨_,f⟩|⟨_,l,e,c,w,H,A⟩:=N i a p;exact(h.wg i a b f q o).imp id (Or.imp (λ⟨x,y⟩=>⟨x,y.app _⟩) λx g U=>(x g U).app _);obtain⟨Y,u,d⟩:=(T _ e H).1 a A (pI q);obtain rfl:b=Y:=by rw[q]at u;exact eP u
 obtain⟨_,B|⟨D,_⟩|P⟩|⟨r,_,_,_⟩|⟨r,_,_,X⟩:=d;exact absurd o (C.ownwg _ _ B);exact absurd o (C.rdwg _ _ D);have:=C.wg _ o;omega;exact .inl r;refine .inr (.inl ⟨r,?_⟩);show Knows _ G.sayer i;rw[<-X];exact Q c w;obtain⟨I,f⟩|⟨I,l,e,c,w,H,A⟩:=N i a p;rw[g?_old I]at O;obtain x|⟨x,y,z⟩:=h.told i a M f hm O E;exact .inl (x.app _);exact .inr ⟨x,y,λhh=>z ((heard_old I).1 hh)⟩;have e1:M=g:=by simp only[Trace.g?,c,kT,iz]at O;rw[<-O,w]
 subst e1;have E:G.done M:=E.resolve_right (by have:=h.len;show¬i<G.t0;omega);obtain⟨_,k2,k3,k4⟩:=C.done M E;obtain⟨b,q,d⟩:=(T _ e H).1 a A hm;obtain⟨_,B|⟨D,_⟩|P⟩|⟨r,o,_,Z⟩|⟨_,_,_,X⟩:=d;exact absurd B (k3 b);exact absurd D (k4 b);have:=hd E;omega;have Z:=Z E;refine .inr ⟨r,⟨b,q,.inl o⟩,?_⟩;rintro⟨g2,aa,h0⟩;have e2:g2=M:=by simp only[Trace.g?,c,kT,iz]at aa;rw[<-aa,w]
 subst e2;have ad:i-t.size<F.size:=(ik.1 H).1;have:=deaf_inside t g2 fn pos F (i-t.size) (Nat.le_of_lt ad);rw[show t.size+(i-t.size)=i by omega,h0]at this;omega;exact absurd X.symm k2;obtain c|c:=Fe.1 c;exact MemAct.low_mono ab (h.low l c);obtain⟨e,J,rfl⟩:=Go.Conc.mem_ofEvents c;obtain⟨j,H⟩:=Array.mem_iff_getElem?.1 J;exact(T j e H).2
def iT.mute{G:Gh}{t u:Trace}(h:iT G m t)(A:∀f∈u,f.act.touch?=none)(B:∀f∈u,f.act.low m)(C:∀l,¬Race l (t++u)):iT G m (t++u):=by
 have d:∀i a,touchAt (t++u) i=some a->i<t.size/\touchAt t i=some a:=by intro i a e;obtain⟨f,c,j⟩:=touch_of e;obtain⟨q,n⟩|⟨_,o⟩:=getElem?_append_cases c;exact⟨q,by rw[touchAt_of n];exact j⟩;rw[A f o]at j;cases j
 refine⟨by have:=h.len;simp;omega,C,λi a s b e p k=>(h.own i a s b (d i a e).2 p k).app _,λi a s b e p k w=>(h.rd i a s b (d i a e).2 p k w).app _,λi a b e p k=>(h.wg i a b (d i a e).2 p k).imp id (Or.imp (λ⟨x,y⟩=>⟨x,y.app _⟩) λx g r=>(x g r).app _),
  λi a g e D r E=>?_,λf c=>?_⟩
 obtain⟨q,v⟩:=d i a e;rw[g?_old q]at r;obtain x|⟨x,y,z⟩:=h.told i a g v D r E;exact .inl (x.app _);exact .inr ⟨x,y,λF=>z ((heard_old q).1 F)⟩;obtain c|c:=Fe.1 c;exact h.low f c;exact B f c
theorem yI{t:Trace}:∀(l:List MemOp),(∀f∈l,f.act.touch?=none)->(∀c,¬Race c t)->∀c,¬Race c (t++l.toArray)
 |[],_,h=>by simpa using h
 |y::l,j,h=>by
  have e:t++(y::l).toArray=(t++#[y])++l.toArray:=by apply DF;simp
  rw[e];refine yI l (λf d=>j f (by simp[d])) λc=>noRace_append (g:=y.g) (h c) (λf d=>by simp at d;rw[d]) λi a _ f d b k _=>?_;have:f=y:=by simpa using d
  subst this;rw[j f (by simp)]at k;cases k
def iT.JY{G:Gh}{t u:Trace}(h:iT G m t)(d:∀a∈u,a.act.touch?=none)(e:∀a∈u,a.act.low m):iT G m (t++u):=by refine h.mute d e λb=>?_;have:=yI (t:=t) u.toList (λa c=>d a (Array.mem_toList_iff.1 c)) h.clean b;simpa using this
def iT.Fz{G c:Gh}{t:Trace}(h:iT G m t) (f:∀g b,c.own g b->∀i a,touchAt t i=some a->blk a.loc=some b->Knows t g i) (j:∀g b,c.rd g b->∀i a,touchAt t i=some a->blk a.loc=some b->a.write=true->Knows t g i) (l:∀b,c.wg b->∀i a,touchAt t i=some a->blk a.loc=some b->a.kind=.atomic\/(a.kind=.said/\Knows t c.sayer i)\/∀g,c.user g->Knows t g i) (n:c.t0=G.t0)(o:∀g i,c.done g\/i<c.t0->∀a,touchAt t i=some a->a.loc.isMemory=true->t.g? i=some g->Knows t 0 i\/(a.kind=.atomic/\(∃b,blk a.loc=some b/\(c.wg b\/c.x b))/\¬t.heard i)):iT c m t:=
 ⟨n▸h.len,h.clean,λi a g b d e k=>f g b k i a d e,λi a g b d e k w=>j g b k i a d e w,λi a b d e k=>l b k i a d e,λi a g d p q r=>o g i r a d p q,h.low⟩
def iT.begin{n m0:Nat}{t:Trace}(h:Past (qu A) n t){rd0:eN}(f:∀b,rd0 b->¬A b):
 iT {own:=λ_ _=>False,rd:=λg b=>g=0/\rd0 b,wg:=λ_=>False,user:=λg=>g=0,sayer:=0,x:=A,done:=λg=>g≠0/\g<m0,t0:=t.size} n t:=by
 refine⟨eF _,h.clean,λi a g b _ _ k=>k.elim,λi a g b d c k w=>?_,λi a b _ _ k=>k.elim,λi a g d l q C=>?_,h.seen⟩;obtain⟨rfl,u⟩:=k;obtain x|⟨x,_⟩:=h.known i a d (pI c);exact x;exfalso;refine f b u ?_;revert c x;cases a.loc<;>simp_all[blk,qu];obtain x|⟨x,y⟩:=h.known i a d l;exact .inl x;by_cases r:g=0;obtain⟨D,m,o⟩:=jo.1 q;have:=knows_own m;rw[o,r]at this;exact .inl this;by_cases s:t.heard i;obtain⟨j,v,c⟩:=h.over i g q r ⟨a,d,l,.inr s⟩;obtain⟨z,B,p⟩:=jo.1 v;exact .inl ⟨j,z,B,p,.inr c⟩;obtain⟨b,c⟩:=Ir l;refine .inr ⟨y,⟨b,c,.inr ?_⟩,s⟩;revert c x;cases a.loc<;>simp_all[blk,qu]<;>(intro x e;subst e;exact x)
def iT.past{G:Gh}{t:Trace}(h:iT G m t)(c:∀i g,t.g? i=some g->g=0\/G.done g\/i<G.t0)(s:Deaf t 0=0):Past (qu λb=>G.wg b\/G.x b) m t:=by
 refine⟨h.clean,λi a n k=>?_,λi g d e u=>?_,s,h.low⟩;obtain⟨o,f,v⟩:=touch_of n;have d:t.g? i=some o.g:=by simp[Trace.g?,f]
 obtain x|x:=c i _ d;have:=knows_own f;rw[x]at this;exact .inl this;obtain y|⟨y,⟨b,w,C⟩,_⟩:=h.told i a o.g n k d x;exact .inl y;refine .inr ⟨?_,y⟩;revert w;cases a.loc<;>simp_all[blk,qu];obtain⟨x,A,k,j⟩:=u;have B:=(c i g d).resolve_left e;obtain⟨q,z,p,r,l⟩|⟨y,_,z⟩:=h.told i x g A k d B;refine⟨q,by simp[Trace.g?,p,r],?_⟩;obtain rfl|l:=l;exfalso;simp only[Trace.g?,p,kT,iz]at d;exact e (d▸r);exact l;obtain j|j:=j;exact absurd y j;exact absurd j z
end Go.eV.Kn
namespace Go.eV
inductive WT.Sub:WT->WT->Prop
 |mk (f:er->WT) (w:er):WT.Sub (f w) (.node f)
def WT.acc(a:WT):Acc WT.Sub a:=by
 induction a with
 |leaf=>exact⟨_,λy h=>by cases h⟩
 |node f b=>exact⟨_,λy h=>by cases h with|mk f w=>exact b w⟩
def WT.num:Nat->WT
 |0=>.leaf
 |n+1=>.node λ_=>WT.num n
def WT.JZ(n:Nat):WT.Sub (WT.num n) (WT.num (n+1)):=WT.Sub.mk (λ_=>WT.num n) (default:er)
def QK(k:Nat)(f g:Nat->WT):Prop:=∃i,i<k/\WT.Sub (f i) (g i)/\∀j,j<k->j≠i->f j=g j
theorem wH(k:Nat):∀f:Nat->WT,Acc (QK k) f:=by
 induction k with
 |zero=>exactλf=>⟨_,λg ⟨i,h,_⟩=>absurd h (Nat.not_lt_zero i)⟩
 |succ k wH=>
  intro f;have c:∀b,Acc WT.Sub b->∀f:Nat->WT,Acc (QK k) f->f k=b->Acc (QK (k+1)) f:=by
   intro b d;induction d with
   |intro b _ a=>
    intro f q;induction q with
    |intro f _ l=>
     intro n;refine⟨_,λg ⟨i,r,o,p⟩=>?_⟩;by_cases e:i=k;subst e;exact a (g i) (by rw[<-n];exact o) g (wH g) rfl;exact l g ⟨i,by omega,o,λj s m=>p j (by omega) m⟩ (by rw[p k (by omega) (λh=>e h.symm)];exact n)
  exact c (f k) (WT.acc _) f (wH f) rfl
structure Mu where
 a:Nat
 k:Nat
 f:Nat->WT
 b:Nat
inductive Mu.Lt:Mu->Mu->Prop
 |a {x y:Mu} (h:x.a<y.a):Mu.Lt x y
 |f {x y:Mu} (h1:x.a=y.a) (h2:x.k=y.k) (h:QK y.k x.f y.f):Mu.Lt x y
 |b {x y:Mu} (h1:x.a=y.a) (h2:x.k=y.k) (h3:x.f=y.f) (h:x.b<y.b):Mu.Lt x y
def Mu.wf:WellFounded Mu.Lt:=by
 have c:∀(a:Nat) (k:Nat) (f:Nat->WT) (b:Nat),Acc Mu.Lt ⟨a,k,f,b⟩:=by
  intro a;induction a using Nat.strongRecOn with
  |ind a d=>
   intro k f;induction wH k f with
   |intro f _ e=>
    intro b;induction b using Nat.strongRecOn with
    |ind b g=>
     refine⟨_,λy h=>?_⟩;obtain⟨n,o,m,i⟩:=y;cases h with
     |a h=>exact d n h o m i
     |f j l h=>cases j;cases l;exact e m h i
     |b j l p h=>cases j;cases l;cases p;exact g i h
 exact⟨λ⟨a,k,f,b⟩=>c a k f b⟩
end Go.eV
namespace Go.eV.Cr
open Go.Conc Go.eV Go.eV.Kn
open Go.ConcR (KK wgBlock WgAt stA smA mk)
open Go.ConcN (sumTo upd sumTo_upd upd_ne upd_same sumTo_congr le_sumTo sumTo_le)
abbrev jV:=(Nat->Prop)->eA->er->Prop
abbrev eS:Nat->Prop:=λ_=>False
def Lv(ty:eD)(Wg:Nat)(w:er):Prop:=∃a b,WgAt ty Wg w a b
section
variable(P:eE)(ty:eD)(Wg Ch n:Nat)(rd:Nat->Prop)(val:Nat->eu->(Nat->Prop)->er->Prop)
def Wy(a:Bool)(rd:eN)(S:jV):jV:=λown g w=>∃τ,Way P a rd (Lv ty Wg) S τ own g w
def rQ(a:Bool)(m:Mark)(b:jV):jV:=λown g w=>g.status=.running/\∃c,stepG P a g w=.go c w #[mk m]/\b own c w
def Sl(S:eA->fa):eA->fa:=λg w=>∃m,Goes P false (gd eS eS (Lv ty Wg)) ConcR.DC0 S m g w
def D4:eA->fa:=λg w=>g.status=.running/\mayWake P g=true/\(WgAt ty Wg w 0 0->∃a,stepG P false g w=.go a (w.setCell (smA Wg) (.int .u32 1)) (semEvents (smA Wg))/\∃q,QuitsD P q 1 a)
def D3:eA->fa:=λg w=>g.status=.running/\(WgAt ty Wg w 1 0->∃a,stepG P false g w=.go a (w.setCell (stA Wg) (.int .u64 0)) #[ConcR.wr (stA Wg)]/\Sl P ty Wg (D4 P ty Wg) a (w.setCell (stA Wg) (.int .u64 0)))
def D2:eA->fa:=λg w=>g.status=.running/\(WgAt ty Wg w 1 0->∃a,stepG P false g w=.go a w #[ConcR.rd (stA Wg)]/\Sl P ty Wg (D3 P ty Wg) a w)
def D1:eA->fa:=λg w=>g.status=.running/\∀v a:Nat,a<=1->v<2147483647->WgAt ty Wg w ((v+1)*KK+a) 0->
 ∃b,stepG P false g w=.go b (w.setCell (stA Wg) (.int .u64 (v*KK+a))) #[ConcR.rd (stA Wg),ConcR.wr (stA Wg)]/\((v=0/\a=1)->Sl P ty Wg (D2 P ty Wg) b (w.setCell (stA Wg) (.int .u64 (v*KK+a))))/\(¬(v=0/\a=1)->∃q,QuitsD P q 1 b)
def K1:eA->fa:=λg w=>g.status=.running/\∃a,stepG P false g w=.go a w #[mk .disable]/\Sl P ty Wg (D1 P ty Wg) a w
def R0:eA->fa:=λg w=>g.status=.running/\∃a,stepG P false g w=.go a w #[mk (.releaseMerge (stA Wg))]/\Sl P ty Wg (K1 P ty Wg) a w
def AtSend(i:Nat)(v z:eu):jV:=λown g w=>g.status=.running/\(∀w,stepG P false g w=.comm g #[scase Ch v z] true .send w #[])/\val i v own w/\Sl P ty Wg (R0 P ty Wg) (Conc.served g undef) w
def Sends(i:Nat):jV:=λown g w=>∃v z,AtSend P ty Wg Ch val i v z own g w
def UB:jV:=λ_ g w=>g.status=.running/\mayWake P g=true/\∃a,a.status=.running/\(∀s r,w.heap[Ch]? =some (.chan 0 #[] false s r false)->stepG P false g w=.go a (w.setChan Ch 0 #[] true s r false) #[⟨.obj Ch,false,true⟩,⟨.obj Ch,true,true⟩])/\∃q,QuitsD P q 0 a
def WA(a:eN):jV:=rQ P false (.acquire (stA Wg)) (Wy P ty Wg false a (UB P Ch))
def VA(a:eN):jV:=rQ P false .enable (Wy P ty Wg false a (WA P ty Wg Ch a))
def WB(a:eN):jV:=λown g w=>g.status=.running/\(WgAt ty Wg w 0 0->∃b,stepG P false g w=.go b w #[ConcR.rd (stA Wg)]/\Wy P ty Wg false a (VA P ty Wg Ch a) own b w)
def US(a:eN):jV:=λown g w=>g.status=.running/\g.offers=none/\
 ((∃c,WgAt ty Wg w c 0)->stepG P false g w=.go {g with status:=.blocked} w #[])/\
 (WgAt ty Wg w 0 1->∃b,stepG P false g w=.go b (w.setCell (smA Wg) (.int .u32 0)) (semEvents (smA Wg))/\Wy P ty Wg false a (WB P ty Wg Ch a) own b (w.setCell (smA Wg) (.int .u32 0)))
def WE(a:eN):jV:=rQ P false (.write (smA Wg)) (Wy P ty Wg false a (US P ty Wg Ch a))
def WF(c:eN)(a:jV)(d:Nat):jV:=λown g w=>g.status=.running/\∀v:Nat,v<2147483648->WgAt ty Wg w (v*KK) 0->
 (v=d->∃b,stepG P false g w=.go b (w.setCell (stA Wg) (.int .u64 (v*KK+1))) #[ConcR.rd (stA Wg),ConcR.wr (stA Wg)]/\Wy P ty Wg false c (WE P ty Wg Ch c) own b (w.setCell (stA Wg) (.int .u64 (v*KK+1))))/\(v≠d->∃b,stepG P false g w=.go b w #[ConcR.rd (stA Wg)]/\Wy P ty Wg false c a own b w)
def WG(b:eN)(a:jV):jV:=λown g w=>g.status=.running/\∀v:Nat,v<2147483648->WgAt ty Wg w (v*KK) 0->∃c,stepG P false g w=.go c w #[ConcR.rd (stA Wg)]/\
 (v=0->Wy P ty Wg false b (VA P ty Wg Ch b) own c w)/\(v≠0->Wy P ty Wg false b (WF P ty Wg Ch b a v) own c w)
def VB(b:eN)(a:jV):jV:=rQ P false .disable (Wy P ty Wg false b a)
structure Anchor(rc:Nat->Prop)(tE:jV):Prop where
 walk:∀own g w,tE own g w->Wy P ty Wg false rc (WG P ty Wg Ch rc tE) own g w
def NN(b:eN):jV:=λown g w=>∃a,Anchor P ty Wg Ch b a/\Wy P ty Wg false b (VB P ty Wg b a) own g w
def TK(End:jV)(z:eu):jV:=λown g w=>g.status=.running/\(∀w,stepG P true g w=.comm g #[rcase Ch z] true (.recv true) w #[])/\End own (Conc.served g (.tuple #[z,.bool false])) w
def TL(z:eu)(c:Nat->jV)(S:Nat->Bool):jV:=λown g w=>g.status=.running/\(∀w,stepG P true g w=.comm g #[rcase Ch z] true (.recv true) w #[])/\
 ∀i v a,i<n->S i=false->val i v a w->(∀b,a b->¬own b)->c i (λb=>own b\/a b) (Conc.served g (.tuple #[v,.bool true])) w
def qv(End:jV)(z:eu):Nat->(Nat->Bool)->jV
 |0,_=>TK P Ch End z
 |r+1,S=>TL P Ch n val z (λi=>Wy P ty Wg true rd (qv End z r (upd S i true))) S
def NO(End:jV):jV:=λown g w=>g.status=.running/\∃(c child:eA) (a:eN) (z:eu),stepG P true g w=.spawn c child w #[]/\child.status=.running/\(∀b,a b->own b)/\
 NN P ty Wg Ch (λb=>rd b\/a b) eS child w/\Wy P ty Wg true rd (qv P ty Wg Ch n rd val End z n (λ_=>false)) (λb=>own b/\¬a b) c w
def VC(i:Nat)(c:jV):jV:=λown g w=>g.status=.running/\∃(d child:eA) (a:eN),stepG P true g w=.spawn d child w #[]/\child.status=.running/\(∀b,a b->own b)/\
 Wy P ty Wg false (λb=>rd b\/a b) (Sends P ty Wg Ch val i) eS child w/\c (λb=>own b/\¬a b) d w
def VD(i:Nat)(a:jV):jV:=rQ P true .enable (Wy P ty Wg true rd (VC P ty Wg Ch rd val i a))
def WH(i:Nat)(a:jV):jV:=rQ P true (.read (smA Wg)) (Wy P ty Wg true rd (VD P ty Wg Ch rd val i a))
def WI(i:Nat)(a:jV):jV:=λown g w=>g.status=.running/\∀v:Nat,v<2147483647->WgAt ty Wg w (v*KK) 0->
 ∃b,stepG P true g w=.go b (w.setCell (stA Wg) (.int .u64 ((v+1)*KK))) #[ConcR.rd (stA Wg),ConcR.wr (stA Wg)]/\(v=0->Wy P ty Wg true rd (WH P ty Wg Ch rd val i a) own b (w.setCell (stA Wg) (.int .u64 ((v+1)*KK))))/\(v≠0->Wy P ty Wg true rd (VD P ty Wg Ch rd val i a) own b (w.setCell (stA Wg) (.int .u64 ((v+1)*KK))))
def UT(i:Nat)(a:jV):jV:=rQ P true .disable (Wy P ty Wg true rd (WI P ty Wg Ch rd val i a))
def qL(End:jV):Nat->jV
 |0=>Wy P ty Wg true rd (NO P ty Wg Ch n rd val End)
 |r+1=>Wy P ty Wg true rd (UT P ty Wg Ch rd val (n-(r+1)) (qL End r))
end
inductive CT where
 |kd|w1|w2 (vs:Nat)|sw|w3|blk|w4|ke|ac|cl|quit
inductive fY where
 |none
 |old
 |st (r s:Nat)
 |vi
 |rc (r:Nat) (S:Nat->Bool) (s:Nat)
 |wk (i s:Nat)
 |cl (c:CT)
section
variable(P:eE)(ty:eD)(Wg Ch n:Nat)(rd0:Nat->Prop)(val:Nat->eu->(Nat->Prop)->er->Prop)(End:jV)
inductive nO:fY->WT->Nat->(Nat->Prop)->(Nat->Prop)->eA->er->Prop
 |old {q d:Nat} {own rd:Nat->Prop} {g:eA} {w:er} (h:QuitsD P q d g):nO .old (.num q) d own rd g w
 |skd {r:Nat} {τ:WT} {own:Nat->Prop} {g:eA} {w:er} (hr:r<n) (h:Way P true rd0 (Lv ty Wg) (UT P ty Wg Ch rd0 val (n-(r+1)) (qL P ty Wg Ch n rd0 val End r)) τ own g w):nO (.st r 6) τ 0 own rd0 g w
 |sa1 {r:Nat} {τ:WT} {own:Nat->Prop} {g:eA} {w:er} (hr:r<n) (h:Way P true rd0 (Lv ty Wg) (WI P ty Wg Ch rd0 val (n-(r+1)) (qL P ty Wg Ch n rd0 val End r)) τ own g w):nO (.st r 5) τ 1 own rd0 g w
 |SH {r:Nat} {τ:WT} {own:Nat->Prop} {g:eA} {w:er} (hr:r<n) (h:Way P true rd0 (Lv ty Wg) (WH P ty Wg Ch rd0 val (n-(r+1)) (qL P ty Wg Ch n rd0 val End r)) τ own g w):nO (.st r 4) τ 1 own rd0 g w
 |ske {r:Nat} {τ:WT} {own:Nat->Prop} {g:eA} {w:er} (hr:r<n) (h:Way P true rd0 (Lv ty Wg) (VD P ty Wg Ch rd0 val (n-(r+1)) (qL P ty Wg Ch n rd0 val End r)) τ own g w):nO (.st r 3) τ 1 own rd0 g w
 |sgo {r:Nat} {τ:WT} {own:Nat->Prop} {g:eA} {w:er} (hr:r<n) (h:Way P true rd0 (Lv ty Wg) (VC P ty Wg Ch rd0 val (n-(r+1)) (qL P ty Wg Ch n rd0 val End r)) τ own g w):nO (.st r 2) τ 0 own rd0 g w
 |QL {τ:WT} {own:Nat->Prop} {g:eA} {w:er} (h:Way P true rd0 (Lv ty Wg) (NO P ty Wg Ch n rd0 val End) τ own g w):nO .vi τ 0 own rd0 g w
 |src {r:Nat} {S:Nat->Bool} {z:eu} {τ:WT} {own:Nat->Prop} {g:eA} {w:er} (h:Way P true rd0 (Lv ty Wg) (qv P ty Wg Ch n rd0 val End z r S) τ own g w):nO (.rc r S 2) τ 0 own rd0 g w
 |Nq {r:Nat} {S:Nat->Bool} {z:eu} {τ:WT} {own:Nat->Prop} {g:eA} {w:er} (h:∀w1,gd own rd0 (Lv ty Wg) w w1->qv P ty Wg Ch n rd0 val End z r S own g w1):
  nO (.rc r S 1) τ 0 own rd0 (parked g #[rcase Ch z] (.recv true)) w
 |sup {S:Nat->Bool} {z:eu} {τ:WT} {own:Nat->Prop} {g:eA} {w:er} (h:∀w1,gd own rd0 (Lv ty Wg) w w1->qv P ty Wg Ch n rd0 val End z 0 S own g w1):
  nO (.rc 0 S 2) τ 0 own rd0 {parked g #[rcase Ch z] (.recv true)with status:=.running} w
 |QM {i:Nat} {τ:WT} {own rd:Nat->Prop} {g:eA} {w:er} (h:Way P false rd (Lv ty Wg) (Sends P ty Wg Ch val i) τ own g w):nO (.wk i 9) τ 0 own rd g w
 |vK {i:Nat} {v z:eu} {τ:WT} {own rd:Nat->Prop} {g:eA} {w:er} (h:∀w1,gd own rd (Lv ty Wg) w w1->AtSend P ty Wg Ch val i v z own g w1):
  nO (.wk i 8) τ 0 own rd (parked g #[scase Ch v z] .send) w
 |r0 {i m:Nat} {own rd:Nat->Prop} {g:eA} {w:er} (h:Goes P false (gd eS eS (Lv ty Wg)) ConcR.DC0 (R0 P ty Wg) m g w):nO (.wk i 7) (.num m) 0 own rd g w
 |k1 {i m:Nat} {own rd:Nat->Prop} {g:eA} {w:er} (h:Goes P false (gd eS eS (Lv ty Wg)) ConcR.DC0 (K1 P ty Wg) m g w):nO (.wk i 6) (.num m) 0 own rd g w
 |d1 {i m:Nat} {own rd:Nat->Prop} {g:eA} {w:er} (h:Goes P false (gd eS eS (Lv ty Wg)) ConcR.DC0 (D1 P ty Wg) m g w):nO (.wk i 5) (.num m) 1 own rd g w
 |d2 {i m:Nat} {own rd:Nat->Prop} {g:eA} {w:er} (h:Goes P false (gd eS eS (Lv ty Wg)) ConcR.DC0 (D2 P ty Wg) m g w):nO (.wk i 4) (.num m) 1 own rd g w
 |d3 {i m:Nat} {own rd:Nat->Prop} {g:eA} {w:er} (h:Goes P false (gd eS eS (Lv ty Wg)) ConcR.DC0 (D3 P ty Wg) m g w):nO (.wk i 3) (.num m) 1 own rd g w
 |d4 {i m:Nat} {own rd:Nat->Prop} {g:eA} {w:er} (h:Goes P false (gd eS eS (Lv ty Wg)) ConcR.DC0 (D4 P ty Wg) m g w):nO (.wk i 2) (.num m) 1 own rd g w
 |quit {i q d:Nat} {own rd:Nat->Prop} {g:eA} {w:er} (h:QuitsD P q d g):nO (.wk i 1) (.num q) d own rd g w
 |SI {τ:WT} {own rd:Nat->Prop} {tE:jV} {g:eA} {w:er} (hA:Anchor P ty Wg Ch rd tE) (h:Way P false rd (Lv ty Wg) (VB P ty Wg rd tE) τ own g w):nO (.cl .kd) τ 0 own rd g w
 |QN {τ:WT} {own rd:Nat->Prop} {tE:jV} {g:eA} {w:er} (hA:Anchor P ty Wg Ch rd tE) (h:Way P false rd (Lv ty Wg) (WG P ty Wg Ch rd tE) τ own g w):nO (.cl .w1) τ 1 own rd g w
 |SJ {τ:WT} {own rd:Nat->Prop} {tE:jV} {vs:Nat} {g:eA} {w:er} (hA:Anchor P ty Wg Ch rd tE) (h:Way P false rd (Lv ty Wg) (WF P ty Wg Ch rd tE vs) τ own g w):nO (.cl (.w2 vs)) τ 1 own rd g w
 |SK {τ:WT} {own rd:Nat->Prop} {g:eA} {w:er} (h:Way P false rd (Lv ty Wg) (WE P ty Wg Ch rd) τ own g w):nO (.cl .sw) τ 1 own rd g w
 |QO {τ:WT} {own rd:Nat->Prop} {g:eA} {w:er} (h:Way P false rd (Lv ty Wg) (US P ty Wg Ch rd) τ own g w):nO (.cl .w3) τ 1 own rd g w
 |QP {τ:WT} {own rd:Nat->Prop} {g:eA} {w:er} (h:∀w1,gd own rd (Lv ty Wg) w w1->US P ty Wg Ch rd own g w1):nO (.cl .blk) τ 1 own rd {g with status:=.blocked} w
 |SL {τ:WT} {own rd:Nat->Prop} {g:eA} {w:er} (h:Way P false rd (Lv ty Wg) (WB P ty Wg Ch rd) τ own g w):nO (.cl .w4) τ 1 own rd g w
 |QQ {τ:WT} {own rd:Nat->Prop} {g:eA} {w:er} (h:Way P false rd (Lv ty Wg) (VA P ty Wg Ch rd) τ own g w):nO (.cl .ke) τ 1 own rd g w
 |SM {τ:WT} {own rd:Nat->Prop} {g:eA} {w:er} (h:Way P false rd (Lv ty Wg) (WA P ty Wg Ch rd) τ own g w):nO (.cl .ac) τ 0 own rd g w
 |SO {τ:WT} {own rd:Nat->Prop} {g:eA} {w:er} (h:Way P false rd (Lv ty Wg) (UB P Ch) τ own g w):nO (.cl .cl) τ 0 own rd g w
 |Qt {q d:Nat} {own rd:Nat->Prop} {g:eA} {w:er} (h:QuitsD P q d g):nO (.cl .quit) (.num q) d own rd g w
end
section
variable{P:eE}{ty:eD}{Wg Ch n:Nat}{rd0:Nat->Prop}{val:Nat->eu->(Nat->Prop)->er->Prop}{End:jV}{ro:fY}{τ:WT}{d:Nat}{own rd:Nat->Prop}{g:eA}{w w1:er}
theorem _root_.Go.eV.gd.none{own rd:eN}{L:fa}{w w1:er}(h:gd own rd L w w1):gd eS eS L w w1:=⟨h.tape,h.os,h.output,h.size,λ_ _ a=>(a.elim id id).elim,h.live⟩
theorem nO.rely(h:nO P ty Wg Ch n rd0 val End ro τ d own rd g w)(c:gd own rd (Lv ty Wg) w w1):nO P ty Wg Ch n rd0 val End ro τ d own rd g w1:=by
 cases h with
 |old h=>exact .old h
 |skd e h=>exact .skd e (h.rely c)
 |sa1 e h=>exact .sa1 e (h.rely c)
 |SH e h=>exact .SH e (h.rely c)
 |ske e h=>exact .ske e (h.rely c)
 |sgo e h=>exact .sgo e (h.rely c)
 |QL h=>exact .QL (h.rely c)
 |src h=>exact .src (h.rely c)
 |Nq h=>exact .Nq λf i=>h f (c.trans i)
 |sup h=>exact .sup λf i=>h f (c.trans i)
 |QM h=>exact .QM (h.rely c)
 |vK h=>exact .vK λf i=>h f (c.trans i)
 |r0 h=>exact .r0 (Goes.rely (λ_ _ _ a b=>a.trans b) h c.none)
 |k1 h=>exact .k1 (Goes.rely (λ_ _ _ a b=>a.trans b) h c.none)
 |d1 h=>exact .d1 (Goes.rely (λ_ _ _ a b=>a.trans b) h c.none)
 |d2 h=>exact .d2 (Goes.rely (λ_ _ _ a b=>a.trans b) h c.none)
 |d3 h=>exact .d3 (Goes.rely (λ_ _ _ a b=>a.trans b) h c.none)
 |d4 h=>exact .d4 (Goes.rely (λ_ _ _ a b=>a.trans b) h c.none)
 |quit h=>exact .quit h
 |SI j h=>exact .SI j (h.rely c)
 |QN j h=>exact .QN j (h.rely c)
 |SJ j h=>exact .SJ j (h.rely c)
 |SK h=>exact .SK (h.rely c)
 |QO h=>exact .QO (h.rely c)
 |QP h=>exact .QP λf i=>h f (c.trans i)
 |SL h=>exact .SL (h.rely c)
 |QQ h=>exact .QQ (h.rely c)
 |SM h=>exact .SM (h.rely c)
 |SO h=>exact .SO (h.rely c)
 |Qt h=>exact .Qt h
end
theorem Way.running{P:eE}{a:Bool}{rd:eN}{L:fa}{S:jV}{τ:WT}{own:eN}{g:eA}{w:er}(b:∀own g w,S own g w->g.status=.running)(h:Way P a rd L S τ own g w):g.status=.running:=by
 cases h with
 |here h=>exact b _ _ _ (h w (.refl _ _ _ _))
 |step c _ _=>exact c
section
variable{P:eE}{ty:eD}{Wg Ch n:Nat}{rd0:Nat->Prop}{val:Nat->eu->(Nat->Prop)->er->Prop}{End:jV}
theorem lR{z:eu}{S:Nat->Bool}:∀{r:Nat} {own:eN} {g:eA} {w:er},qv P ty Wg Ch n rd0 val End z r S own g w->g.status=.running/\∀w,stepG P true g w=.comm g #[rcase Ch z] true (.recv true) w #[]
 |0,_,_,_,h=>⟨h.1,h.2.1⟩
 |_+1,_,_,_,h=>⟨h.1,h.2.1⟩
def fY.idle:fY->Prop
 | .old| .rc _ _ 1| .wk _ 8| .wk _ 1| .cl .blk| .cl .quit=>True
 |_=>False
variable{ro:fY}{τ:WT}{d:Nat}{own rd:Nat->Prop}{g:eA}{w w1:er}
theorem nO.running(h:nO P ty Wg Ch n rd0 val End ro τ d own rd g w):g.status=.running\/(ro.idle/\(g.status=.blocked\/g.status=.finished)):=by
 cases h with
 |old h=>exact h.status.elim .inl λx=>.inr ⟨trivial,.inr x⟩
 |skd _ h=>exact .inl (Way.running (λ_ _ _ x=>x.1) h)
 |sa1 _ h=>exact .inl (Way.running (λ_ _ _ x=>x.1) h)
 |SH _ h=>exact .inl (Way.running (λ_ _ _ x=>x.1) h)
 |ske _ h=>exact .inl (Way.running (λ_ _ _ x=>x.1) h)
 |sgo _ h=>exact .inl (Way.running (λ_ _ _ x=>x.1) h)
 |QL h=>exact .inl (Way.running (λ_ _ _ x=>x.1) h)
 |src h=>exact .inl (Way.running (λ_ _ _ x=>(lR x).1) h)
 |Nq h=>exact .inr ⟨trivial,.inl rfl⟩
 |sup h=>exact .inl rfl
 |QM h=>exact .inl (Way.running (λ_ _ _ ⟨_,_,x⟩=>x.1) h)
 |vK h=>exact .inr ⟨trivial,.inl rfl⟩
 |r0 h=>exact .inl (Goes.running (λ_ _ x=>x.1) w (.refl _ _ _ _) h)
 |k1 h=>exact .inl (Goes.running (λ_ _ x=>x.1) w (.refl _ _ _ _) h)
 |d1 h=>exact .inl (Goes.running (λ_ _ x=>x.1) w (.refl _ _ _ _) h)
 |d2 h=>exact .inl (Goes.running (λ_ _ x=>x.1) w (.refl _ _ _ _) h)
 |d3 h=>exact .inl (Goes.running (λ_ _ x=>x.1) w (.refl _ _ _ _) h)
 |d4 h=>exact .inl (Goes.running (λ_ _ x=>x.1) w (.refl _ _ _ _) h)
 |quit h=>exact h.status.elim .inl λx=>.inr ⟨trivial,.inr x⟩
 |SI _ h=>exact .inl (Way.running (λ_ _ _ x=>x.1) h)
 |QN a h=>exact .inl (Way.running (λ_ _ _ x=>x.1) h)
 |SJ a h=>exact .inl (Way.running (λ_ _ _ x=>x.1) h)
 |SK h=>exact .inl (Way.running (λ_ _ _ x=>x.1) h)
 |QO h=>exact .inl (Way.running (λ_ _ _ x=>x.1) h)
 |QP h=>exact .inr ⟨trivial,.inl rfl⟩
 |SL h=>exact .inl (Way.running (λ_ _ _ x=>x.1) h)
 |QQ h=>exact .inl (Way.running (λ_ _ _ x=>x.1) h)
 |SM h=>exact .inl (Way.running (λ_ _ _ x=>x.1) h)
 |SO h=>exact .inl (Way.running (λ_ _ _ x=>x.1) h)
 |Qt h=>exact h.status.elim .inl λx=>.inr ⟨trivial,.inr x⟩
def oY(b:Bool):fY->fY
 | .cl .blk=>if b then .cl .w3 else .cl .blk
 |r=>r
def kV(P:eE)(g a:eA):Bool:=mayWake P g&&a.status != .blocked&&a.status != .waiting
theorem FB(g a o:eA)(w':er):woken P g a w' o=if kV P g a then o.again w' else o:=by unfold woken kV;rfl
theorem nO.again(h:nO P ty Wg Ch n rd0 val End ro τ d own rd g w)(b:Bool){s:Nat}{c:Bool}(k:w.heap[Ch]? =some (.chan 0 #[] c s s false))(l:c=true->(∀r S,ro≠ .rc r S 1)/\∀i,ro≠ .wk i 8):
 nO P ty Wg Ch n rd0 val End (oY b ro) τ d own rd (if b then g.again w else g) w:=by
 cases b with
 |false=>
  simp only[jE,gy];have:oY false ro=ro:=by unfold oY;split<;>simp
  rw[this];exact h
 |true=>
  simp only[fF];have a:g.status=.running\/g.status=.finished->oY true ro=ro->nO P ty Wg Ch n rd0 val End (oY true ro) τ d own rd (g.again w) w:=λf e=>by rw[again_running w f,e];exact h
  obtain f|⟨j,f⟩:=h.running;refine a (.inl f) ?_;cases h with
  |QP h=>cases f
  |_=>rfl
  cases h with
  |old h=>exact a (.inr (f.resolve_left (by obtain x|x:=h.status<;>rw[x]<;>simp))) rfl
  |Nq h=>
   cases c with
   |true=>exact absurd rfl ((l rfl).1 _ _)
   |false=>rw[again_recv_open k];exact .Nq h
  |vK h=>
   cases c with
   |true=>exact absurd rfl ((l rfl).2 _)
   |false=>rw[again_send_open k];exact .vK h
  |quit h=>exact a (.inr (f.resolve_left (by obtain x|x:=h.status<;>rw[x]<;>simp))) rfl
  |QP h=>
   have m:=h w (.refl _ _ _ _);rw[Go.ConcR.again_blocked m.1 m.2.1];exact .QO (.here h)
  |Qt h=>exact a (.inr (f.resolve_left (by obtain x|x:=h.status<;>rw[x]<;>simp))) rfl
  |_=>exact j.elim
end
section
variable(P:eE)(ty:eD)(Wg Ch n:Nat)(rd0:Nat->Prop)(val:Nat->eu->(Nat->Prop)->er->Prop)(End:jV)(w0:er)(B0 m0:Nat)
structure Com(ro:Nat->fY)(rk:Nat->WT)(dd:Nat->Nat)(G:Gh)(cl:Bool)(gs:Array eA)(w:er)(t:Trace):Prop where
 sit:∀(k:Nat) (g:eA),gs[k]? =some g->nO P ty Wg Ch n rd0 val End (ro k) (rk k) (dd k) (G.own k) (G.rd k) g w
 kn:Kn.iT G w.heap.size t
 fits:G.Fits w.heap.size
 deaf:∀k,Deaf t k=dd k
 above:∀k,gs.size<=k->dd k=0
 wg:∀b,G.wg b↔b=Wg\/b=Ch
 off:∀k b,G.own k b\/G.rd k b->b≠Ch
 wgch:Wg≠Ch
 wglow:Wg<w.heap.size
 gsz:∀i k,G.t0<=i->t.g? i=some k->k<gs.size
 new:∀k b,G.own k b->B0<=b
 base:∀b,b<B0->b≠Wg->b≠Ch->w.heap[b]? =w0.heap[b]?
 grown:B0<=w.heap.size
 world:w.tape=w0.tape/\w.os=w0.os/\w.output=w0.output
 live:Lv ty Wg w
 ch:∃s,w.heap[Ch]? =some (.chan 0 #[] cl s s false)
end
section
variable{P:eE}{ty:eD}{Wg Ch n:Nat}{rd0:Nat->Prop}{val:Nat->eu->(Nat->Prop)->er->Prop}{End:jV}{w0:er}{B0 m0:Nat} {ro:Nat->fY}{rk:Nat->WT}{dd:Nat->Nat}{G:Gh}{cl:Bool}{gs:Array eA}{w w':er}{t:Trace}
structure Ae(Wg:Nat)(own:Nat->Prop)(w w':er):Prop where
 tape:w'.tape=w.tape
 os:w'.os=w.os
 output:w'.output=w.output
 size:w.heap.size<=w'.heap.size
 same:∀b,b<w.heap.size->¬own b->b≠Wg->w'.heap[b]? =w.heap[b]?
theorem Com.TM(h:Com P ty Wg Ch n rd0 val End w0 B0 ro rk dd G cl gs w t){k:Nat}(c:Ae Wg (G.own k) w w')(e:Lv ty Wg w'){x:Nat}(f:x≠k):gd (G.own x) (G.rd x) (Lv ty Wg) w w':=by refine⟨c.tape,c.os,c.output,c.size,λb g a=>c.same b g (λd=>?_) ?_,λ_=>e⟩;obtain a|a:=a;exact f (h.fits.one _ _ _ a d);exact h.fits.still _ _ _ d a;rintro rfl;obtain a|a:=a;exact h.fits.ownwg _ _ a ((h.wg _).2 (.inl rfl));exact h.fits.rdwg _ _ a ((h.wg _).2 (.inl rfl))
theorem Com.go(h:Com P ty Wg Ch n rd0 val End w0 B0 ro rk dd G cl gs w t){k:Nat}{g z:eA}{m:Array Event}{r':fY}{τ':WT}(L:gs[k]? =some g) (M:cl=true->∀x,x<gs.size->(∀r S,ro x≠ .rc r S 1)/\∀i,ro x≠ .wk i 8) (c:Ae Wg (G.own k) w w')(F:Lv ty Wg w')(C:pH G k (dd k) w.heap.size w'.heap.size m)(H:G.done k->w'.heap.size=w.heap.size) (N:nO P ty Wg Ch n rd0 val End r' τ' (deafBehind (dd k) m) ((G.grow k w.heap.size w'.heap.size).own k) (G.rd k) z w'):
 Com P ty Wg Ch n rd0 val End w0 B0 (upd (λx=>oY (kV P g z) (ro x)) k r') (upd rk k τ') (upd dd k (deafBehind (dd k) m)) (G.grow k w.heap.size w'.heap.size) cl
  ((gs.map (woken P g z w')).setIfInBounds k z) w' (t++MemOp.ofEvents k g.frame.fn g.frame.place m):=by
 have p:k<gs.size:=(ik.1 L).1;obtain⟨s,f⟩:=h.ch;have d:w'.heap[Ch]? =some (.chan 0 #[] cl s s false):=by rw[c.same Ch (lt_of_heap f) (λx=>h.off k _ (.inl x) rfl) (jb h.wgch)];exact f
 have I:∀A∈MemOp.ofEvents k g.frame.fn g.frame.place m,A.g=k:=λA j=>by obtain⟨e,_,rfl⟩:=Go.Conc.mem_ofEvents j;rfl
 refine⟨λx o B=>?_,h.kn.step h.fits c.size H (by rw[h.deaf];exact C),h.fits.grow c.size k H,λx=>?_,λx D=>?_,h.wg,λx b a=>?_,h.wgch,fN h.wglow c.size,λi x O D=>?_,λx b a=>?_,λb a J Q=>?_,ff h.grown c.size,
  ⟨c.tape.trans h.world.1,c.os.trans h.world.2.1,c.output.trans h.world.2.2⟩,F,⟨s,d⟩⟩
 by_cases e:x=k;subst e;rw[mG (by simpa using p)]at B;obtain rfl:=eP B;rw[upd_same,upd_same,upd_same];exact N;rw[gm (jb e),tk]at B;obtain⟨y,K,rfl⟩:=jo.1 B;rw[upd_ne _ _ e,upd_ne _ _ e,upd_ne _ _ e,FB];have R:(G.grow k w.mN w'.mN).own x=G.own x:=by funext b;apply propext;exact⟨λa=>a.elim id λa=>absurd a.1 e,.inl⟩
 rw[R];exact((h.sit x y K).rely (h.TM c F e)).again _ d (λT=>M T x (ik.1 K).1);by_cases e:x=k;subst e;rw[Deaf_own,h.deaf,upd_same];rw[Deaf_other t (jb e) _ I,h.deaf,upd_ne _ _ e];have E:gs.size<=x:=by simpa using D
 rw[upd_ne _ _ (by omega)];exact h.above x E;obtain(a|⟨_,q,U⟩)|a:=a;exact h.off x b (.inl a);have:=lt_of_heap f;omega;exact h.off x b (.inr a);obtain⟨A,j,l⟩:=jo.1 D;obtain⟨V,u⟩|⟨_,v⟩:=getElem?_append_cases j;have:=h.gsz i x O (by simp[Trace.g?,u,l]);simpa using this;rw[I A v]at l;subst l;simpa using p;obtain a|⟨_,q,_⟩:=a;exact h.new x b a;exact ff h.grown q;rw[c.same b (fN a h.grown) (λx=>by have:=h.new k b x;omega) J];exact h.base b a J Q
end
def l8:fY->Nat
 | .wk _ s=>s
 |_=>0
def cnt(s:Nat):Nat:=if 5<=s then 1 else 0
def V(n m0:Nat)(ro:Nat->fY):Nat:=sumTo n λi=>cnt (l8 (ro (m0+i)))
def Sg(n m0:Nat)(ro:Nat->fY):Nat:=sumTo n λi=>l8 (ro (m0+i))
def pend:fY->Nat
 | .st _ s=>if s<=4 then 1 else 0
 |_=>0
def isOpen:fY->Prop
 | .none| .cl .kd| .cl .w1| .cl (.w2 _)=>True
 |_=>False
def isW3:fY->Prop
 | .cl .sw| .cl .w3| .cl .blk=>True
 |_=>False
def isFin:fY->Prop
 | .cl .w4| .cl .ke| .cl .ac| .cl .cl| .cl .quit=>True
 |_=>False
def OpenSt(n m0:Nat)(ro:Nat->fY):Prop:=∀i,i<n->l8 (ro (m0+i))=0\/5<=l8 (ro (m0+i))\/l8 (ro (m0+i))=1
def AllQuit(n m0:Nat)(ro:Nat->fY):Prop:=∀i,i<n->l8 (ro (m0+i))=1
inductive Mode (n m0:Nat) (ro:Nat->fY):Int->Int->Prop
 |opn:isOpen (ro (m0+n))->OpenSt n m0 ro->(∀vs,ro (m0+n)=.cl (.w2 vs)->V n m0 ro<=vs/\1<=vs)->Mode n m0 ro (((V n m0 ro+pend (ro 0):Nat):Int)*KK) 0
 |reg:isW3 (ro (m0+n))->OpenSt n m0 ro->1<=V n m0 ro->Mode n m0 ro (((V n m0 ro:Nat):Int)*KK+1) 0
 |last (L:Nat):isW3 (ro (m0+n))->L<n->(l8 (ro (m0+L))=4\/l8 (ro (m0+L))=3\/l8 (ro (m0+L))=2)->(∀i,i<n->i≠L->l8 (ro (m0+i))=1)->Mode n m0 ro (if l8 (ro (m0+L))=2 then 0 else 1) 0
 |sema:(ro (m0+n)=.cl .sw\/ro (m0+n)=.cl .w3)->AllQuit n m0 ro->Mode n m0 ro 0 1
 |fin:isFin (ro (m0+n))->AllQuit n m0 ro->Mode n m0 ro 0 0
inductive UC (n m0:Nat) (ro:Nat->fY) (cl:Bool) (size:Nat):Prop
 |st (r s:Nat) (h0:ro 0=.st r s) (hs:2<=s/\s<=6) (hr:r<n) (hc:ro (m0+n)=.none) (hz:size=m0+(n-(r+1))) (hw:∀i,i<n-(r+1)->∃s,ro (m0+i)=.wk i s/\(s=9\/s=8)) (hn:∀i,n-(r+1)<=i->i<n->ro (m0+i)=.none)
 |vi (h0:ro 0=.vi) (hc:ro (m0+n)=.none) (hz:size=m0+n) (hw:∀i,i<n->∃s,ro (m0+i)=.wk i s/\(s=9\/s=8))
 |rc (r:Nat) (S:Nat->Bool) (s:Nat) (h0:ro 0=.rc r S s) (hc:∃c,ro (m0+n)=.cl c) (hz:size=m0+n+1) (hw:∀i,i<n->∃s,ro (m0+i)=.wk i s/\1<=s/\s<=9/\(S i=true↔s<=7))
  (hS:r+sumTo n (λi=>if S i then 1 else 0)=n) (hs:s=2\/(s=1/\cl=false/\∀i,i<n->l8 (ro (m0+i))≠8))
def sayOf(m0 n:Nat):fY->Nat
 | .none=>0
 |_=>m0+n
structure Pl(n m0:Nat)(ro:Nat->fY)(cl:Bool)(G:Gh)(size:Nat)(st sm:Int):Prop where
 pos:0<m0
 lay:UC n m0 ro cl size
 old:∀k,0<k->k<m0->ro k=.old
 clq:cl=true↔ro (m0+n)=.cl .quit
 mode:Mode n m0 ro st sm
 usr:∀k,G.user k↔k=0\/(m0<=k/\k<size)
 say:G.sayer=sayOf m0 n (ro (m0+n))
 done:∀k,G.done k↔(0<k/\k<m0)\/∃i s,ro k=.wk i s/\s<=7
def vL(n:Nat):fY->Nat
 | .st r s=>12*n+64+20*(r+1)+s
 | .vi=>12*n+64
 | .rc r _ s=>4*r+s
 |_=>0
def qM(n v:Nat):fY->Nat
 | .cl .kd=>8*n+9
 | .cl .w1=>8*v+7
 | .cl (.w2 a)=>8*a+6
 | .cl .sw=>9
 | .cl .w3=>8
 | .cl .blk=>8
 | .cl .w4=>7
 | .cl .ke=>6
 | .cl .ac=>5
 | .cl .cl=>4
 | .cl .quit=>1
 |_=>0
def FC:fY->Nat
 | .cl .w3=>1
 |_=>0
def meas(n m0:Nat)(ro:Nat->fY):Nat:=vL n (ro 0)+Sg n m0 ro+qM n (V n m0 ro) (ro (m0+n))
def Lw(n:Nat){v a:Nat}(h:a<=v)(r:fY):qM n a r<=qM n v r:=by unfold qM;split<;>omega
def qw(b:Bool)(r:fY):l8 (oY b r)=l8 r:=by unfold oY;split;cases b<;>rfl;rfl
def NP(n:Nat)(b:Bool)(r:fY):vL n (oY b r)=vL n r:=by unfold oY;split;cases b<;>rfl;rfl
def NQ(n v:Nat)(b:Bool)(r:fY):qM n v (oY b r)=qM n v r:=by unfold oY;split;cases b<;>rfl;rfl
def rR(b:Bool)(r:fY):oY b r=r\/(b=true/\r=.cl .blk/\oY b r=.cl .w3):=by unfold oY;split;cases b;exact .inl rfl;exact .inr ⟨rfl,rfl,rfl⟩;exact .inl rfl
def xK{b:Bool}{r:fY}(h:r≠ .cl .blk):oY b r=r:=(rR b r).resolve_right λx=>h x.2.1
def TN(b:Bool)(r:fY)(i s:Nat):oY b r=.wk i s↔r=.wk i s:=by obtain h|⟨_,a,c⟩:=rR b r;rw[h];rw[c,a];simp
section
variable{n m0:Nat}{ro:Nat->fY}{cl:Bool}{G:Gh}{size:Nat}{st sm:Int}
def Cy(b:Bool):V n m0 (λx=>oY b (ro x))=V n m0 ro:=sumTo_congr λi _=>by simp only[qw]
def TO(b:Bool):Sg n m0 (λx=>oY b (ro x))=Sg n m0 ro:=sumTo_congr λi _=>by simp only[qw]
def wI(b:Bool):meas n m0 (λx=>oY b (ro x))=meas n m0 ro:=by unfold meas;rw[Cy,TO,NP,NQ]
def Pl.QS(h:Pl n m0 ro cl G size st sm)(b:Bool):Pl n m0 (λx=>oY b (ro x)) cl G size st sm:=by
 refine⟨h.pos,?_,λk a d=>by simp only[h.old k a d];rfl,?_,?_,h.usr,?_,λk=>?_⟩;cases h.lay with
 |st r s j q v g l m w=>
  exact .st r s (by simp only[j];rfl) q v (by simp only[g];rfl) l (λi f=>let⟨s,a,d⟩:=m i f;⟨s,by simp only[a];rfl,d⟩) (λi a d=>by simp only[w i a d];rfl)
 |vi j g l m=>exact .vi (by simp only[j];rfl) (by simp only[g];rfl) l (λi f=>let⟨s,a,d⟩:=m i f;⟨s,by simp only[a];rfl,d⟩)
 |rc r S s j g l m A q=>
  refine .rc r S s (by simp only[j];rfl) ?_ l (λi f=>let⟨s,a,d⟩:=m i f;⟨s,by simp only[a];rfl,d⟩) A (q.imp id λ⟨x,y,z⟩=>⟨x,y,λi f=>by rw[qw];exact z i f⟩);obtain⟨c,g⟩:=g;obtain e|⟨_,_,e⟩:=rR b (ro (m0+n));exact⟨c,by(try simp only);rw[e];exact g⟩;exact⟨_,e⟩
 rw[h.clq];obtain e|⟨_,o,e⟩:=rR b (ro (m0+n));(try simp only);rw[e];(try simp only);rw[e,o];simp;have t:OpenSt n m0 ro->OpenSt n m0 (λx=>oY b (ro x)):=λh i f=>by simp only[qw];exact h i f
 have u:AllQuit n m0 ro->AllQuit n m0 (λx=>oY b (ro x)):=λh i f=>by simp only[qw];exact h i f
 cases h.mode with
 |opn a d p=>
  have e:oY b (ro (m0+n))=ro (m0+n):=xK λe=>by rw[e]at a;exact a
  have:=Mode.opn (n:=n) (m0:=m0) (ro:=λx=>oY b (ro x)) (by(try simp only);rw[e];exact a) (t d) (λB C=>by rw[Cy];exact p B (e.symm.trans C));rw[Cy]at this;have D:pend (oY b (ro 0))=pend (ro 0):=by obtain e|⟨_,o,e⟩:=rR b (ro 0);rw[e];rw[e,o];rfl
  simp only[D]at this;exact this
 |reg a d p=>
  have:=Mode.reg (n:=n) (m0:=m0) (ro:=λx=>oY b (ro x)) (by obtain e|⟨_,_,e⟩:=rR b (ro (m0+n));(try simp only);rw[e];exact a;(try simp only);rw[e];trivial) (t d) (by rw[Cy];exact p);rw[Cy]at this;exact this
 |last L a d p E=>
  have:=Mode.last (n:=n) (m0:=m0) (ro:=λx=>oY b (ro x)) L (by obtain e|⟨_,_,e⟩:=rR b (ro (m0+n));(try simp only);rw[e];exact a;(try simp only);rw[e];trivial) d (by simp only[qw];exact p) (λi f F=>by simp only[qw];exact E i f F);simp only[qw]at this;exact this
 |sema a d=>exact .sema (by obtain a|a:=a<;>simp only[a]<;>simp[oY]) (u d)
 |fin a d=>
  refine .fin ?_ (u d);have e:oY b (ro (m0+n))=ro (m0+n):=xK λe=>by rw[e]at a;exact a
  (try simp only);rw[e];exact a
 rw[h.say];obtain e|⟨_,o,e⟩:=rR b (ro (m0+n));rw[e];rw[e,o];rfl;rw[h.done];simp only[TN]
def Pl.lt_size(h:Pl n m0 ro cl G size st sm){k:Nat}(q:k<size):k=0\/(0<k/\k<m0)\/(∃i s,i<n/\k=m0+i/\ro k=.wk i s/\1<=s/\s<=9)\/(k=m0+n/\∃c,ro k=.cl c):=by
 obtain rfl|m:=ri k;exact .inl rfl;obtain d|d:=gQ k m0;exact .inr (.inl ⟨m,d⟩);obtain⟨i,rfl⟩:=Nat.exists_eq_add_of_le d;cases h.lay with
 |st r s j o t e l a u=>
  obtain⟨s,b,f⟩:=a i (by omega);exact .inr (.inr (.inl ⟨i,s,by omega,rfl,b,by omega,by omega⟩))
 |vi j e l a=>
  obtain⟨s,b,f⟩:=a i (by omega);exact .inr (.inr (.inl ⟨i,s,by omega,rfl,b,by omega,by omega⟩))
 |rc r S s j e l a v o=>
  obtain g|g:=gQ i n;obtain⟨s,b,f,p,_⟩:=a i g;exact .inr (.inr (.inl ⟨i,s,g,rfl,b,f,p⟩));obtain rfl:i=n:=by omega
  exact .inr (.inr (.inr ⟨rfl,e⟩))
end
section
variable{n m0:Nat}{ro:Nat->fY}{cl:Bool}{G:Gh}{size:Nat}{st sm:Int}{r':fY}
def uM(ro:Nat->fY)(m0 i:Nat)(x:fY)(a:Nat):upd ro (m0+i) x (m0+a)=upd (λa=>ro (m0+a)) i x a:=by unfold upd;by_cases h:a=i;subst h;simp;rw[ez (by omega),ez h]
def NR(i:Nat)(b:i<n)(x:fY):V n m0 (upd ro (m0+i) x)+cnt (l8 (ro (m0+i)))=V n m0 ro+cnt (l8 x):=by have:=sumTo_upd (λa=>ro (m0+a)) x (λr=>cnt (l8 r)) b;simp only[V,uM];exact this
def SP(i:Nat)(b:i<n)(x:fY):Sg n m0 (upd ro (m0+i) x)+l8 (ro (m0+i))=Sg n m0 ro+l8 x:=by have:=sumTo_upd (λa=>ro (m0+a)) x l8 b;simp only[Sg,uM];exact this
def rn{k:Nat}(a:k<m0\/m0+n<=k)(x:fY):V n m0 (upd ro k x)=V n m0 ro:=sumTo_congr λi b=>by rw[upd_ne ro x (by omega)]
def tF{k:Nat}(a:k<m0\/m0+n<=k)(x:fY):Sg n m0 (upd ro k x)=Sg n m0 ro:=sumTo_congr λi b=>by rw[upd_ne ro x (by omega)]
def rp{b:Type}(f:Nat->b)(k:Nat):upd f k (f k)=f:=by funext a;unfold upd;split;rename_i h;rw[h];rfl
def NS(n m0:Nat)(ro:Nat->fY):V n m0 ro<=n:=by
 have:=sumTo_le (f:=λi=>cnt (l8 (ro (m0+i)))) (c:=1) (j:=n) λi _=>by simp only[cnt];split<;>omega
 simpa[V]using this
def NT{i:Nat}(a:i<n)(h:5<=l8 (ro (m0+i))):1<=V n m0 ro:=by have:=le_sumTo (f:=λi=>cnt (l8 (ro (m0+i)))) a;simp only[V];simp only[cnt,eC h]at this;exact this
def pJ(a:0<m0)(h:vL n r'<vL n (ro 0)):meas n m0 (upd ro 0 r')<meas n m0 ro:=by unfold meas;rw[rn (.inl a),tF (.inl a),upd_same,upd_ne ro r' (show m0+n≠0 by omega)];omega
def oZ(b:0<m0){i:Nat}(a:i<n)(c:l8 r'<l8 (ro (m0+i))):meas n m0 (upd ro (m0+i) r')<meas n m0 ro:=by
 unfold meas;have d:=NR (ro:=ro) (m0:=m0) i a r';have e:=SP (ro:=ro) (m0:=m0) i a r';rw[upd_ne ro r' (show 0≠m0+i by omega),upd_ne ro r' (show m0+n≠m0+i by omega)];have f:cnt (l8 r')<=cnt (l8 (ro (m0+i))):=by simp only[cnt];split<;>split<;>omega
 have:=Lw n (show V n m0 (upd ro (m0+i) r')<=V n m0 ro by omega) (ro (m0+n));omega
def oi(a:0<m0)(h:qM n (V n m0 ro) r'<qM n (V n m0 ro) (ro (m0+n))):meas n m0 (upd ro (m0+n) r')<meas n m0 ro:=by unfold meas;rw[rn (.inr (eF _)),tF (.inr (eF _)),upd_same,upd_ne ro r' (show 0≠m0+n by omega)];omega
def Mode.zero(k:0<m0)(h:Mode n m0 ro st sm)(l:pend r'=pend (ro 0)):Mode n m0 (upd ro 0 r') st sm:=by
 have e:upd ro 0 r' (m0+n)=ro (m0+n):=upd_ne ro r' (by omega);have d:∀i,upd ro 0 r' (m0+i)=ro (m0+i):=λi=>upd_ne ro r' (by omega);have g:V n m0 (upd ro 0 r')=V n m0 ro:=rn (.inl k) r';cases h with
 |opn a b f=>
  have:=Mode.opn (n:=n) (m0:=m0) (ro:=upd ro 0 r') (by rw[e];exact a) (λi c=>by rw[d];exact b i c) (λm j=>by rw[g];rw[e]at j;exact f m j);rwa[g,upd_same,l]at this
 |reg a b f=>
  have:=Mode.reg (n:=n) (m0:=m0) (ro:=upd ro 0 r') (by rw[e];exact a) (λi c=>by rw[d];exact b i c) (by rw[g];exact f);rwa[g]at this
 |last L a b f o=>
  have:=Mode.last (n:=n) (m0:=m0) (ro:=upd ro 0 r') L (by rw[e];exact a) b (by rw[d];exact f) (λi c p=>by rw[d];exact o i c p);rwa[d]at this
 |sema a b=>exact .sema (by rw[e];exact a) λi c=>by rw[d];exact b i c
 |fin a b=>exact .fin (by rw[e];exact a) λi c=>by rw[d];exact b i c
def Pl.zero(h:Pl n m0 ro cl G size st sm)(d:UC n m0 (upd ro 0 r') cl size)(f:∀i s,r'≠ .wk i s)(g:∀i s,ro 0≠ .wk i s){a b:Int}(j:Mode n m0 (upd ro 0 r') a b):Pl n m0 (upd ro 0 r') cl G size a b:=by have c:upd ro 0 r' (m0+n)=ro (m0+n):=upd_ne ro r' (by have:=h.pos;omega);refine⟨h.pos,d,λk l m=>by rw[upd_ne ro r' (by omega)];exact h.old k l m,by rw[c];exact h.clq,j,h.usr,by rw[c];exact h.say,λk=>?_⟩;rw[h.done];refine or_congr nR ?_;by_cases e:k=0;subst e;rw[upd_same];exact⟨λ⟨i,s,x,_⟩=>absurd x (g i s),λ⟨i,s,x,_⟩=>absurd x (f i s)⟩;rw[upd_ne ro r' e]
def Pl.NU(h:Pl n m0 ro cl G size st sm){r s b:Nat}(c:ro 0=.st r s)(g:2<=b/\b<=6):UC n m0 (upd ro 0 (.st r b)) cl size:=by
 have u:=h.pos;cases h.lay with
 |st j k a l m d e f o=>
  rw[c]at a;cases a;exact .st r b (upd_same _ _ _) g m (by rw[upd_ne ro _ (by omega)];exact d) e (λi p=>by rw[upd_ne ro _ (by omega)];exact f i p) (λi q t=>by rw[upd_ne ro _ (by omega)];exact o i q t)
 |vi a d e f=>rw[c]at a;cases a
 |rc j S k a d e f v l=>rw[c]at a;cases a
def Pl.DR(h:Pl n m0 ro cl G size st sm){r s a:Nat}(b:ro 0=.st r s)(c:2<=a/\a<=6)(d:s<=4↔a<=4):Pl n m0 (upd ro 0 (.st r a)) cl G size st sm:=
 h.zero (h.NU b c) (by simp) (by simp[b]) (h.mode.zero h.pos (by rw[b];simp only[pend,d]))
def Pl.DT(h:Pl n m0 ro cl G size st sm){r s:Nat}(b:ro 0=.st r s):ro (m0+n)=.none/\r<n/\size=m0+(n-(r+1)):=by
 cases h.lay with
 |st f g a i j c d e k=>rw[b]at a;cases a;exact⟨c,j,d⟩
 |vi a c d e=>rw[b]at a;cases a
 |rc f S g a c d e l i=>rw[b]at a;cases a
def Pl.Is(h:Pl n m0 ro cl G size st sm){r s':Nat}(c:ro 0=.st r 5)(g:s'=4\/s'=3):st=((V n m0 ro:Nat):Int)*KK/\sm=0/\Pl n m0 (upd ro 0 (.st r s')) cl G size (((V n m0 ro:Nat)+1:Int)*KK) 0:=by
 have b:=(h.DT c).1;have j:=h.pos;cases s:h.mode with
 |opn a k l=>
  rw[c];refine⟨by simp[pend],rfl,h.zero (h.NU c (by omega)) (by simp) (by simp[c]) ?_⟩;have d:upd ro 0 (fY.st r s') (m0+n)=ro (m0+n):=upd_ne ro _ (by omega);have m:∀i,upd ro 0 (fY.st r s') (m0+i)=ro (m0+i):=λi=>upd_ne ro _ (by omega);have e:V n m0 (upd ro 0 (fY.st r s'))=V n m0 ro:=rn (.inl j) _;have:=Mode.opn (n:=n) (m0:=m0) (ro:=upd ro 0 (fY.st r s')) (by rw[d];exact a) (λi o=>by rw[m];exact k i o) (λp f=>by rw[e];rw[d]at f;exact l p f);rw[e,upd_same]at this;have q:pend (fY.st r s')=1:=by obtain rfl|rfl:=g<;>rfl
  rw[q]at this;simpa using this
 |reg a _ _=>rw[b]at a;exact a.elim
 |last L a _ _ _=>rw[b]at a;exact a.elim
 |sema a _=>rw[b]at a;obtain a|a:=a<;>cases a
 |fin a _=>rw[b]at a;exact a.elim
def qN:Nat->fY
 |0=>.vi
 |r+1=>.st r 6
def Pl.spawn{G':Gh}(h:Pl n m0 ro cl G size st sm){r:Nat}(j:ro 0=.st r 2)(E:∀k,G'.user k↔G.user k\/k=size)(q:G'.sayer=G.sayer)(F:G'.done=G.done):Pl n m0 (upd (upd ro size (.wk (n-(r+1)) 9)) 0 (qN r)) cl G' (size+1) st sm/\meas n m0 (upd (upd ro size (.wk (n-(r+1)) 9)) 0 (qN r))<meas n m0 ro:=by
 have t:=h.pos;cases h.lay with
 |vi d c u o=>rw[j]at d;cases d
 |rc H S I d c u o N J=>rw[j]at d;cases d
 |st H I d J O c u o B=>
 rw[j]at d;cases d;generalize l:qN r=x;have v:∀i s,x≠ .wk i s:=by subst l;cases r<;>simp[qN]
 subst u;have w:n-(r+1)<n:=by omega
 have A:ro (m0+(n-(r+1)))=.none:=B _ (eF _) w;have b:∀i,upd (upd ro (m0+(n-(r+1))) (fY.wk (n-(r+1)) 9)) 0 x (m0+i)=if i=n-(r+1)then fY.wk (n-(r+1)) 9 else ro (m0+i):=by intro i;rw[upd_ne _ _ (by omega),uM];rfl
 have f:upd (upd ro (m0+(n-(r+1))) (fY.wk (n-(r+1)) 9)) 0 x (m0+n)=.none:=by rw[b,ez (by omega)];exact c
 have C:V n m0 (upd (upd ro (m0+(n-(r+1))) (fY.wk (n-(r+1)) 9)) 0 x)=V n m0 ro+1:=by rw[rn (.inl t)];have:=NR (ro:=ro) (m0:=m0) (n-(r+1)) w (.wk (n-(r+1)) 9);rw[A]at this;simpa[l8,cnt]using this
 have K:Sg n m0 (upd (upd ro (m0+(n-(r+1))) (fY.wk (n-(r+1)) 9)) 0 x)=Sg n m0 ro+9:=by rw[tF (.inl t)];have:=SP (ro:=ro) (m0:=m0) (n-(r+1)) w (.wk (n-(r+1)) 9);rw[A]at this;simpa[l8]using this
 refine⟨⟨t,?_,λk a m=>by rw[upd_ne _ _ (by omega),upd_ne _ _ (by omega)];exact h.old k a m,?_,?_,λk=>?_,?_,λk=>?_⟩,?_⟩;cases r with
 |zero=>
  subst l;refine .vi (upd_same _ _ _) f (by omega) λi g=>?_;rw[b];split;rename_i e;subst e;exact⟨9,rfl,.inl rfl⟩;exact o i (by omega)
 |succ r=>
  subst l;refine .st r 6 (upd_same _ _ _) (by omega) (by omega) f (by omega) (λi g=>?_) λi a m=>?_;rw[b];split;rename_i e;subst e;exact⟨9,rfl,.inl rfl⟩;exact o i (by omega);rw[b,ez (by omega)];exact B i (by omega) m
 rw[f,h.clq,c];cases P:h.mode with
 |opn a m Q=>
  have:=Mode.opn (n:=n) (m0:=m0) (ro:=upd (upd ro (m0+(n-(r+1))) (fY.wk (n-(r+1)) 9)) 0 x) (by rw[f];trivial) (λi g=>by rw[b];split;exact .inr (.inl (by simp[l8]));exact m i g) (λR D=>by rw[f]at D;cases D);rw[C,upd_same]at this;have M:pend x=0:=by subst l;cases r<;>rfl
  have p:pend (ro 0)=1:=by rw[j];rfl
  rw[M]at this;rw[p];simpa using this
 |reg a _ _=>rw[c]at a;exact a.elim
 |last L a _ _ _=>rw[c]at a;exact a.elim
 |sema a _=>rw[c]at a;obtain a|a:=a<;>cases a
 |fin a _=>rw[c]at a;exact a.elim
 rw[E,h.usr];omega;rw[f,q,h.say,c];rw[F,h.done];refine or_congr nR ?_;by_cases e:k=0;subst e;rw[upd_same,j];exact⟨λ⟨i,s,y,_⟩=>(nomatch y),λ⟨i,s,y,_⟩=>absurd y (v i s)⟩;rw[upd_ne _ _ e];by_cases p:k=m0+(n-(r+1));subst p;rw[upd_same,A];exact⟨λ⟨i,s,y,_⟩=>(nomatch y),λ⟨i,s,y,z⟩=>by cases y;omega⟩;rw[upd_ne _ _ p];unfold meas;rw[C,K,f,upd_same,c,j];subst l;cases r<;>simp[qN,vL,qM]<;>omega
end
section
variable{n m0:Nat}{ro:Nat->fY}{cl:Bool}{G:Gh}{size:Nat}{st sm:Int}{r':fY}
theorem vM:∀n,sumTo n (λ_=>0)=0
 |0=>rfl
 |n+1=>by simp[sumTo,vM n]
theorem Cz:∀n,sumTo n (λ_=>1)=n
 |0=>rfl
 |n+1=>by simp[sumTo,Cz n]
def J0{s:Nat}(h:5<=s):cnt s=1:=eC h
def DU{s:Nat}(h:¬5<=s):cnt s=0:=ez h
def Pl.TP{G':Gh}(h:Pl n m0 ro cl G size st sm)(g:ro 0=.vi)(x:∀k,G'.user k↔G.user k\/k=size)(o:G'.sayer=m0+n)(A:G'.done=G.done):
 size=m0+n/\Pl n m0 (upd (upd ro (m0+n) (.cl .kd)) 0 (.rc n (λ_=>false) 2)) cl G' (m0+n+1) st sm/\
  meas n m0 (upd (upd ro (m0+n) (.cl .kd)) 0 (.rc n (λ_=>false) 2))<meas n m0 ro:=by
 have p:=h.pos;cases h.lay with
 |st B C c D F b q r H=>rw[g]at c;cases c
 |rc B S C c b q r I D=>rw[g]at c;cases c
 |vi c b q r=>
 subst q;have j:∀i,i<n->upd (upd ro (m0+n) (fY.cl .kd)) 0 (.rc n (λ_=>false) 2) (m0+i)=ro (m0+i):=by intro i d;rw[upd_ne _ _ (by omega),upd_ne _ _ (by omega)]
 have f:upd (upd ro (m0+n) (fY.cl .kd)) 0 (.rc n (λ_=>false) 2) (m0+n)=.cl .kd:=by rw[upd_ne _ _ (by omega),upd_same]
 have u:V n m0 (upd (upd ro (m0+n) (fY.cl .kd)) 0 (.rc n (λ_=>false) 2))=V n m0 ro:=by rw[rn (.inl p),rn (.inr (eF _))]
 have E:Sg n m0 (upd (upd ro (m0+n) (fY.cl .kd)) 0 (.rc n (λ_=>false) 2))=Sg n m0 ro:=by rw[tF (.inl p),tF (.inr (eF _))]
 have l:cl=false:=by
  cases t:cl with
  |false=>rfl
  |true=>have:=h.clq.1 t;rw[b]at this;cases this
 refine⟨rfl,⟨p,.rc n (λ_=>false) 2 (upd_same _ _ _) ⟨_,f⟩ rfl (λi d=>?_) (by have:=vM n;simpa using this) (.inl rfl),λk a m=>by rw[upd_ne _ _ (by omega),upd_ne _ _ (by omega)];exact h.old k a m,by rw[f,l];simp,?_,λk=>by rw[x,h.usr];omega,by rw[f];exact o,λk=>?_⟩,?_⟩;obtain⟨s,a,m⟩:=r i d;exact⟨s,by rw[j i d];exact a,by omega,by omega,by simp;omega⟩;cases J:h.mode with
 |opn a m K=>
  have:=Mode.opn (n:=n) (m0:=m0) (ro:=upd (upd ro (m0+n) (fY.cl .kd)) 0 (.rc n (λ_=>false) 2)) (by rw[f];trivial) (λi d=>by rw[j i d];exact m i d) (λM v=>by rw[f]at v;cases v);rw[u,upd_same]at this;rw[g];exact this
 |reg a _ _=>rw[b]at a;exact a.elim
 |last L a _ _ _=>rw[b]at a;exact a.elim
 |sema a _=>rw[b]at a;obtain a|a:=a<;>cases a
 |fin a _=>rw[b]at a;exact a.elim
 rw[A,h.done];refine or_congr nR ?_;by_cases e:k=0;subst e;rw[upd_same,g];exact⟨λ⟨i,s,y,_⟩=>(nomatch y),λ⟨i,s,y,_⟩=>(nomatch y)⟩;rw[upd_ne _ _ e];by_cases w:k=m0+n;subst w;rw[upd_same,b];exact⟨λ⟨i,s,y,_⟩=>(nomatch y),λ⟨i,s,y,z⟩=>(nomatch y)⟩;rw[upd_ne _ _ w];unfold meas;rw[u,E,f,upd_same,b,g];simp only[vL,qM];omega
def Mode.counted(m:0<m0)(o:Mode n m0 ro st sm){i:Nat}(d:i<n)(p:5<=l8 (ro (m0+i)))(k:5<=l8 r'):Mode n m0 (upd ro (m0+i) r') st sm:=by
 have f:V n m0 (upd ro (m0+i) r')=V n m0 ro:=by have:=NR (ro:=ro) (m0:=m0) i d r';simp only[cnt,eC p,eC k]at this;omega
 have q:upd ro (m0+i) r' 0=ro 0:=upd_ne ro r' (by omega);have j:upd ro (m0+i) r' (m0+n)=ro (m0+n):=upd_ne ro r' (by omega);have l:OpenSt n m0 ro->OpenSt n m0 (upd ro (m0+i) r'):=λh a r=>by by_cases e:a=i;subst e;rw[upd_same];exact .inr (.inl k);rw[upd_ne ro r' (by omega)];exact h a r
 cases o with
 |opn c b g=>
  have:=Mode.opn (n:=n) (m0:=m0) (ro:=upd ro (m0+i) r') (by rw[j];exact c) (l b) (λs e=>by rw[f];rw[j]at e;exact g s e);rwa[f,q]at this
 |reg c b g=>
  have:=Mode.reg (n:=n) (m0:=m0) (ro:=upd ro (m0+i) r') (by rw[j];exact c) (l b) (by rw[f];exact g);rwa[f]at this
 |last L c b g t=>
  by_cases e:i=L;subst e;omega;have:=t i d e;omega
 |sema c b=>have:=b i d;omega
 |fin c b=>have:=b i d;omega
theorem UC.wk(h:UC n m0 ro cl size)(F:0<m0){i s c:Nat}(G:i<n)(e:ro (m0+i)=.wk i s)(w:(s=9/\c=8/\(∀r S,ro 0≠ .rc r S 1))\/(s<=7/\1<=c/\c<=7)):UC n m0 (upd ro (m0+i) (.wk i c)) cl size:=by
 have m:upd ro (m0+i) (fY.wk i c) 0=ro 0:=upd_ne ro _ (by omega);have o:upd ro (m0+i) (fY.wk i c) (m0+n)=ro (m0+n):=upd_ne ro _ (by omega);have d:∀a,upd ro (m0+i) (fY.wk i c) (m0+a)=if a=i then .wk i c else ro (m0+a):=λa=>by rw[uM];rfl
 cases h with
 |st p q j t A k l f B=>
  refine .st p q (m.trans j) t A (o.trans k) l (λa b=>?_) λa b C=>?_
  ·rw[d];split
   ·next x=>
    subst x;obtain⟨u,g,v⟩:=f a b;rw[e]at g;cases g;exact⟨c,rfl,by omega⟩
   ·exact f a b
  ·have:=B a b C;rw[d,ez (λx=>by subst x;rw[e]at this;cases this)];exact this
 |vi j k l f=>
  refine .vi (m.trans j) (o.trans k) l λa b=>?_;rw[d];split
  ·next x=>
   subst x;obtain⟨u,g,v⟩:=f a b;rw[e]at g;cases g;exact⟨c,rfl,by omega⟩
  ·exact f a b
 |rc p S q j k l f D t=>
  refine .rc p S q (m.trans j) (by rw[o];exact k) l (λa b=>?_) D (t.imp id λ⟨x,y,z⟩=>⟨x,y,λa b=>?_⟩)
  ·rw[d];split
   ·next x=>
    subst x;obtain⟨u,g,v,H,E⟩:=f a b;rw[e]at g;cases g;exact⟨c,rfl,by omega,by omega,E.trans (by omega)⟩
   ·exact f a b
  ·rw[d];split
   ·subst x;simp only[l8];obtain⟨_,_,x⟩|x:=w
    ·exact absurd j (x _ _)
    ·omega
   ·exact z a b
theorem Pl.wk(h:Pl n m0 ro cl G size st sm){i s c:Nat}(m:i<n)(e:ro (m0+i)=.wk i s)(o:(s=9/\c=8/\(∀r S,ro 0≠ .rc r S 1))\/(s<=7/\1<=c/\c<=7)){d f:Int}(p:Mode n m0 (upd ro (m0+i) (.wk i c)) d f):Pl n m0 (upd ro (m0+i) (.wk i c)) cl G size d f:=by have g:=h.pos;have j:upd ro (m0+i) (fY.wk i c) (m0+n)=ro (m0+n):=upd_ne ro _ (by omega);refine⟨g,h.lay.wk g m e o,λk q t=>by rw[upd_ne ro _ (by omega)];exact h.old k q t,by rw[j];exact h.clq,p,h.usr,by rw[j];exact h.say,λk=>?_⟩;rw[h.done];refine or_congr nR ?_;by_cases l:k=m0+i;subst l;rw[upd_same,e];constructor;rintro⟨a,b,x,y⟩;cases x;exact⟨i,c,rfl,by omega⟩;rintro⟨a,b,x,y⟩;cases x;exact⟨i,s,rfl,by omega⟩;rw[upd_ne ro _ l]
def Pl.UU(h:Pl n m0 ro cl G size st sm){i:Nat}(a:i<n)(e:ro (m0+i)=.wk i 9)(b:∀r S,ro 0≠ .rc r S 1):Pl n m0 (upd ro (m0+i) (.wk i 8)) cl G size st sm:=
 h.wk a e (.inl ⟨rfl,rfl,b⟩) (h.mode.counted h.pos a (by rw[e];simp[l8]) (by simp[l8]))
def Pl.UV(h:Pl n m0 ro cl G size st sm){i s b:Nat}(c:i<n)(e:ro (m0+i)=.wk i s)(d:5<=s/\s<=7)(a:5<=b/\b<=7):Pl n m0 (upd ro (m0+i) (.wk i b)) cl G size st sm:=
 h.wk c e (.inr ⟨d.2,by omega,a.2⟩) (h.mode.counted h.pos c (by rw[e];exact d.1) (by exact a.1))
def Pl.heard(h:Pl n m0 ro cl G size st sm){i s:Nat}(c:i<n)(e:ro (m0+i)=.wk i s)(o:s<=7):∃r S p,ro 0=.rc r S p/\S i=true/\size=m0+n+1:=by
 cases h.lay with
 |st d j f q v k g b t=>
  obtain x|x:=gQ i (n-(d+1));obtain⟨l,a,m⟩:=b i x;rw[e]at a;cases a;omega;have:=t i x c;rw[e]at this;cases this
 |vi f k g b=>
  obtain⟨l,a,m⟩:=b i c;rw[e]at a;cases a;omega
 |rc d S j f k g b w q=>
  obtain⟨l,a,m,y,u⟩:=b i c;rw[e]at a;cases a;exact⟨d,S,j,f,u.2 o,g⟩
def Pl.hand{G':Gh}(h:Pl n m0 ro cl G size st sm){i s r K:Nat}{S:Nat->Bool}(t:i<n)(e:ro (m0+i)=.wk i s)(o:ro 0=.rc r S K)(U:s=9\/s=8) (L:G'.user=G.user)(w:G'.sayer=G.sayer)(M:∀k,G'.done k↔G.done k\/k=m0+i):S i=false/\∃r',r=r'+1/\Pl n m0 (upd (upd ro (m0+i) (.wk i 7)) 0 (.rc r' (upd S i true) 2)) cl G' size st sm/\meas n m0 (upd (upd ro (m0+i) (.wk i 7)) 0 (.rc r' (upd S i true) 2))<meas n m0 ro:=by
 have p:=h.pos;cases h.lay with
 |st N O d D V z A u W=>rw[o]at d;cases d
 |vi d z A u=>rw[o]at d;cases d
 |rc N X O d z A u Y D=>
 rw[o]at d;cases d;have q:S i=false:=by
  obtain⟨Z,E,x2,x3,P⟩:=u i t;rw[e]at E;cases E;cases Q:S i with
  |false=>rfl
  |true=>have:=P.1 Q;omega
 have g:=sumTo_upd S true (λb=>if b then 1 else 0) t;rw[q]at g;simp only[jE,gy,fF,nT]at g
 have R:sumTo n (λa=>if upd S i true a then 1 else 0)<=n:=by
  have:=sumTo_le (f:=λa=>if upd S i true a then 1 else 0) (c:=1) (j:=n) λa _=>by split<;>omega
  simpa using this
 obtain⟨l,rfl⟩:∃l,r=l+1:=⟨r-1,by omega⟩;refine⟨q,l,rfl,?_,?_⟩;have v:∀k,k≠0->k≠m0+i->upd (upd ro (m0+i) (fY.wk i 7)) 0 (.rc l (upd S i true) 2) k=ro k:=λk m B=>by rw[upd_ne _ _ m,upd_ne _ _ B]
 have F:upd (upd ro (m0+i) (fY.wk i 7)) 0 (.rc l (upd S i true) 2) (m0+i)=.wk i 7:=by rw[upd_ne _ _ (by omega),upd_same]
 have C:=v (m0+n) (by omega) (by omega);refine⟨p,.rc l (upd S i true) 2 (upd_same _ _ _) (by rw[C];exact z) A (λa T=>?_) (by omega) (.inl rfl),λk m B=>by rw[v k (by omega) (by omega)];exact h.old k m B,by rw[C];exact h.clq,?_,by rw[L];exact h.usr,by rw[C,w];exact h.say,λk=>?_⟩;by_cases H:a=i;subst H;exact⟨7,F,by omega,by omega,by simp[upd_same]⟩;rw[v _ (by omega) (by omega),upd_ne S _ H];exact u a T;have I:=h.mode.counted p t (r':=.wk i 7) (by rw[e];simp only[l8];omega) (by simp[l8]);exact I.zero p (by rw[upd_ne _ _ (by omega),o];rfl);rw[M,h.done,or_assoc];refine or_congr nR ?_;by_cases J:k=0;subst J;rw[upd_same,o];exact⟨λx=>x.elim (λ⟨_,_,y,_⟩=>(nomatch y)) (λx=>by omega),λ⟨_,_,y,_⟩=>(nomatch y)⟩;by_cases m:k=m0+i;subst m;rw[F];exact⟨λ_=>⟨i,7,rfl,by omega⟩,λ_=>.inr rfl⟩;rw[v k J m];exact⟨λx=>x.elim id λx=>absurd x m,.inl⟩;have I:=oZ (n:=n) (ro:=ro) p t (r':=.wk i 7) (by rw[e];simp only[l8];omega);have m2:=pJ (n:=n) (ro:=upd ro (m0+i) (.wk i 7)) p (r':=.rc l (upd S i true) 2) (by rw[upd_ne _ _ (by omega),o];simp only[vL];obtain rfl|⟨rfl,_⟩:=D<;>omega);omega
def Pl.UW(h:Pl n m0 ro cl G size st sm){r:Nat}{S:Nat->Bool}(c:ro 0=.rc r S 2)(j:cl=false)(k:∀i,i<n->l8 (ro (m0+i))≠8):Pl n m0 (upd ro 0 (.rc r S 1)) cl G size st sm:=by
 have l:=h.pos;refine h.zero ?_ (by simp) (by simp[c]) (h.mode.zero l (by rw[c];rfl));cases h.lay with
 |st m o b p s d e f t=>rw[c]at b;cases b
 |vi b d e f=>rw[c]at b;cases b
 |rc m u o b d e f q p=>
  rw[c]at b;cases b;exact .rc r S 1 (upd_same _ _ _) (by rw[upd_ne ro _ (by omega)];exact d) e (λa g=>by rw[upd_ne ro _ (by omega)];exact f a g) q (.inr ⟨rfl,j,λa g=>by rw[upd_ne ro _ (by omega)];exact k a g⟩)
def Pl.Xd(h:Pl n m0 ro cl G size st sm){r s:Nat}{S:Nat->Bool}(c:ro 0=.rc r S s):Pl n m0 (upd ro 0 (.rc r S 2)) cl G size st sm:=by
 have g:=h.pos;refine h.zero ?_ (by simp) (by simp[c]) (h.mode.zero g (by rw[c];rfl));cases h.lay with
 |st i j b k o d e f p=>rw[c]at b;cases b
 |vi b d e f=>rw[c]at b;cases b
 |rc i q j b d e f l k=>
  rw[c]at b;cases b;exact .rc r S 2 (upd_same _ _ _) (by rw[upd_ne ro _ (by omega)];exact d) e (λa m=>by rw[upd_ne ro _ (by omega)];exact f a m) l (.inl rfl)
def others_uncounted{i:Nat}(b:i<n)(h:V n m0 ro=1)(c:5<=l8 (ro (m0+i))):∀a,a<n->a≠i->¬5<=l8 (ro (m0+a)):=by intro a d e f;have g:=NR (ro:=ro) (m0:=m0) i b .none;have j:=NT (ro:=upd ro (m0+i) .none) (m0:=m0) d (by rw[upd_ne ro _ (by omega)];exact f);rw[J0 c,DU (show¬5<=l8 fY.none by simp[l8])]at g;omega
def Pl.d1(h:Pl n m0 ro cl G size st sm){i:Nat}(b:i<n)(e:ro (m0+i)=.wk i 5):∃v j:Nat,j<=1/\v<n/\st=((v:Int)+1)*KK+(j:Int)/\sm=0/\((v=0/\j=1)->Pl n m0 (upd ro (m0+i) (.wk i 4)) cl G size ((v:Int)*KK+(j:Int)) 0)/\(¬(v=0/\j=1)->Pl n m0 (upd ro (m0+i) (.wk i 1)) cl G size ((v:Int)*KK+(j:Int)) 0):=by
 have O:=h.pos;obtain⟨r,S,P,s,B,Q⟩:=h.heard b e (by omega);have t:5<=l8 (ro (m0+i)):=by rw[e];simp[l8]
 have R:=NT b t;have C:=NS n m0 ro;have l:pend (ro 0)=0:=by rw[s];rfl
 have D:∀x,upd ro (m0+i) x 0=ro 0:=λx=>upd_ne ro x (by omega);have q:∀x,upd ro (m0+i) x (m0+n)=ro (m0+n):=λx=>upd_ne ro x (by omega);have w:OpenSt n m0 ro->OpenSt n m0 (upd ro (m0+i) (.wk i 1)):=λh a f=>by by_cases m:a=i;subst m;rw[upd_same];exact .inr (.inr rfl);rw[upd_ne ro _ (by omega)];exact h a f
 have E:V n m0 (upd ro (m0+i) (.wk i 1))+1=V n m0 ro:=by have:=NR (ro:=ro) (m0:=m0) i b (.wk i 1);rw[J0 t,DU (show¬5<=l8 (fY.wk i 1) by simp[l8])]at this;omega
 cases T:h.mode with
 |opn g c o=>
  refine⟨V n m0 ro-1,0,by omega,by omega,?_,rfl,λx=>by omega,λ_=>h.wk b e (.inr ⟨by omega,by omega,by omega⟩) ?_⟩;rw[l];have:((V n m0 ro-1:Nat):Int)+1=((V n m0 ro:Nat):Int):=by omega
  rw[this];simp;have:=Mode.opn (n:=n) (m0:=m0) (ro:=upd ro (m0+i) (.wk i 1)) (by rw[q];exact g) (w c) (λF x=>by rw[q]at x;have:=o F x;omega);rw[D,l,show V n m0 (upd ro (m0+i) (.wk i 1))=V n m0 ro-1 by omega]at this;simpa using this
 |reg g c o=>
  refine⟨V n m0 ro-1,1,by omega,by omega,?_,rfl,λx=>?_,λx=>?_⟩;have:((V n m0 ro-1:Nat):Int)+1=((V n m0 ro:Nat):Int):=by omega
  rw[this];simp;have d:V n m0 ro=1:=by omega
  refine h.wk b e (.inr ⟨by omega,by omega,by omega⟩) ?_
  have p:∀a,a<n->a≠i->l8 (ro (m0+a))=1:=λa f m=>by
   have H:=others_uncounted b d t a f m;obtain y|y|y:=c a f
   ·exfalso;cases h.lay with
    |st I J k K U z A u W=>rw[s]at k;cases k
    |vi k z A u=>rw[s]at k;cases k
    |rc I X J k z A u Y K=>
     obtain⟨Z,M,x2,_⟩:=u a f;rw[M]at y;simp only[l8]at y;omega
   exact absurd y H;exact y
  have:=Mode.last (n:=n) (m0:=m0) (ro:=upd ro (m0+i) (.wk i 4)) i (by rw[q];exact g) b (by rw[upd_same];simp[l8]) (λa f m=>by rw[upd_ne ro _ (by omega)];exact p a f m);rw[upd_same]at this;simp only[d,mj];simpa[l8]using this;refine h.wk b e (.inr ⟨by omega,by omega,by omega⟩) ?_;have:=Mode.reg (n:=n) (m0:=m0) (ro:=upd ro (m0+i) (.wk i 1)) (by rw[q];exact g) (w c) (by omega);rw[show V n m0 (upd ro (m0+i) (.wk i 1))=V n m0 ro-1 by omega]at this;simpa using this
 |last L g c o N=>
  by_cases x:i=L;subst x;rw[e]at o;simp[l8]at o;have:=N i b x;omega
 |sema g c=>have:=c i b;omega
 |fin g c=>have:=c i b;omega
def Pl.isLast(h:Pl n m0 ro cl G size st sm){i s:Nat}(c:i<n)(e:ro (m0+i)=.wk i s)(j:s=4\/s=3\/s=2):
 isW3 (ro (m0+n))/\(∀a,a<n->a≠i->l8 (ro (m0+a))=1)/\st=(if s=2 then 0 else 1)/\sm=0:=by
 have f:l8 (ro (m0+i))=s:=by rw[e];rfl
 cases k:h.mode with
 |opn _ b _=>have:=b i c;omega
 |reg _ b _=>have:=b i c;omega
 |last L g b l d=>
  by_cases x:i=L;subst x;rw[f];exact⟨g,d,rfl,rfl⟩;have:=d i c x;omega
 |sema _ b=>have:=b i c;omega
 |fin _ b=>have:=b i c;omega
theorem Pl.last(h:Pl n m0 ro cl G size st sm){i s b:Nat}(c:i<n)(e:ro (m0+i)=.wk i s)(k:(s=4/\b=3)\/(s=3/\b=2)):
 Pl n m0 (upd ro (m0+i) (.wk i b)) cl G size (if b=2 then 0 else 1) 0:=by
 have l:=h.pos;obtain⟨d,f,_,_⟩:=h.isLast c e (by omega);refine h.wk c e (.inr ⟨by omega,by omega,by omega⟩) ?_;have:=Mode.last (n:=n) (m0:=m0) (ro:=upd ro (m0+i) (.wk i b)) i (by rw[upd_ne ro _ (by omega)];exact d) c (by rw[upd_same];simp only[l8];omega) (λa g j=>by rw[upd_ne ro _ (by omega)];exact f a g j);rw[upd_same]at this;exact this
def Pl.raise(h:Pl n m0 ro cl G size st sm){i:Nat}(d:i<n)(e:ro (m0+i)=.wk i 2)(c:ro (m0+n)≠ .cl .blk):Pl n m0 (upd ro (m0+i) (.wk i 1)) cl G size 0 1:=by have k:=h.pos;obtain⟨b,g,_,_⟩:=h.isLast d e (by omega);refine h.wk d e (.inr ⟨by omega,by omega,by omega⟩) (.sema ?_ λa j=>?_);rw[upd_ne ro _ (by omega)];revert b c;generalize ro (m0+n)=x;intro c b;unfold isW3 at b;split at b;exact .inl rfl;exact .inr rfl;exact absurd rfl c;exact b.elim;by_cases f:a=i;subst f;rw[upd_same];rfl;rw[upd_ne ro _ (by omega)];exact g a j f
def Pl.UD(h:Pl n m0 ro cl G size st sm){c g:CT}(o:ro (m0+n)=.cl c){d:Bool}(A:d=true↔g=.quit)(b:d=cl\/∀r S,ro 0≠ .rc r S 1){j l:Int}(B:Mode n m0 (upd ro (m0+n) (.cl g)) j l):Pl n m0 (upd ro (m0+n) (.cl g)) d G size j l:=by
 have C:=h.pos;have D:upd ro (m0+n) (fY.cl g) 0=ro 0:=upd_ne ro _ (by omega);have t:∀i,i<n->upd ro (m0+n) (fY.cl g) (m0+i)=ro (m0+i):=λi J=>upd_ne ro _ (by omega);refine⟨C,?_,λk E F=>by rw[upd_ne ro _ (by omega)];exact h.old k E F,by rw[upd_same];simpa using A,B,h.usr,by rw[upd_same,h.say,o];rfl,λk=>?_⟩;cases h.lay with
 |st u v p w K f q s L=>rw[o]at f;cases f
 |vi p f q s=>rw[o]at f;cases f
 |rc u H v p f q s I w=>
  refine .rc u H v (D.trans p) ⟨_,upd_same _ _ _⟩ q (λa m=>by rw[t a m];exact s a m) I (w.imp id λ⟨x,y,z⟩=>⟨x,?_,λa m=>by rw[t a m];exact z a m⟩);obtain b|b:=b;rw[b];exact y;subst x;exact absurd p (b _ _)
 rw[h.done];refine or_congr nR ?_;by_cases e:k=m0+n;subst e;rw[upd_same,o];exact⟨λ⟨_,_,y,_⟩=>(nomatch y),λ⟨_,_,y,_⟩=>(nomatch y)⟩;rw[upd_ne ro _ e]
def Pl.recv(h:Pl n m0 ro cl G size st sm){c:CT}(f:ro (m0+n)=.cl c):∃r S s,ro 0=.rc r S s/\size=m0+n+1/\pend (ro 0)=0/\∀i,i<n->1<=l8 (ro (m0+i)):=by
 cases h.lay with
 |st g j b k q a d e t=>rw[f]at a;cases a
 |vi b a d e=>rw[f]at a;cases a
 |rc g l j b a d e u k=>
  refine⟨g,l,j,b,d,by rw[b];rfl,λi m=>?_⟩;obtain⟨v,o,p,_⟩:=e i m;rw[o];exact p
def Mode.Af(h:Mode n m0 ro st sm)(b:isOpen (ro (m0+n))):OpenSt n m0 ro/\(∀c,ro (m0+n)=.cl (.w2 c)->V n m0 ro<=c/\1<=c)/\st=((V n m0 ro+pend (ro 0):Nat):Int)*KK/\sm=0:=by
 cases h with
 |opn a d e=>exact⟨d,e,rfl,rfl⟩
 |reg a _ _=>revert a b;generalize ro (m0+n)=x;unfold isW3 isOpen;split<;>simp
 |last L a _ _ _=>revert a b;generalize ro (m0+n)=x;unfold isW3 isOpen;split<;>simp
 |sema a _=>obtain a|a:=a<;>rw[a]at b<;>exact b.elim
 |fin a _=>revert a b;generalize ro (m0+n)=x;unfold isFin isOpen;split<;>simp
def Mode.Ag(d:0<m0)(h:Mode n m0 ro st sm)(e:isOpen (ro (m0+n)))(b:isOpen r')(f:∀a,r'=.cl (.w2 a)->V n m0 ro<=a/\1<=a):Mode n m0 (upd ro (m0+n) r') st sm:=by obtain⟨g,_,rfl,rfl⟩:=h.Af e;have j:upd ro (m0+n) r' 0=ro 0:=upd_ne ro _ (by omega);have c:V n m0 (upd ro (m0+n) r')=V n m0 ro:=rn (.inr (eF _)) _;have:=Mode.opn (n:=n) (m0:=m0) (ro:=upd ro (m0+n) r') (by rw[upd_same];exact b) (λi k=>by rw[upd_ne ro _ (by omega)];exact g i k) (λa x=>by rw[c];rw[upd_same]at x;exact f a x);rwa[j,c]at this
def Pl.TQ(h:Pl n m0 ro cl G size st sm)(b:ro (m0+n)=.cl .w1)(f:V n m0 ro=0):st=0/\sm=0/\Pl n m0 (upd ro (m0+n) (.cl .ke)) cl G size 0 0:=by have k:=h.pos;obtain⟨r,S,s,l,m,c,g⟩:=h.recv b;obtain⟨j,_,a,d⟩:=h.mode.Af (by rw[b];trivial);rw[c,f]at a;refine⟨by simpa using a,d,h.UD b ?_ (.inl rfl) (.fin (by rw[upd_same];trivial) λi e=>?_)⟩;have:=h.clq;rw[b]at this;simpa using this;rw[upd_ne ro _ (by omega)];obtain x|x|x:=j i e;have:=g i e;omega;have:=NT e x;omega;exact x
theorem Pl.Ag(h:Pl n m0 ro cl G size st sm){c d:CT}(e:ro (m0+n)=.cl c)(f:isOpen (.cl c))(a:isOpen (.cl d))(g:∀b,d=.w2 b->V n m0 ro<=b/\1<=b):Pl n m0 (upd ro (m0+n) (.cl d)) cl G size st sm:=by
 refine h.UD e ?_ (.inl rfl) (h.mode.Ag h.pos (by rw[e];exact f) a λb x=>g b (by cases x;rfl));have:=h.clq;rw[e]at this;have i:c≠ .quit:=by rintro rfl;exact f
 have j:d≠ .quit:=by rintro rfl;exact a
 simp[i]at this;simp[this,j]
def Pl.Xe(h:Pl n m0 ro cl G size st sm){a:Nat}(b:ro (m0+n)=.cl (.w2 a))(d:V n m0 ro=a):Pl n m0 (upd ro (m0+n) (.cl .sw)) cl G size ((a:Int)*KK+1) 0:=by obtain⟨e,f,_,_⟩:=h.mode.Af (by rw[b];trivial);have k:=h.pos;have g:=f a b;have c:V n m0 (upd ro (m0+n) (fY.cl .sw))=V n m0 ro:=rn (.inr (eF _)) _;refine h.UD b ?_ (.inl rfl) ?_;have:=h.clq;rw[b]at this;simpa using this;have:=Mode.reg (n:=n) (m0:=m0) (ro:=upd ro (m0+n) (.cl .sw)) (by rw[upd_same];trivial) (λi j=>by rw[upd_ne ro _ (by omega)];exact e i j) (by rw[c];omega);rwa[c,d]at this
def Pl.UX(h:Pl n m0 ro cl G size st sm){c c':CT}(d:ro (m0+n)=.cl c)(f:isW3 (.cl c))(e:isW3 (.cl c'))(l:c'=.blk->sm=0):Pl n m0 (upd ro (m0+n) (.cl c')) cl G size st sm:=by
 have p:=h.pos;have k:∀x,V n m0 (upd ro (m0+n) x)=V n m0 ro:=rn (.inr (eF _));have b:∀x i,i<n->upd ro (m0+n) x (m0+i)=ro (m0+i):=λx i a=>upd_ne ro _ (by omega);refine h.UD d ?_ (.inl rfl) ?_;have:=h.clq;rw[d]at this;have m:c≠ .quit:=by rintro rfl;exact f
 have o:c'≠ .quit:=by rintro rfl;exact e
 simp[m]at this;simp[this,o];cases q:h.mode with
 |opn x _ _=>rw[d]at x;revert x f;cases c<;>simp[isOpen,isW3]
 |reg x y z=>
  have:=Mode.reg (n:=n) (m0:=m0) (ro:=upd ro (m0+n) (.cl c')) (by rw[upd_same];exact e) (λi a=>by rw[b _ i a];exact y i a) (by rw[k];exact z);rwa[k]at this
 |last L x g y z=>
  have:=Mode.last (n:=n) (m0:=m0) (ro:=upd ro (m0+n) (.cl c')) L (by rw[upd_same];exact e) g (by rw[b _ L g];exact y) (λi a j=>by rw[b _ i a];exact z i a j);rwa[b _ L g]at this
 |sema x y=>
  refine .sema ?_ λi a=>by rw[b _ i a];exact y i a
  rw[upd_same];revert e l;cases c'<;>simp[isW3]
 |fin x _=>rw[d]at x;revert x f;cases c<;>simp[isFin,isW3]
def Pl.FD(h:Pl n m0 ro cl G size st sm)(a:ro (m0+n)=.cl .w3):sm=0\/(st=0/\sm=1/\Pl n m0 (upd ro (m0+n) (.cl .w4)) cl G size 0 0):=by
 have c:=h.pos;cases d:h.mode with
 |opn x _ _=>rw[a]at x;exact x.elim
 |reg x y z=>exact .inl rfl
 |last L x e y z=>exact .inl rfl
 |sema x y=>
  refine .inr ⟨rfl,rfl,h.UD a ?_ (.inl rfl) (.fin (by rw[upd_same];trivial) λi b=>by rw[upd_ne ro _ (by omega)];exact y i b)⟩;have:=h.clq;rw[a]at this;simpa using this
 |fin x _=>rw[a]at x;exact x.elim
def Mode.ofFin(h:Mode n m0 ro st sm)(b:isFin (ro (m0+n))):AllQuit n m0 ro/\st=0/\sm=0:=by
 cases h with
 |opn a c d=>revert a b;generalize ro (m0+n)=x;unfold isOpen isFin;split<;>simp
 |reg a _ _=>revert a b;generalize ro (m0+n)=x;unfold isW3 isFin;split<;>simp
 |last L a _ _ _=>revert a b;generalize ro (m0+n)=x;unfold isW3 isFin;split<;>simp
 |sema a _=>obtain a|a:=a<;>rw[a]at b<;>exact b.elim
 |fin a c=>exact⟨c,rfl,rfl⟩
def Pl.J1(h:Pl n m0 ro cl G size st sm){c c':CT}(b:ro (m0+n)=.cl c)(d:isFin (.cl c))(e:isFin (.cl c')){cl':Bool}(f:cl'=true↔c'=.quit)(a:cl'=cl\/∀r S,ro 0≠ .rc r S 1):Pl n m0 (upd ro (m0+n) (.cl c')) cl' G size st sm:=by obtain⟨x,rfl,rfl⟩:=h.mode.ofFin (by rw[b];exact d);have j:=h.pos;exact h.UD b f a (.fin (by rw[upd_same];exact e) λi g=>by rw[upd_ne ro _ (by omega)];exact x i g)
def Pl.wJ(h:Pl n m0 ro cl G size st sm){c:CT}(g:ro (m0+n)=.cl c)(q:isFin (.cl c)):∃S s,ro 0=.rc 0 S s/\(∀i,i<n->∃k,ro (m0+i)=.wk k 1)/\size=m0+n+1:=by
 obtain⟨x,_,_⟩:=h.mode.ofFin (by rw[g];exact q);cases h.lay with
 |st o p j r w b l d y=>rw[g]at b;cases b
 |vi j b l d=>rw[g]at b;cases b
 |rc o e p j b l d z r=>
  have m:∀i,i<n->e i=true:=λi a=>by obtain⟨t,f,A,B,u⟩:=d i a;have:=x i a;rw[f]at this;simp only[l8]at this;exact u.2 (by omega)
  have C:sumTo n (λi=>if e i then 1 else 0)=n:=by
   have:sumTo n (λi=>if e i then 1 else 0)=sumTo n λ_=>1:=sumTo_congr λi a=>by rw[m i a];rfl
   rw[this,Cz]
  have v:o=0:=by omega
  subst v;refine⟨e,p,j,λi a=>?_,l⟩;obtain⟨t,f,_⟩:=d i a;have:=x i a;rw[f]at this;simp only[l8]at this;subst this;exact⟨i,f⟩
end
section
variable{G:Gh}{g d n m Wg:Nat}
def QT:pH G g d n m #[]:=λj e h=>by simp at h
def rS{e:Event}(c:(MemAct.ofEvent e).touch?=none)(f:(MemAct.ofEvent e).low m):pH G g d n m #[e]:=by
 intro j x h;have:x=e:=by have:=oQ h;simpa using this
 subst this;exact⟨λa b=>by rw[c]at b;(cases b),f⟩
def FE{w:Bool}(b:G.wg h.block)(c:G.user g)(e:g=G.sayer)(f:h.block<m):pH G g d n m #[mk (if w then .write h else .read h)]:=by
 intro j x i;have:x=mk (if w then .write h else .read h):=by have:=oQ i;simpa using this
 subst this;cases w<;>refine⟨λt a _=>?_,f⟩<;>(simp[mk,MemAct.ofEvent,MemAct.touch?]at a;subst a;exact⟨h.block,rfl,.inr (.inr ⟨rfl,b,c,e⟩)⟩)
def rT{f:Array Event}(i:G.wg Wg)(k:G.user g)(l:Wg<m) (h:∀(j:Nat) (e:Event),f[j]? =some e->((MemAct.ofEvent e).touch?=none/\(MemAct.ofEvent e).low m)\/((∃a b,e=⟨.cell a,b,true⟩/\a.block=Wg)/\0<deafBehind d (f.extract 0 j))):pH G g d n m f:=by
 intro j e o;obtain⟨p,q⟩|⟨⟨a,b,rfl,r⟩,s⟩:=h j e o;exact⟨λt c=>by rw[p]at c;(cases c),q⟩;subst r;have u:MemAct.ofEvent ⟨.cell a,b,true⟩=.access ⟨.cell a,b,true⟩:=by cases b<;>rfl
 rw[u];refine⟨λt c _=>?_,l⟩;simp only[MemAct.touch?,iz]at c;subst c;exact⟨a.block,rfl,.inr (.inl ⟨rfl,i,k,λ_=>s⟩)⟩
def Ah(b:G.wg Wg)(c:G.user g)(f:Wg<m)(h:0<d):pH G g d n m #[ConcR.rd (stA Wg)]:=rT b c f λj e a=>.inr (by
 match j,a with
 |0,a=>simp at a;subst a;exact⟨⟨_,_,rfl,rfl⟩,by simpa[deafBehind]using h⟩
 |j+1,a=>simp at a)
def TR(b:G.wg Wg)(c:G.user g)(f:Wg<m)(h:0<d):pH G g d n m #[ConcR.wr (stA Wg)]:=rT b c f λj e a=>.inr (by
 match j,a with
 |0,a=>simp at a;subst a;exact⟨⟨_,_,rfl,rfl⟩,by simpa[deafBehind]using h⟩
 |j+1,a=>simp at a)
def tG(c:G.wg Wg)(f:G.user g)(h:Wg<m)(b:0<d):pH G g d n m #[ConcR.rd (stA Wg),ConcR.wr (stA Wg)]:=rT c f h λj e a=>.inr (by
 match j,a with
 |0,a=>simp at a;subst a;exact⟨⟨_,_,rfl,rfl⟩,by simpa[deafBehind]using b⟩
 |1,a=>simp at a;subst a;exact⟨⟨_,_,rfl,rfl⟩,by simpa[deafBehind,ConcR.rd]using b⟩
 |j+2,a=>simp at a)
def J2(b:G.wg Wg)(c:G.user g)(f:Wg<m):pH G g d n m (semEvents (smA Wg)):=rT b c f λj e a=>by
 match j,a with
 |0,a=>simp[semEvents]at a;subst a;exact .inl (by trivial)
 |1,a=>simp[semEvents]at a;subst a;exact .inr ⟨⟨_,_,rfl,rfl⟩,by simp[deafBehind,semEvents]⟩
 |2,a=>simp[semEvents]at a;subst a;exact .inr ⟨⟨_,_,rfl,rfl⟩,by simp[deafBehind,semEvents]⟩
 |3,a=>simp[semEvents]at a;subst a;exact .inl (by trivial)
 |j+4,a=>simp[semEvents]at a
def QU{o:Array Event}(k:G.Fits n)(b:n<=m)(h:∀e∈o,EvW (G.own g) (G.rd g) n m e):pH G g d n m o:=by
 intro j e p;obtain⟨a,c,rfl,i⟩|⟨r,c,rfl,i⟩|rfl:=h e (oQ p);have l:MemAct.ofEvent ⟨.cell a,c,false⟩=.access ⟨.cell a,c,false⟩:=by cases c<;>rfl
 rw[l];refine⟨λt f _=>?_,?_⟩;simp only[MemAct.touch?,iz]at f;subst f;exact⟨a.block,rfl,.inl ⟨rfl,i.imp id (.imp (λx=>⟨x.2,x.1⟩) id)⟩⟩;show a.block<m;obtain h|⟨_,h⟩|h:=i;exact fN (k.own _ _ h) b;exact fN (k.rd _ _ h) b;exact h.2;have l:MemAct.ofEvent ⟨.obj r,c,false⟩=.access ⟨.obj r,c,false⟩:=by cases c<;>rfl
 rw[l];refine⟨λt f _=>?_,?_⟩;simp only[MemAct.touch?,iz]at f;subst f;exact⟨r,rfl,.inl ⟨rfl,i.imp id .inr⟩⟩;show r<m;obtain h|h:=i;exact fN (k.own _ _ h) b;exact h.2;exact⟨λt f=>by simp[MemAct.ofEvent,MemAct.touch?]at f,trivial⟩
def NV{b f:eN}{c:Array Event}(h:∀e∈c,EvW b f n m e)(d:Nat):deafBehind d c=d:=
 deafBehind_still (λe g=>by obtain⟨a,i,rfl,_⟩|⟨r,i,rfl,_⟩|rfl:=h e g<;>simp) d
def NW{a:Array Event}(h:∀e∈a,e.mute=true):pH G g d n m a:=λj e b=>⟨λt c=>by rw[touch_mute (h e (oQ b))]at c;(cases c),low_mute (h e (oQ b)) m⟩
end
section
variable(P:eE)(ty:eD)(Wg Ch n:Nat)(rd0:Nat->Prop)(val:Nat->eu->(Nat->Prop)->er->Prop)(End:jV)(w0:er)(B0 m0:Nat)
def Ai(G:Gh)(cl:Bool)(t:Trace):Prop:=cl=true->∃p,t.act? p=some (.close Ch)/\t.heard p/\t.g? p=some (m0+n)/\∀i a,G.t0<=i->touchAt t i=some a->a.loc.isMemory=true->t.g? i=some (m0+n)->i<p
def gB(X:eN)(T0:Nat)(a:Mu)(m:Machine)(t:Trace):Prop:=
 ∃(gs:Array eA) (w:er) (sl:Option (Nat×Nat)) (ro:Nat->fY) (rk:Nat->WT) (dd:Nat->Nat) (G:Gh) (cl:Bool) (st sm:Int),m=crowd gs w sl/\Com P ty Wg Ch n rd0 val End w0 B0 ro rk dd G cl gs w t/\WgAt ty Wg w st sm/\Pl n m0 ro cl G gs.size st sm/\Ai Ch n m0 G cl t/\G.x=X/\G.t0=T0/\a=⟨meas n m0 ro,gs.size,rk,FC (ro (m0+n))⟩
end
section
variable{P:eE}{ty:eD}{Wg Ch n:Nat}{rd0:Nat->Prop}{val:Nat->eu->(Nat->Prop)->er->Prop}{End:jV}{w0:er}{B0 m0:Nat}{X:Nat->Prop}{T0:Nat} {ro:Nat->fY}{rk:Nat->WT}{dd:Nat->Nat}{G:Gh}{cl:Bool}{gs:Array eA}{w w':er}{sl:Option (Nat×Nat)}{t:Trace}{st sm:Int}
theorem Pl.Xf{a:Gh}{size:Nat}(h:Pl n m0 ro cl G size st sm)(b:a.user=G.user)(c:a.sayer=G.sayer)(d:a.done=G.done):Pl n m0 ro cl a size st sm:=
 ⟨h.pos,h.lay,h.old,h.clq,h.mode,by rw[b];exact h.usr,by rw[c];exact h.say,by rw[d];exact h.done⟩
theorem Ai.app{u:Trace}(h:Ai Ch n m0 G cl t){m:Gh}(r:m.t0=G.t0)(s:cl=true->∀f∈u,f.g=m0+n->f.act.touch?=none):Ai Ch n m0 m cl (t++u):=by intro o;obtain⟨p,q,v,w,x⟩:=h o;have k:=lt_of_act? q;refine⟨p,by rw[act?_old k];exact q,(heard_old k).2 v,by rw[g?_old k];exact w,λi a y z A j=>?_⟩;obtain⟨f,c,b⟩:=touch_of z;obtain⟨l,d⟩|⟨_,e⟩:=getElem?_append_cases c;exact x i a (r▸y) (by rw[touchAt_of d];exact b) A (by rw[g?_old l]at j;exact j);simp only[Trace.g?,c,kT,iz]at j;rw[s o f e j]at b;cases b
theorem Pl.It{size:Nat}(h:Pl n m0 ro cl G size st sm)(f:size=gs.size)(b:cl=true){x:Nat}(m:x<gs.size):(∀r S,ro x≠ .rc r S 1)/\∀i,ro x≠ .wk i 8:=by
 have o:=h.clq.1 b;obtain⟨S,s,d,p,z⟩:=h.wJ o trivial;subst f;obtain rfl|⟨q,t⟩|⟨i,s,u,rfl,e,_⟩|⟨rfl,c,e⟩:=h.lt_size m;rw[d];refine⟨λr A e=>?_,λi e=>by cases e⟩;cases e;cases h.lay with
 |st v w a gs B g j l C=>rw[d]at a;cases a
 |vi a g j l=>rw[d]at a;cases a
 |rc v D w a g j l E gs=>
  rw[d]at a;cases a;obtain x|⟨_,x,_⟩:=gs;omega;rw[b]at x;cases x
 rw[h.old x q t];exact⟨λ_ _ e=>(nomatch e),λ_ e=>(nomatch e)⟩;obtain⟨k,y⟩:=p i u;rw[y];exact⟨λ_ _ e=>(nomatch e),λ_ e=>(nomatch e)⟩;rw[e];exact⟨λ_ _ e=>(nomatch e),λ_ e=>(nomatch e)⟩
theorem gB.go(h:Com P ty Wg Ch n rd0 val End w0 B0 ro rk dd G cl gs w t)(y:Pl n m0 ro cl G gs.size st sm)(z:Ai Ch n m0 G cl t)(J:G.x=X)(K:G.t0=T0) {k:Nat}{g b:eA}{v:Array Event}{r':fY}{τ':WT}{st' sm':Int}(A:gs[k]? =some g)(B:stepG P (k==0) g w=.go b w' v) (L:Ae Wg (G.own k) w w')(l:WgAt ty Wg w' st' sm')(C:pH G k (dd k) w.heap.size w'.heap.size v)(M:G.done k->w'.heap.size=w.heap.size) (N:nO P ty Wg Ch n rd0 val End r' τ' (deafBehind (dd k) v) ((G.grow k w.heap.size w'.heap.size).own k) (G.rd k) b w')
 (m:Pl n m0 (upd (λx=>oY (kV P g b) (ro x)) k r') cl G gs.size st' sm')
 (D:cl=true->k=m0+n->∀e∈v,(MemAct.ofEvent e).touch?=none) (d:meas n m0 (upd (λx=>oY (kV P g b) (ro x)) k r')<meas n m0 ro\/(meas n m0 (upd (λx=>oY (kV P g b) (ro x)) k r')=meas n m0 ro/\WT.Sub τ' (rk k))):
 ∃c o p,runT P (crowd gs w sl) k=(.next c,o)/\Mu.Lt p ⟨meas n m0 ro,gs.size,rk,FC (ro (m0+n))⟩/\gB P ty Wg Ch n rd0 val End w0 B0 m0 X T0 p c (t++o):=by
 have q:=runT_crowd_go (P:=P) (sl:=sl) (i:=k) A B;have r:k<gs.size:=(ik.1 A).1;have s:=h.go (r':=r') (τ':=τ') A (λE x O=>y.It rfl E O) L ⟨_,_,l⟩ C M N;refine⟨_,_,⟨meas n m0 (upd (λx=>oY (kV P g b) (ro x)) k r'),((gs.map (woken P g b w')).setIfInBounds k b).size,upd rk k τ',FC (upd (λx=>oY (kV P g b) (ro x)) k r' (m0+n))⟩,q,?_,_,w',sl,_,_,_,_,cl,st',sm',rfl,s,l,?_,?_,J,K,rfl⟩;obtain d|⟨F,u⟩:=d;exact .a d;refine .f F (by simp) ⟨k,r,by simp only;rw[upd_same];exact u,λj _ Q=>by simp only;rw[upd_ne _ _ Q]⟩;have:((gs.map (woken P g b w')).setIfInBounds k b).size=gs.size:=by simp
 rw[this];exact m.Xf rfl rfl rfl;refine z.app rfl λE R H I=>?_;obtain⟨e,F,rfl⟩:=Go.Conc.mem_ofEvents H;exact D E I e F
end
def Ae.Aj{Wg:Nat}{a:eN}{w w':er}(h:Aside Wg w w'):Ae Wg a w w':=⟨h.tape,h.os,h.output,by rw[h.size];exact eF _,λb _ _ c=>h.block b c⟩
section
variable{P:eE}{ty:eD}{Wg Ch n:Nat}{rd0:Nat->Prop}{val:Nat->eu->(Nat->Prop)->er->Prop}{End:jV}{w0:er}{B0 m0:Nat}{X:Nat->Prop}{T0:Nat} {ro:Nat->fY}{rk:Nat->WT}{dd:Nat->Nat}{G:Gh}{cl:Bool}{gs:Array eA}{w w':er}{sl:Option (Nat×Nat)}{t:Trace}{st sm:Int}
theorem Com.at(h:Com P ty Wg Ch n rd0 val End w0 B0 ro rk dd G cl gs w t)(d:Nat):Com P ty Wg Ch n rd0 val End w0 B0 ro rk dd G cl gs (w.at d) t:=
 {h with sit:=λk g a=>(h.sit k g a).rely (gd.at _ _ (λ_ _ x=>x) w d)}
def Goal(P:eE)(ty:eD)(Wg Ch n:Nat)(rd0:eN)(val:Nat->eu->(eN)->fa)(End:jV)(w0:er)(B0 m0:Nat)(X:eN)(T0:Nat) (ro:Nat->fY)(rk:Nat->WT)(gs:Array eA)(w:er)(sl:Option (Nat×Nat))(t:Trace)(k:Nat):Prop:=
 ∃a b c,runT P (crowd gs w sl) k=(.next a,b)/\Mu.Lt c ⟨meas n m0 ro,gs.size,rk,FC (ro (m0+n))⟩/\gB P ty Wg Ch n rd0 val End w0 B0 m0 X T0 c a (t++b)
variable(fo:Com P ty Wg Ch n rd0 val End w0 B0 ro rk dd G cl gs w t)(iy:Pl n m0 ro cl G gs.size st sm)(mg:Ai Ch n m0 G cl t)(hX:G.x=X)(hT:G.t0=T0)(jC:WgAt ty Wg w st sm)
include fo iy mg hX hT jC
theorem gB.J3{k:Nat}{g:eA}{r:fY}{S:jV}{j:WT}(B:gs[k]? =some g)(C:Way P (k==0) (G.rd k) (Lv ty Wg) S j (G.own k) g w)(p:rk k=j)(l:ro k=r)(D:r≠ .cl .blk)(E:r≠ .cl .quit)(q:¬G.done k) (s:∀j d g w,Way P (k==0) (G.rd k) (Lv ty Wg) S j d g w->nO P ty Wg Ch n rd0 val End r j (dd k) d (G.rd k) g w):(∀z,gd (G.own k) (G.rd k) (Lv ty Wg) w z->S (G.own k) g z)\/Goal P ty Wg Ch n rd0 val End w0 B0 m0 X T0 ro rk gs w sl t k:=by
 cases C with
 |here h=>exact .inl h
 | @step f d g _ M F H=>
  right;obtain⟨m,w',A,c,e,a⟩:=F w (.refl _ _ _ _);have u:=H w m w' A c (.refl _ _ _ _) e a;have I:c=(G.grow k w.mN w'.mN).own k:=by funext b;apply propext;rw[a.owns];exact⟨Or.imp id λx=>⟨rfl,x⟩,Or.imp id λx=>x.2⟩
  have v:deafBehind (dd k) A=dd k:=NV a.evs _
  have o:upd (λx=>oY (kV P g m) (ro x)) k r=λx=>oY (kV P g m) (ro x):=by
   have:oY (kV P g m) (ro k)=r:=by rw[l];exact xK D
   have h:=rp (λx=>oY (kV P g m) (ro x)) k;simp only[this]at h;exact h
  have i:w'.heap[Wg]? =w.heap[Wg]? :=a.same Wg fo.wglow λx=>fo.fits.ownwg _ _ x ((fo.wg _).2 (.inl rfl));refine gB.go fo iy mg hX hT (st':=st) (sm':=sm) (r':=r) (τ':=f w) B e ⟨a.tape,a.os,a.output,a.size,λb J K _=>a.same b J K⟩ (jC.of_block i) (QU fo.fits a.size a.evs) (λx=>absurd x q) ?_ ?_ (λL y=>?_) (.inr ⟨?_,?_⟩);rw[v,<-I];exact s _ _ _ _ u;rw[o];exact iy.QS _;exfalso;have:=iy.clq.1 L;rw[<-y,l]at this;exact E this;rw[o];exact wI _;rw[p];exact .mk f w
theorem gB.idle{k:Nat}{g:eA}{r:fY}{S:jV}{a:WT}(i:gs[k]? =some g)(j:Way P (k==0) (G.rd k) (Lv ty Wg) S a (G.own k) g w)(c:rk k=a)(d:ro k=r)(l:r≠ .cl .blk)(m:r≠ .cl .quit)(e:¬G.done k) (f:∀a b g w,Way P (k==0) (G.rd k) (Lv ty Wg) S a b g w->nO P ty Wg Ch n rd0 val End r a (dd k) b (G.rd k) g w):S (G.own k) g w\/Goal P ty Wg Ch n rd0 val End w0 B0 m0 X T0 ro rk gs w sl t k:=
 (gB.J3 fo iy mg hX hT jC i j c d l m e f).imp (λh=>h w (.refl _ _ _ _)) id
theorem gB.quiet{k m:Nat}{g:eA}{r:fY}{S:eA->fa}(o:gs[k]? =some g)(c:k≠0)(p:Goes P false (gd eS eS (Lv ty Wg)) ConcR.DC0 S m g w)(d:rk k=.num m)(f:ro k=r)(q:r≠ .cl .blk) (i:∀m g w,Goes P false (gd eS eS (Lv ty Wg)) ConcR.DC0 S m g w->nO P ty Wg Ch n rd0 val End r (.num m) (dd k) (G.own k) (G.rd k) g w):S g w\/Goal P ty Wg Ch n rd0 val End w0 B0 m0 X T0 ro rk gs w sl t k:=by
 obtain h|⟨l,rfl,h⟩:=Goes.cases p;exact .inl (h w (.refl _ _ _ _));right;obtain⟨b,w',v,e,⟨rfl,rfl⟩,j⟩:=h w (.refl _ _ _ _)
 have a:upd (λx=>oY (kV P g b) (ro x)) k r=λx=>oY (kV P g b) (ro x):=by
  have:oY (kV P g b) (ro k)=r:=by rw[f];exact xK q
  have h:=rp (λx=>oY (kV P g b) (ro x)) k;simp only[this]at h;exact h
 have s:(k==0)=false:=by simpa using c
 refine gB.go fo iy mg hX hT (st':=st) (sm':=sm) (r':=r) (τ':=.num l) o (by rw[s];exact e) (Ae.Aj (.refl Wg _)) jC QT (λ_=>rfl) ?_ ?_ (λ_ _ e u=>by simp at u) (.inr ⟨?_,?_⟩);rw[Gh.uL];exact i _ _ _ j;rw[a];exact iy.QS _;rw[a];exact wI _;rw[d];exact WT.JZ l
theorem gB.book{k:Nat}{g b:eA}{f:Array Event}{r':fY}{τ':WT}{st' sm':Int}(q:gs[k]? =some g)(h:stepG P (k==0) g w=.go b w' f)(m:Aside Wg w w')(c:WgAt ty Wg w' st' sm') (i:pH G k (dd k) w.heap.size w.heap.size f)(r:nO P ty Wg Ch n rd0 val End r' τ' (deafBehind (dd k) f) (G.own k) (G.rd k) b w') (s:ro k≠ .cl .quit) (d:∀a,Pl n m0 a cl G gs.size st sm->(∀x,ro x≠ .cl .blk->a x=ro x)->V n m0 a=V n m0 ro->(kV P g b=true->a (m0+n)≠ .cl .blk)->Pl n m0 (upd a k r') cl G gs.size st' sm'/\meas n m0 (upd a k r')<meas n m0 a):Goal P ty Wg Ch n rd0 val End w0 B0 m0 X T0 ro rk gs w sl t k:=by have j:=m.size;obtain⟨u,o⟩:=d (λx=>oY (kV P g b) (ro x)) (iy.QS _) (λx v=>xK v) (Cy _) (λy e=>by obtain x|⟨_,_,x⟩:=rR (kV P g b) (ro (m0+n));have p:oY (kV P g b) (ro (m0+n))=.cl .blk:=e;rw[x]at p;rw[p,y]at x;cases x;rw[x]at e;cases e);rw[wI]at o;refine gB.go fo iy mg hX hT (st':=st') (sm':=sm') (r':=r') (τ':=τ') q h (.Aj m) c (by rw[j];exact i) (λ_=>j) (by rw[j,Gh.uL];exact r) u (λz l=>?_) (.inl o);exfalso;have:=iy.clq.1 z;rw[<-l]at this;exact s this
theorem gB.slip{k q d:Nat}{g:eA}{r:fY}(u:gs[k]? =some g)(j:k≠0)(v:r≠ .cl .blk)(s:QuitsD P q d g)(a:g.status=.running)(l:rk k=.num q)(m:dd k=d)(o:ro k=r) (p:∀q d g w,QuitsD P q d g->nO P ty Wg Ch n rd0 val End r (.num q) d (G.own k) (G.rd k) g w):Goal P ty Wg Ch n rd0 val End w0 B0 m0 X T0 ro rk gs w sl t k:=by
 cases q with
 |zero=>rw[s.1]at a;cases a
 |succ q=>
  obtain⟨y,_⟩|⟨_,i,C,b,c,z⟩:=s;rw[y]at a;cases a
  have f:upd (λx=>oY (kV P g i) (ro x)) k r=λx=>oY (kV P g i) (ro x):=by
   have:oY (kV P g i) (ro k)=r:=by rw[o];exact xK v
   have h:=rp (λx=>oY (kV P g i) (ro x)) k;simp only[this]at h;exact h
  have A:(k==0)=false:=by simpa using j
  refine gB.go fo iy mg hX hT (st':=st) (sm':=sm) (r':=r) (τ':=.num q) u (by rw[A];exact c w) (Ae.Aj (.refl Wg _)) jC (NW b) (λ_=>rfl) ?_ ?_ (λ_ _ e B=>touch_mute (b e B)) (.inr ⟨?_,?_⟩);rw[Gh.uL,m];exact p _ _ _ _ z;rw[f];exact iy.QS _;rw[f];exact wI _;rw[l];exact WT.JZ q
end
section
variable{P:eE}{ty:eD}{Wg Ch n:Nat}{rd0:Nat->Prop}{val:Nat->eu->(Nat->Prop)->er->Prop}{End:jV}{w0:er}{B0 m0:Nat}{X:Nat->Prop}{T0:Nat} {ro:Nat->fY}{rk:Nat->WT}{dd:Nat->Nat}{G:Gh}{cl:Bool}{gs:Array eA}{w w':er}{sl:Option (Nat×Nat)}{t:Trace}{st sm:Int}
variable(fo:Com P ty Wg Ch n rd0 val End w0 B0 ro rk dd G cl gs w t)(iy:Pl n m0 ro cl G gs.size st sm)(mg:Ai Ch n m0 G cl t)(hX:G.x=X)(hT:G.t0=T0)(jC:WgAt ty Wg w st sm)
include fo iy mg hX hT jC
theorem gB.QV(hn:n<2147483647){i s:Nat}{g:eA}(j:i<n)(l:gs[m0+i]? =some g)(e:ro (m0+i)=.wk i s)(hs:s<=7)(J:g.status=.running):Goal P ty Wg Ch n rd0 val End w0 B0 m0 X T0 ro rk gs w sl t (m0+i):=by
 have B:=iy.pos;have O:=fo.sit _ g l;have S:m0+i<gs.size:=(ik.1 l).1;have k:G.user (m0+i):=(iy.usr _).2 (.inr ⟨by omega,S⟩);have K:=(fo.wg Wg).2 (.inl rfl);have u:=fo.wglow;have C:(m0+i==0)=false:=by simp;omega
 have o:ro (m0+i)≠ .cl .quit:=by rw[e];simp
 generalize p:rk (m0+i)=τ at O;generalize r:dd (m0+i)=d at O;rw[e]at O;cases O with
 |QM h=>omega
 |vK h=>omega
 |r0 h=>
  obtain⟨_,H,b,m,f⟩|h:=gB.quiet (sl:=sl) fo iy mg hX hT jC l (by omega) h p e (by simp) (λm g w h=>by rw[r];exact .r0 h);refine gB.book (r':=.wk i 6) (τ':=.num m) fo iy mg hX hT jC l (by rw[C];exact b) (.refl Wg w) jC (rS (e:=mk (.releaseMerge (stA Wg))) rfl u) (by rw[r];exact .k1 f) o λa y z I _=>?_;have c:a (m0+i)=.wk i 7:=by rw[z _ (by rw[e];simp)];exact e
  exact⟨y.UV j c (by omega) (by omega),oZ B j (by rw[c];simp[l8])⟩;exact h
 |k1 h=>
  obtain⟨_,H,b,m,f⟩|h:=gB.quiet (sl:=sl) fo iy mg hX hT jC l (by omega) h p e (by simp) (λm g w h=>by rw[r];exact .k1 h);refine gB.book (r':=.wk i 5) (τ':=.num m) fo iy mg hX hT jC l (by rw[C];exact b) (.refl Wg w) jC (rS (e:=mk .disable) rfl trivial) (by rw[r];exact .d1 f) o λa y z I _=>?_;have c:a (m0+i)=.wk i 6:=by rw[z _ (by rw[e];simp)];exact e
  exact⟨y.UV j c (by omega) (by omega),oZ B j (by rw[c];simp[l8])⟩;exact h
 |d1 h=>
  obtain⟨_,L⟩|h:=gB.quiet (sl:=sl) fo iy mg hX hT jC l (by omega) h p e (by simp) (λm g w h=>by rw[r];exact .d1 h);obtain⟨v,Q,k1,k2,A,D,_,_⟩:=iy.d1 j e;subst A D;obtain⟨H,b,Z,hb⟩:=L v Q k1 (by omega) jC;by_cases R:v=0/\Q=1;obtain⟨m,f⟩:=Z R;refine gB.book (r':=.wk i 4) (τ':=.num m) fo iy mg hX hT jC l (by rw[C];exact b) (aside_setCell w (stA Wg) _) (jC.setSt _) (tG K k u (by omega)) (by rw[r];exact .d2 f) o λa y z I _=>?_;have c:a (m0+i)=.wk i 5:=by rw[z _ (by rw[e];simp)];exact e
  obtain⟨T,E,j1,j2,U,j4,W,Y⟩:=y.d1 j c;have:T=v/\E=Q:=by simp only[KK]at U;omega
  obtain⟨rfl,rfl⟩:=this;exact⟨W R,oZ B j (by rw[c];simp[l8])⟩;obtain⟨q,M⟩:=hb R;refine gB.book (r':=.wk i 1) (τ':=.num q) fo iy mg hX hT jC l (by rw[C];exact b) (aside_setCell w (stA Wg) _) (jC.setSt _) (tG K k u (by omega)) (by rw[r];exact .quit M) o λa y z I _=>?_;have c:a (m0+i)=.wk i 5:=by rw[z _ (by rw[e];simp)];exact e
  obtain⟨T,E,j1,j2,U,j4,W,Y⟩:=y.d1 j c;have:T=v/\E=Q:=by simp only[KK]at U;omega
  obtain⟨rfl,rfl⟩:=this;exact⟨Y R,oZ B j (by rw[c];simp[l8])⟩;exact h
 |d2 h=>
  obtain⟨_,N⟩|h:=gB.quiet (sl:=sl) fo iy mg hX hT jC l (by omega) h p e (by simp) (λm g w h=>by rw[r];exact .d2 h);obtain⟨_,_,A,D⟩:=iy.isLast j e (by omega);simp only[Nat.reduceEqDiff,gy]at A;subst A D;obtain⟨H,b,m,f⟩:=N jC;refine gB.book (r':=.wk i 3) (τ':=.num m) fo iy mg hX hT jC l (by rw[C];exact b) (.refl Wg w) jC (Ah K k u (by omega)) (by rw[r];exact .d3 f) o λa y z I _=>?_;have c:a (m0+i)=.wk i 4:=by rw[z _ (by rw[e];simp)];exact e
  exact⟨y.last j c (.inl ⟨rfl,rfl⟩),oZ B j (by rw[c];simp[l8])⟩;exact h
 |d3 h=>
  obtain⟨_,N⟩|h:=gB.quiet (sl:=sl) fo iy mg hX hT jC l (by omega) h p e (by simp) (λm g w h=>by rw[r];exact .d3 h);obtain⟨_,_,A,D⟩:=iy.isLast j e (by omega);simp only[Nat.reduceEqDiff,gy]at A;subst A D;obtain⟨H,b,m,f⟩:=N jC;refine gB.book (r':=.wk i 2) (τ':=.num m) fo iy mg hX hT jC l (by rw[C];exact b) (aside_setCell w (stA Wg) _) (jC.setSt 0) (TR K k u (by omega)) (by rw[r];exact .d4 f) o λa y z I _=>?_;have c:a (m0+i)=.wk i 3:=by rw[z _ (by rw[e];simp)];exact e
  exact⟨y.last j c (.inr ⟨rfl,rfl⟩),oZ B j (by rw[c];simp[l8])⟩;exact h
 |d4 h=>
  obtain⟨_,V,N⟩|h:=gB.quiet (sl:=sl) fo iy mg hX hT jC l (by omega) h p e (by simp) (λm g w h=>by rw[r];exact .d4 h);obtain⟨_,_,A,D⟩:=iy.isLast j e (by omega);simp only[fF]at A;subst A D;obtain⟨H,b,q,M⟩:=N jC;have F:H.status=.running:=by
   cases q with
   |zero=>exact absurd M.2 (by decide)
   |succ q=>exact M.elim (λx=>absurd x.2 (by decide)) (λx=>x.1)
  refine gB.book (r':=.wk i 1) (τ':=.num q) fo iy mg hX hT jC l (by rw[C];exact b) (aside_setCell w (smA Wg) _) (jC.setSm 1) (J2 K k u) (by rw[r];exact .quit (d:=deafBehind 1 (semEvents (smA Wg))) (by simpa[deafBehind,semEvents]using M)) o λa y z I h4=>?_;have c:a (m0+i)=.wk i 2:=by rw[z _ (by rw[e];simp)];exact e
  exact⟨y.raise j c (h4 (by simp[kV,V,F])),oZ B j (by rw[c];simp[l8])⟩;exact h
 |quit h=>exact gB.slip fo iy mg hX hT jC l (by omega) (by simp) h J p r e λ_ _ _ _ h=>.quit h
theorem gB.Iu(hn:n<2147483647){c:CT}{g:eA}(p:gs[m0+n]? =some g)(e:ro (m0+n)=.cl c)(K:g.status=.running):Goal P ty Wg Ch n rd0 val End w0 B0 m0 X T0 ro rk gs w sl t (m0+n)\/(c=.cl/\UB P Ch (G.own (m0+n)) g w/\dd (m0+n)=0)\/(c=.w3/\stepG P false g w=.go {g with status:=.blocked} w #[]/\(∀w1,gd (G.own (m0+n)) (G.rd (m0+n)) (Lv ty Wg) w w1->US P ty Wg Ch (G.rd (m0+n)) (G.own (m0+n)) g w1)/\dd (m0+n)=1/\sm=0):=by
 have H:=iy.pos;have T:=fo.sit _ g p;have ab:m0+n<gs.size:=(ik.1 p).1;have o:G.user (m0+n):=(iy.usr _).2 (.inr ⟨by omega,ab⟩);have O:=(fo.wg Wg).2 (.inl rfl);have B:=fo.wglow;have m:(m0+n==0)=false:=by simp;omega
 have y:¬G.done (m0+n):=λh=>by obtain x|⟨i,s,x,_⟩:=(iy.done _).1 h;omega;rw[e]at x;cases x
 have U:m0+n=G.sayer:=by rw[iy.say,e];rfl
 generalize u:rk (m0+n)=J at T;generalize v:dd (m0+n)=d at T;generalize C:G.own (m0+n)=z at T;generalize a:G.rd (m0+n)=rc at T;rw[e]at T;cases T with
 |SI I h=>
  obtain⟨_,L,j,ad,D⟩|h:=gB.idle (sl:=sl) fo iy mg hX hT jC (k:=m0+n) p (by rw[m,C,a];exact h) u e (by simp) (by simp) y (λJ z g w h=>by rw[v,a];rw[m,a]at h;exact .SI I h);obtain⟨τ',f⟩:=Way.bind D I.walk;refine .inl (gB.book (r':=.cl .w1) (τ':=τ') fo iy mg hX hT jC p (by rw[m];exact j) (.refl Wg w) jC (rS (e:=mk .disable) rfl trivial) (by rw[v,a];exact .QN I f) (by rw[e];simp) λb q A E _=>?_);have l:b (m0+n)=.cl .kd:=by rw[A _ (by rw[e];simp)];exact e
  exact⟨q.Ag l trivial trivial (by simp),oi H (by rw[l];simp only[qM];have:=NS n m0 b;omega)⟩;exact .inl h
 |QN I h=>
  obtain⟨_,W⟩|h:=gB.idle (sl:=sl) fo iy mg hX hT jC (k:=m0+n) p (by rw[m,C,a];exact h) u e (by simp) (by simp) y (λJ z g w h=>by rw[v,a];rw[m,a]at h;exact .QN I h);obtain⟨r,S,s,h0,hz,Q,_⟩:=iy.recv e;obtain⟨_,_,R,Y⟩:=iy.mode.Af (by rw[e];trivial);rw[Q,nT]at R;subst R Y;have ae:=NS n m0 ro;obtain⟨L,j,Z,hb⟩:=W (V n m0 ro) (by omega) jC;by_cases M:V n m0 ro=0;obtain⟨τ',f⟩:=Z M;refine .inl (gB.book (r':=.cl .ke) (τ':=τ') fo iy mg hX hT jC p (by rw[m];exact j) (.refl Wg w) jC (Ah O o B (by omega)) (by rw[v,a];exact .QQ f) (by rw[e];simp) λb q A E _=>?_);have l:b (m0+n)=.cl .w1:=by rw[A _ (by rw[e];simp)];exact e
  obtain⟨j1,j2,j3⟩:=q.TQ l (E.trans M);refine⟨by rw[j1];exact j3,oi H (by rw[l];simp only[qM];omega)⟩;obtain⟨τ',f⟩:=hb M;refine .inl (gB.book (r':=.cl (.w2 (V n m0 ro))) (τ':=τ') fo iy mg hX hT jC p (by rw[m];exact j) (.refl Wg w) jC (Ah O o B (by omega)) (by rw[v,a];exact .SJ I f) (by rw[e];simp) λb q A E _=>?_);have l:b (m0+n)=.cl .w1:=by rw[A _ (by rw[e];simp)];exact e
  refine⟨q.Ag l trivial trivial (λvs x=>by cases x;omega),oi H (by rw[l];simp only[qM];omega)⟩;exact .inl h
 | @SJ _ _ _ ag vs _ _ I h=>
  obtain⟨_,W⟩|h:=gB.idle (sl:=sl) fo iy mg hX hT jC (k:=m0+n) p (by rw[m,C,a];exact h) u e (by simp) (by simp) y (λJ z g w h=>by rw[v,a];rw[m,a]at h;exact .SJ I h);obtain⟨r,S,s,h0,hz,Q,_⟩:=iy.recv e;obtain⟨_,aa,R,Y⟩:=iy.mode.Af (by rw[e];trivial);have aa:=aa _ e;rw[Q,nT]at R;subst R Y;have ae:=NS n m0 ro;obtain⟨Z,hb⟩:=W (V n m0 ro) (by omega) jC;by_cases M:V n m0 ro=vs;obtain⟨L,j,τ',f⟩:=Z M;refine .inl (gB.book (r':=.cl .sw) (τ':=τ') fo iy mg hX hT jC p (by rw[m];exact j) (aside_setCell w (stA Wg) _) (jC.setSt _) (tG O o B (by omega)) (by rw[v,a];exact .SK f) (by rw[e];simp) λb q A E _=>?_);have l:b (m0+n)=.cl (.w2 vs):=by rw[A _ (by rw[e];simp)];exact e
  refine⟨by rw[M];exact q.Xe l (E.trans M),oi H (by rw[l];simp only[qM];omega)⟩;obtain⟨L,j,ad,D⟩:=hb M;obtain⟨τ',f⟩:=Way.bind D I.walk;refine .inl (gB.book (r':=.cl .w1) (τ':=τ') fo iy mg hX hT jC p (by rw[m];exact j) (.refl Wg w) jC (Ah O o B (by omega)) (by rw[v,a];exact .QN I f) (by rw[e];simp) λb q A E _=>?_);have l:b (m0+n)=.cl (.w2 vs):=by rw[A _ (by rw[e];simp)];exact e
  refine⟨q.Ag l trivial trivial (by simp),oi H (by rw[l];simp only[qM];omega)⟩;exact .inl h
 |SK h=>
  obtain⟨_,L,j,τ',f⟩|h:=gB.idle (sl:=sl) fo iy mg hX hT jC (k:=m0+n) p (by rw[m,C,a];exact h) u e (by simp) (by simp) y (λJ z g w h=>by rw[v,a];rw[m,a]at h;exact .SK h);refine .inl (gB.book (r':=.cl .w3) (τ':=τ') fo iy mg hX hT jC p (by rw[m];exact j) (.refl Wg w) jC (FE (w:=true) O o U B) (by rw[v,a];exact .QO f) (by rw[e];simp) λb q A E _=>?_);have l:b (m0+n)=.cl .sw:=by rw[A _ (by rw[e];simp)];exact e
  exact⟨q.UX l trivial trivial (by simp),oi H (by rw[l];simp only[qM];omega)⟩;exact .inl h
 |QO h=>
  obtain N|h:=gB.J3 (sl:=sl) fo iy mg hX hT jC (k:=m0+n) p (by rw[m,C,a];exact h) u e (by simp) (by simp) y (λJ z g w h=>by rw[v,a];rw[m,a]at h;exact .QO h);have F:=N w (.refl _ _ _ _);rw[C]at F;obtain⟨_,ah,Z,hb⟩:=F;obtain h0|⟨rfl,rfl,_⟩:=iy.FD e;subst h0;refine .inr (.inr ⟨rfl,Z ⟨_,jC⟩,λw1 af=>?_,rfl,rfl⟩);have:=N w1 (by rw[C,a];exact af);rwa[C]at this;obtain⟨L,j,τ',f⟩:=hb jC;refine .inl (gB.book (r':=.cl .w4) (τ':=τ') fo iy mg hX hT jC p (by rw[m];exact j) (aside_setCell w (smA Wg) _) (jC.setSm 0) (J2 O o B) (by rw[v,a,C];exact .SL f) (by rw[e];simp) λb q A E _=>?_);have l:b (m0+n)=.cl .w3:=by rw[A _ (by rw[e];simp)];exact e
  obtain x|⟨_,_,x⟩:=q.FD l;cases x;exact⟨x,oi H (by rw[l];simp only[qM];omega)⟩;exact .inl h
 |QP h=>cases K
 |SL h=>
  obtain⟨_,W⟩|h:=gB.idle (sl:=sl) fo iy mg hX hT jC (k:=m0+n) p (by rw[m,C,a];exact h) u e (by simp) (by simp) y (λJ z g w h=>by rw[v,a];rw[m,a]at h;exact .SL h);obtain⟨_,R,Y⟩:=iy.mode.ofFin (by rw[e];trivial);subst R Y;obtain⟨L,j,τ',f⟩:=W jC;refine .inl (gB.book (r':=.cl .ke) (τ':=τ') fo iy mg hX hT jC p (by rw[m];exact j) (.refl Wg w) jC (Ah O o B (by omega)) (by rw[v,a];exact .QQ f) (by rw[e];simp) λb q A E _=>?_);have l:b (m0+n)=.cl .w4:=by rw[A _ (by rw[e];simp)];exact e
  exact⟨q.J1 (c':=.ke) l trivial trivial (by have:=q.clq;rw[l]at this;simpa using this) (.inl rfl),oi H (by rw[l];simp only[qM];omega)⟩;exact .inl h
 |QQ h=>
  obtain⟨_,L,j,τ',f⟩|h:=gB.idle (sl:=sl) fo iy mg hX hT jC (k:=m0+n) p (by rw[m,C,a];exact h) u e (by simp) (by simp) y (λJ z g w h=>by rw[v,a];rw[m,a]at h;exact .QQ h);refine .inl (gB.book (r':=.cl .ac) (τ':=τ') fo iy mg hX hT jC p (by rw[m];exact j) (.refl Wg w) jC (rS (e:=mk .enable) rfl trivial) (by rw[v,a];exact .SM f) (by rw[e];simp) λb q A E _=>?_);have l:b (m0+n)=.cl .ke:=by rw[A _ (by rw[e];simp)];exact e
  exact⟨q.J1 (c':=.ac) l trivial trivial (by have:=q.clq;rw[l]at this;simpa using this) (.inl rfl),oi H (by rw[l];simp only[qM];omega)⟩;exact .inl h
 |SM h=>
  obtain⟨_,L,j,τ',f⟩|h:=gB.idle (sl:=sl) fo iy mg hX hT jC (k:=m0+n) p (by rw[m,C,a];exact h) u e (by simp) (by simp) y (λJ z g w h=>by rw[v,a];rw[m,a]at h;exact .SM h);refine .inl (gB.book (r':=.cl .cl) (τ':=τ') fo iy mg hX hT jC p (by rw[m];exact j) (.refl Wg w) jC (rS (e:=mk (.acquire (stA Wg))) rfl B) (by rw[v,a];exact .SO f) (by rw[e];simp) λb q A E _=>?_);have l:b (m0+n)=.cl .ac:=by rw[A _ (by rw[e];simp)];exact e
  exact⟨q.J1 (c':=.cl) l trivial trivial (by have:=q.clq;rw[l]at this;simpa using this) (.inl rfl),oi H (by rw[l];simp only[qM];omega)⟩;exact .inl h
 |SO h=>
  obtain F|h:=gB.idle (sl:=sl) fo iy mg hX hT jC (k:=m0+n) p (by rw[m,C,a];exact h) u e (by simp) (by simp) y (λJ z g w h=>by rw[v,a];rw[m,a]at h;exact .SO h);exact .inr (.inl ⟨rfl,by rw[C]at F;exact F,rfl⟩);exact .inl h
 |Qt h=>exact .inl (gB.slip fo iy mg hX hT jC p (by omega) (by simp) h K u v e λ_ _ _ _ h=>.Qt h)
end
end Go.eV.Cr
namespace Go.eV.Kn
open Go.Conc Go.eV
def oA{t u:Trace}(g:∀e∈u,e.act.touch?=none){a:Touch}(h:touchAt (t++u) i=some a):i<t.size/\touchAt t i=some a:=by obtain⟨e,f,b⟩:=touch_of h;obtain⟨j,c⟩|⟨_,d⟩:=getElem?_append_cases f;exact⟨j,by rw[touchAt_of c];exact b⟩;rw[g e d]at b;cases b
def Gh.child(G:Gh)(k c:Nat)(a:eN):Gh where
 own:=λx b=>if x=0 then G.own 0 b/\¬a b else if x=k then False else G.own x b
 rd:=λx b=>if x=k then G.rd 0 b\/a b else G.rd x b
 wg:=G.wg
 user:=λx=>G.user x\/x=k
 sayer:=c
 x:=G.x
 done:=G.done
 t0:=G.t0
theorem Gh.Fits.child{G:Gh}(h:G.Fits m)(s:k≠0)(t:¬G.done k)(l:i=G.sayer\/i=k)(n:∀b,A b->G.own 0 b):(G.child k i A).Fits m:=by
 have f:∀x b,(G.child k i A).own x b->G.own x b/\(x=0->¬A b)/\x≠k:=by
  intro x b a;simp only[Gh.child]at a;split at a;rename_i e;subst e;exact⟨a.1,λ_=>a.2,λe=>s e.symm⟩;next u=>
  split at a;exact a.elim;rename_i v;exact⟨a,λe=>absurd e u,v⟩
 have j:∀x b,(G.child k i A).rd x b->(x≠k/\G.rd x b)\/(x=k/\(G.rd 0 b\/A b)):=by intro x b a;simp only[Gh.child]at a;split at a;rename_i e;exact .inr ⟨e,a⟩;rename_i e;exact .inl ⟨e,a⟩
 refine⟨λx b a=>h.own x b (f x b a).1,λx b a=>?_,h.wg,λx y b d c=>h.one x y b (f x b d).1 (f y b c).1,λx y b d c=>?_,λx b d c=>h.ownwg x b (f x b d).1 c,λx b d c=>?_,λx q=>?_⟩;obtain⟨_,a⟩|⟨_,a|a⟩:=j x b a;exact h.rd x b a;exact h.rd 0 b a;exact h.own 0 b (n b a);obtain⟨g,o,r⟩:=f x b d;obtain⟨_,a⟩|⟨_,a|a⟩:=j y b c;exact h.still x y b g a;exact h.still x 0 b g a;have:=h.one x 0 b g (n b a);exact o this a;obtain⟨_,a⟩|⟨_,a|a⟩:=j x b d;exact h.rdwg x b a c;exact h.rdwg 0 b a c;exact h.ownwg 0 b (n b a) c;have p:x≠k:=λe=>t (e▸q);obtain⟨g,o,r,w⟩:=h.done x q;refine⟨g,?_,λb a=>r b (f x b a).1,λb a=>?_⟩;obtain e|e:=l;exact e▸o;show i≠x;omega;obtain⟨_,a⟩|⟨e,_⟩:=j x b a;exact w b a;exact p e
theorem iT.child{G:Gh}{t:Trace}{x y:MemOp}(h:iT G m t)(u:x.g=0/\x.act=.go k)(v:y.g=k/\y.act=.start)(J:Deaf t 0=0)(K:Deaf t k=0)(w:G.user 0) (B:i=G.sayer\/(i=k/\G.sayer=0))(L:∀b,A b->G.own 0 b)(M:k≠0):iT (G.child k i A) m (t++#[x,y]):=by
 have p:∀l∈#[x,y],l=x\/l=y:=by intro l j;simpa using j
 have C:∀l∈#[x,y],l.act.touch?=none:=by
  intro l j;obtain rfl|rfl:=p l j
  ·rw[u.2];rfl
  ·rw[v.2];rfl
 have r:iT G m (t++#[x,y]):=h.JY C λl j=>by
  obtain rfl|rfl:=p l j
  ·rw[u.2];trivial
  ·rw[v.2];trivial
 have s:∀{f},Knows t 0 f->Knows (t++#[x,y]) k f:=λN=>FA u v J K N;refine r.Fz (λz b c f a n d=>?_) (λz b c f a n d I=>?_) (λb c f a n d=>?_) rfl λz f q a n D E=>?_
 ·simp only[Gh.child]at c;split at c
  ·next e=>subst e;exact r.own f a 0 b n d c.1
  ·split at c
   ·exact c.elim
   ·exact r.own f a z b n d c
 ·simp only[Gh.child]at c;split at c
  ·next e=>
   subst e;obtain⟨_,o⟩:=oA C n;obtain c|c:=c
   ·exact s (h.rd f a 0 b o d c I)
   ·exact s (h.own f a 0 b o d (L b c))
  ·exact r.rd f a z b n d c I
 ·obtain⟨_,o⟩:=oA C n;obtain e|⟨e,F⟩|e:=h.wg f a b o d c
  ·exact .inl e
  ·refine .inr (.inl ⟨e,?_⟩);show Knows _ i f;obtain H|⟨H,O⟩:=B
   ·rw[H];exact F.app _
   ·rw[H];rw[O]at F;exact s F
  ·refine .inr (.inr λz q=>?_);obtain q|q:=q
   ·exact(e z q).app _
   ·rw[q];exact s (e 0 w)
 ·exact r.told f a z n D E q
def Gh.hand(G:Gh)(j:Nat):Gh where
 own:=λx b=>if x=0 then G.own 0 b\/G.own j b else if x=j then False else G.own x b
 rd:=λx b=>if x=j then False else G.rd x b
 wg:=G.wg
 user:=G.user
 sayer:=G.sayer
 x:=G.x
 done:=λx=>G.done x\/x=j
 t0:=G.t0
theorem Gh.Fits.hand{G:Gh}(h:G.Fits m)(l:j≠0)(n:G.sayer≠j):(G.hand j).Fits m:=by
 have g:∀x b,(G.hand j).own x b->(x=0/\(G.own 0 b\/G.own j b))\/(x≠0/\x≠j/\G.own x b):=by
  intro x b c;simp only[Gh.hand]at c;split at c;rename_i e;exact .inl ⟨e,c⟩;next o=>
  split at c;exact c.elim;rename_i p;exact .inr ⟨o,p,c⟩
 have i:∀x b,(G.hand j).rd x b->G.rd x b/\x≠j:=by intro x b c;simp only[Gh.hand]at c;split at c;exact c.elim;rename_i e;exact⟨c,e⟩
 refine⟨λx b c=>?_,λx b c=>h.rd x b (i x b c).1,h.wg,λx y b a d=>?_,λx y b a d=>?_,λx b a d=>?_,λx b a d=>h.rdwg x b (i x b a).1 d,λx f=>?_⟩;obtain⟨_,a|a⟩|⟨_,_,a⟩:=g x b c;exact h.own 0 b a;exact h.own j b a;exact h.own x b a;obtain⟨rfl,a|a⟩|⟨s,q,a⟩:=g x b a<;>obtain⟨rfl,d|d⟩|⟨t,r,d⟩:=g y b d;rfl;rfl;exact h.one _ _ _ a d;rfl;rfl;exact absurd (h.one _ _ _ a d).symm r;exact h.one _ _ _ a d;exact absurd (h.one _ _ _ a d) q;exact h.one _ _ _ a d;obtain⟨_,a|a⟩|⟨_,_,a⟩:=g x b a;exact h.still 0 y b a (i y b d).1;exact h.still j y b a (i y b d).1;exact h.still x y b a (i y b d).1;obtain⟨_,a|a⟩|⟨_,_,a⟩:=g x b a;exact h.ownwg _ _ a d;exact h.ownwg _ _ a d;exact h.ownwg _ _ a d;have k:x≠0:=by obtain f|rfl:=f;exact(h.done x f).1;exact l
 refine⟨k,?_,λb c=>?_,λb c=>?_⟩;obtain f|rfl:=f;exact(h.done x f).2.1;exact n;obtain⟨e,_⟩|⟨_,e,c⟩:=g x b c;exact k e;obtain f|f:=f;exact(h.done x f).2.2.1 b c;exact e f;obtain⟨c,e⟩:=i x b c;obtain f|f:=f;exact(h.done x f).2.2.2 b c;exact e f
theorem iT.hand{G:Gh}{n j c s cap:Nat}{t:Trace}{p q r u:MemOp}(h:iT G n t)(B:p.g=j/\p.act=.send c s)(C:q.g=0/\q.act=.recv c s cap)(D:r.g=j/\r.act=.sendDone c s)(E:u.g=0/\u.act=.recvDone c s) (L:Deaf t j=0)(F:Deaf t 0=0)(A:c<n):iT (G.hand j) n (t++#[p,q,r,u]):=by
 have v:∀l∈#[p,q,r,u],l=p\/l=q\/l=r\/l=u:=by intro l f;simpa using f
 have H:∀l∈#[p,q,r,u],l.act.touch?=none:=by
  intro l f;obtain rfl|rfl|rfl|rfl:=v l f
  ·rw[B.2];rfl
  ·rw[C.2];rfl
  ·rw[D.2];rfl
  ·rw[E.2];rfl
 have w:iT G n (t++#[p,q,r,u]):=h.JY H λl f=>by
  obtain rfl|rfl|rfl|rfl:=v l f
  ·rw[B.2];exact A
  ·rw[C.2];exact A
  ·rw[D.2];exact A
  ·rw[E.2];exact A
 have K:∀{i},Knows t j i->Knows (t++#[p,q,r,u]) 0 i:=λI=>DN B C D E L F I;refine w.Fz (λz b d i a m k=>?_) (λz b d i a m k M=>?_) (λb d i a m k=>w.wg i a b m k d) rfl λz i x a m y o=>?_
 ·simp only[Gh.hand]at d;split at d
  ·next e=>
   subst e;obtain d|d:=d
   ·exact w.own i a 0 b m k d
   ·exact K (h.own i a j b (oA H m).2 k d)
  ·split at d
   ·exact d.elim
   ·exact w.own i a z b m k d
 ·simp only[Gh.hand]at d;split at d
  ·exact d.elim
  ·exact w.rd i a z b m k d M
 ·obtain(x|rfl)|x:=x
  ·exact w.told i a z m y o (.inl x)
  ·obtain⟨I,N⟩:=oA H m;rw[g?_old I]at o;obtain⟨l,f,J⟩:=jo.1 o;have:=knows_own f;rw[J]at this;exact .inl (K this)
  ·exact w.told i a z m y o (.inr x)
def rq{t:Trace}(k:Nat):∀(l:List MemOp),(∀a∈l,a.act≠ .mark .disable/\a.act≠ .mark .enable)->Deaf (t++l.toArray) k=Deaf t k:=by
 intro l c;rw[Deaf_append];generalize Deaf t k=d;induction l with
 |nil=>rfl
 |cons y l f=>
  have g:deafStep k d y=d:=by have:=c y (by simp);unfold deafStep;split;rename_i e;exact absurd e this.1;rename_i e;exact absurd e this.2;rfl
  rw[nD,g];exact f λa b=>c a (by simp[b])
def iT.shut{G:Gh}{t:Trace}{y:MemOp}(h:iT G m t)(N:t.act? p=some (.close k))(O:t.heard p)(E:t.g? p=some i)(F:∀c a,G.t0<=c->touchAt t c=some a->a.loc.isMemory=true->t.g? c=some i->c<p)
 (u:y.g=0/\y.act=.recvClosed k)(L:Deaf t 0=0)(P:k<m)(v:∀c g,G.t0<=c->t.g? c=some g->g=0\/G.done g\/g=i):Past (qu λb=>G.wg b\/G.x b) m (t++#[y]):=by
 have M:∀l∈#[y],l.act.touch?=none:=by
  intro l d;have:l=y:=by simpa using d
  subst this;rw[u.2];rfl
 have w:iT G m (t++#[y]):=h.JY M λl d=>by
  have:l=y:=by simpa using d
  subst this;rw[u.2];exact P
 let Q:Gh:={own:=λ_ _=>False,rd:=λ_ _=>False,wg:=G.wg,user:=λ_=>False,sayer:=G.sayer,x:=G.x,done:=λx=>G.done x\/x=i,t0:=G.t0};have R:iT Q m (t++#[y]):=w.Fz (λ_ _ A=>A.elim) (λ_ _ A=>A.elim) (λb A c a s H=>(w.wg c a b s H A).imp id (Or.imp id λ_ _ n=>n.elim)) rfl λz c n a s j f=>by obtain(n|rfl)|n:=n;exact w.told c a z s j f (.inl n);obtain o|o:=gQ c G.t0;exact w.told c a z s j f (.inr o);obtain⟨q,I⟩:=oA M s;rw[g?_old q]at f;have J:=F c a o I j f;obtain⟨l,d,r⟩:=jo.1 f;obtain⟨S,B,C⟩:=jo.1 E;exact .inl (DO N O (.inr (hb_po J d B (r.trans C.symm))) u L);exact w.told c a z s j f (.inr n)
 have T:Deaf (t++#[y]) 0=0:=by have:=rq (t:=t) 0 [y] (by simp[u.2]);exact this.trans L
 refine R.past (λc g K=>?_) T;obtain o|o:=gQ c G.t0;exact .inr (.inr o);obtain q|U:=gQ c t.size;rw[g?_old q]at K;obtain e|e|e:=v c g o K;exact .inl e;exact .inr (.inl (.inl e));exact .inr (.inl (.inr e));obtain⟨l,d,r⟩:=jo.1 K;obtain⟨x,_⟩|⟨_,D⟩:=getElem?_append_cases d;omega;have:l=y:=by simpa using D
 subst this;exact .inl (r▸u.1)
end Go.eV.Kn
namespace Go.eV.Cr
open Go.Conc Go.eV Go.eV.Kn
open Go.ConcR (KK wgBlock WgAt stA smA mk)
open Go.ConcN (sumTo upd sumTo_upd upd_ne upd_same sumTo_congr le_sumTo sumTo_le)
section
variable{P:eE}{ty:eD}{Wg Ch n:Nat}{rd0:Nat->Prop}{val:Nat->eu->(Nat->Prop)->er->Prop}{End:jV}{w0:er}{B0 m0:Nat}{X:Nat->Prop}{T0:Nat} {ro:Nat->fY}{rk:Nat->WT}{dd:Nat->Nat}{G:Gh}{cl:Bool}{gs:Array eA}{w w':er}{sl:Option (Nat×Nat)}{t:Trace}{st sm:Int}
theorem Gh.Iv(G:Gh){k c:Nat}{a:eN}:(G.child k c a).own 0=λb=>G.own 0 b/\¬a b:=by funext b;simp[Gh.child]
theorem Gh.Iw(G:Gh){k c:Nat}{a:eN}(d:k≠0):(G.child k c a).own k=eS:=by funext b;simp[Gh.child,d]
theorem Gh.Lx(G:Gh){k c x:Nat}{a:eN}(d:x≠0)(e:x≠k):(G.child k c a).own x=G.own x:=by funext b;simp[Gh.child,d,e]
theorem Gh.Ly(G:Gh){k c:Nat}{a:eN}:(G.child k c a).rd k=λb=>G.rd 0 b\/a b:=by funext b;simp[Gh.child]
theorem Gh.FF(G:Gh){k c x:Nat}{a:eN}(d:x≠k):(G.child k c a).rd x=G.rd x:=by funext b;simp[Gh.child,d]
theorem Com.spawn(h:Com P ty Wg Ch n rd0 val End w0 B0 ro rk dd G cl gs w t){g E child:eA}{r0' rc':fY}{τ0 τc:WT}{sy:Nat}{give:eN}{fn fn':fG}{pos pos':String}(F:gs[0]? =some g)(l:dd 0=0) (v:∀b,give b->G.own 0 b)(m:sy=G.sayer\/(sy=gs.size/\G.sayer=0))(y:G.user 0)(z:¬G.done gs.size)
 (A:nO P ty Wg Ch n rd0 val End r0' τ0 0 (λb=>G.own 0 b/\¬give b) (G.rd 0) E w)(B:nO P ty Wg Ch n rd0 val End rc' τc 0 eS (λb=>G.rd 0 b\/give b) child w):
 Com P ty Wg Ch n rd0 val End w0 B0 (upd (upd ro gs.size rc') 0 r0') (upd (upd rk gs.size τc) 0 τ0) dd (G.child gs.size sy give) cl ((gs.setIfInBounds 0 E).push child) w (t++#[{g:=0,fn,pos,act:=.go gs.size},{g:=gs.size,fn:=fn',pos:=pos',act:=.start}]):=by
 have p:0<gs.size:=(ik.1 F).1;have c:gs.size≠0:=by omega
 have q:dd gs.size=0:=h.above _ (eF _);refine⟨λx o f=>?_,?_,?_,λx=>?_,λx C=>?_,h.wg,λx b a=>?_,h.wgch,h.wglow,λi x H C=>?_,λx b a=>?_,h.base,h.grown,h.world,h.live,h.ch⟩
 ·rw[pA]at f;split at f
  ·next e=>
   obtain rfl:=eP f;have k:x=gs.size:=by simpa using e
   subst k;rw[upd_ne _ _ c,upd_same,upd_ne _ _ c,upd_same,Gh.Iw _ c,Gh.Ly,q];exact B
  ·next e=>
   have k:x≠gs.size:=by simpa using e
   by_cases r:x=0
   ·subst r;rw[mG p]at f;obtain rfl:=eP f;rw[upd_same,upd_same,Gh.Iv,Gh.FF _ (jb c),l];exact A
   ·rw[gm (jb r)]at f;rw[upd_ne _ _ r,upd_ne _ _ k,upd_ne _ _ r,upd_ne _ _ k,Gh.Lx _ r k,Gh.FF _ k];exact h.sit x o f
 ·exact h.kn.child ⟨rfl,rfl⟩ ⟨rfl,rfl⟩ (by rw[h.deaf,l]) (by rw[h.deaf,q]) y m v c
 ·exact h.fits.child c z (m.imp id (·.1)) v
 ·have:=rq (t:=t) x [{g:=0,fn,pos,act:=.go gs.size},{g:=gs.size,fn:=fn',pos:=pos',act:=.start}] (by simp);exact this.trans (h.deaf x)
 ·have I:gs.size+1<=x:=by simpa using C
  exact h.above x (by omega)
 ·have K:Ch<w.mN:=by obtain⟨s,J⟩:=h.ch;exact lt_of_heap J
  obtain a|a:=a
  ·refine h.off x b (.inl ?_);simp only[Gh.child]at a;split at a
   ·next e=>subst e;exact a.1
   ·split at a
    ·exact a.elim
    ·exact a
  ·simp only[Gh.child]at a;split at a
   ·obtain a|a:=a
    ·exact h.off 0 b (.inr a)
    ·exact h.off 0 b (.inl (v b a))
   ·exact h.off x b (.inr a)
 ·obtain⟨L,D,j⟩:=jo.1 C;obtain⟨_,u⟩|⟨_,d⟩:=getElem?_append_cases D
  ·have:=h.gsz i x H (by simp[Trace.g?,u,j]);simp;omega
  ·simp only[Co,gI,tq,pC]at d;obtain rfl|rfl:=d
   ·subst j;simp
   ·subst j;simp
 ·simp only[Gh.child]at a;split at a
  ·next e=>exact h.new 0 b a.1
  ·split at a
   ·exact a.elim
   ·exact h.new x b a
theorem Gh.Lz(G:Gh){j:Nat}:(G.hand j).own 0=λb=>G.own 0 b\/G.own j b:=by funext b;simp[Gh.hand]
theorem Gh.NX(G:Gh){j x:Nat}(a:x≠0)(c:x≠j):(G.hand j).own x=G.own x:=by funext b;simp[Gh.hand,a,c]
theorem Gh.J4(G:Gh){j x:Nat}(a:x≠j):(G.hand j).rd x=G.rd x:=by funext b;simp[Gh.hand,a]
structure tH(Ch:Nat)(w w':er):Prop where
 tape:w'.tape=w.tape
 os:w'.os=w.os
 output:w'.output=w.output
 size:w'.heap.size=w.heap.size
 same:∀b,b≠Ch->w'.heap[b]? =w.heap[b]?
theorem tH.set(w:er)(d a:Nat)(c:fZ)(cl:Bool)(s r:Nat)(e:Bool):tH Ch w ((w.at d).setChan Ch a c cl s r e):=by refine⟨rfl,rfl,rfl,by simp[World.setChan,World.at],λb f=>?_⟩;simp[World.setChan,World.at,gm (jb f)]
theorem setChan_at(w:er)(d a:Nat)(b:fZ)(cl:Bool)(s r:Nat)(c:Bool)(h:Ch<w.heap.size):((w.at d).setChan Ch a b cl s r c).heap[Ch]? =some (.chan a b cl s r c):=by simp[World.setChan,World.at,h]
theorem tH.rely(h:tH Ch w w'){own rd:eN}(a:∀b,own b\/rd b->b≠Ch)(c:Wg≠Ch):gd own rd (Lv ty Wg) w w':=
 ⟨h.tape,h.os,h.output,by rw[h.size];exact eF _,λb _ d=>h.same b (a b d),λ⟨st,sm,e⟩=>⟨st,sm,e.of_block (h.same Wg c)⟩⟩
theorem Com.hand(h:Com P ty Wg Ch n rd0 val End w0 B0 ro rk dd G cl gs w t){j:Nat}{d:Array eA}{a b:eA}{r0' rj':fY}{τ0 τj:WT}{s cap:Nat}{fn fn' fn2 fn3:fG}{pos pos' pos2 pos3:String} (p:j≠0)(C:j<gs.size)(q:0<gs.size)(r:dd 0=0)(u:dd j=0)(v:G.sayer≠j) (y:d.size=gs.size)(M:d[0]? =some a)(c:d[j]? =some b)(z:∀x,x≠0->x≠j->d[x]? =gs[x]?)(e:tH Ch w w')(D:∃s,w'.heap[Ch]? =some (.chan 0 #[] cl s s false))
 (E:nO P ty Wg Ch n rd0 val End r0' τ0 0 (λx=>G.own 0 x\/G.own j x) (G.rd 0) a w')(F:∀H N,nO P ty Wg Ch n rd0 val End rj' τj 0 H N b w'):
 Com P ty Wg Ch n rd0 val End w0 B0 (upd (upd ro j rj') 0 r0') (upd (upd rk j τj) 0 τ0) dd (G.hand j) cl d w' (t++#[{g:=j,fn,pos,act:=.send Ch s},{g:=0,fn:=fn',pos:=pos',act:=.recv Ch s cap},{g:=j,fn:=fn2,pos:=pos2,act:=.sendDone Ch s},{g:=0,fn:=fn3,pos:=pos3,act:=.recvDone Ch s}]):=by
 have I:Ch<w.mN:=by obtain⟨s,O⟩:=h.ch;exact lt_of_heap O
 refine⟨λx o l=>?_,?_,?_,λx=>?_,λx J=>h.above x (by rw[<-y];exact J),h.wg,λx b c=>?_,h.wgch,by rw[e.size];exact h.wglow,λi x Q J=>?_,λx b c=>?_,λb c R L=>(e.same b L).trans (h.base b c R L),by rw[e.size];exact h.grown,
  ⟨e.tape.trans h.world.1,e.os.trans h.world.2.1,e.output.trans h.world.2.2⟩,?_,D⟩
 by_cases k:x=0;subst k;rw[M]at l;obtain rfl:=eP l;rw[upd_same,upd_same,Gh.Lz,Gh.J4 _ (jb p),r];exact E;by_cases m:x=j;subst m;rw[c]at l;obtain rfl:=eP l;rw[upd_ne _ _ k,upd_same,upd_ne _ _ k,upd_same,u];exact F _ _;rw[z x k m]at l;rw[upd_ne _ _ k,upd_ne _ _ m,upd_ne _ _ k,upd_ne _ _ m,Gh.NX _ k m,Gh.J4 _ m];exact(h.sit x o l).rely (e.rely (h.off x) h.wgch);rw[e.size];exact h.kn.hand ⟨rfl,rfl⟩ ⟨rfl,rfl⟩ ⟨rfl,rfl⟩ ⟨rfl,rfl⟩ (by rw[h.deaf,u]) (by rw[h.deaf,r]) I;rw[e.size];exact h.fits.hand p v;have:=rq (t:=t) x [{g:=j,fn,pos,act:=.send Ch s},{g:=0,fn:=fn',pos:=pos',act:=.recv Ch s cap},{g:=j,fn:=fn2,pos:=pos2,act:=.sendDone Ch s},{g:=0,fn:=fn3,pos:=pos3,act:=.recvDone Ch s}] (by simp);exact this.trans (h.deaf x);obtain c|c:=c;simp only[Gh.hand]at c;split at c;obtain c|c:=c;exact h.off _ b (.inl c);exact h.off _ b (.inl c);split at c;exact c.elim;exact h.off x b (.inl c);simp only[Gh.hand]at c;split at c;exact c.elim;exact h.off x b (.inr c);rw[y];obtain⟨T,K,A⟩:=jo.1 J;obtain⟨_,B⟩|⟨_,f⟩:=getElem?_append_cases K;exact h.gsz i x Q (by simp[Trace.g?,B,A]);simp only[Co,gI,tq,pC]at f;obtain rfl|rfl|rfl|rfl:=f<;>(subst A;first|exact C|exact q);simp only[Gh.hand]at c;split at c;obtain c|c:=c;exact h.new _ b c;exact h.new _ b c;split at c;exact c.elim;exact h.new x b c;obtain⟨st,sm,S⟩:=h.live;exact⟨st,sm,S.of_block (e.same Wg h.wgch)⟩
theorem Com.vK(h:Com P ty Wg Ch n rd0 val End w0 B0 ro rk dd G cl gs w t){k:Nat}{g':eA}{r':fY}{τ':WT}(c:k<gs.size)(d:nO P ty Wg Ch n rd0 val End r' τ' (dd k) (G.own k) (G.rd k) g' w):Com P ty Wg Ch n rd0 val End w0 B0 (upd ro k r') (upd rk k τ') dd G cl (gs.setIfInBounds k g') w t:=
 {h with
  sit:=λx o a=>by by_cases e:x=k;subst e;rw[mG c]at a;obtain rfl:=eP a;rw[upd_same,upd_same];exact d;rw[gm (jb e)]at a;rw[upd_ne _ _ e,upd_ne _ _ e];exact h.sit x o a
  above:=λx b=>h.above x (by simpa using b)
  gsz:=λi x f b=>by simpa using h.gsz i x f b}
end
section
variable{P:eE}{ty:eD}{Wg Ch n:Nat}{rd0:Nat->Prop}{val:Nat->eu->(Nat->Prop)->er->Prop}{End:jV}{w0:er}{B0 m0:Nat}{X:Nat->Prop}{T0:Nat} {ro:Nat->fY}{rk:Nat->WT}{dd:Nat->Nat}{G:Gh}{cl:Bool}{gs:Array eA}{w w':er}{sl:Option (Nat×Nat)}{t:Trace}{st sm:Int}
theorem nO.QX{r:fY}{e:WT}{d:Nat}{a f:eN}{g:eA}(h:nO P ty Wg Ch n rd0 val End r e d a f g w):offersAt g Ch true=[]\/∃i v z b,r=.wk i 8/\d=0/\g=parked b #[scase Ch v z] .send/\AtSend P ty Wg Ch val i v z a b w:=by
 obtain c|⟨_,c⟩:=h.running;exact .inl (offersAt_of_not_blocked (by rw[c];simp) _ _);cases h with
 |vK h=>exact .inr ⟨_,_,_,_,rfl,rfl,rfl,h w (.refl _ _ _ _)⟩
 |Nq h=>exact .inl (offersAt_parked_recv' _ _ _ _ _)
 |QP h=>
  have j:=h w (.refl _ _ _ _);left;unfold offersAt;simp only[j.2.1]
 |old h=>exact .inl (offersAt_of_not_blocked (by obtain x|x:=h.status<;>rw[x]<;>simp) _ _)
 |quit h=>exact .inl (offersAt_of_not_blocked (by obtain x|x:=h.status<;>rw[x]<;>simp) _ _)
 |Qt h=>exact .inl (offersAt_of_not_blocked (by obtain x|x:=h.status<;>rw[x]<;>simp) _ _)
 |skd _ h=>exact .inl (offersAt_of_not_blocked (by rw[Way.running (λ_ _ _ x=>x.1) h];simp) _ _)
 |sa1 _ h=>exact .inl (offersAt_of_not_blocked (by rw[Way.running (λ_ _ _ x=>x.1) h];simp) _ _)
 |SH _ h=>exact .inl (offersAt_of_not_blocked (by rw[Way.running (λ_ _ _ x=>x.1) h];simp) _ _)
 |ske _ h=>exact .inl (offersAt_of_not_blocked (by rw[Way.running (λ_ _ _ x=>x.1) h];simp) _ _)
 |sgo _ h=>exact .inl (offersAt_of_not_blocked (by rw[Way.running (λ_ _ _ x=>x.1) h];simp) _ _)
 |QL h=>exact .inl (offersAt_of_not_blocked (by rw[Way.running (λ_ _ _ x=>x.1) h];simp) _ _)
 |src h=>exact .inl (offersAt_of_not_blocked (by rw[Way.running (λ_ _ _ x=>(lR x).1) h];simp) _ _)
 |sup h=>exact .inl (offersAt_of_not_blocked (by simp) _ _)
 |QM h=>exact .inl (offersAt_of_not_blocked (by rw[Way.running (λ_ _ _ ⟨_,_,x⟩=>x.1) h];simp) _ _)
 |r0 h=>exact .inl (offersAt_of_not_blocked (by rw[Goes.running (λ_ _ x=>x.1) w (.refl _ _ _ _) h];simp) _ _)
 |k1 h=>exact .inl (offersAt_of_not_blocked (by rw[Goes.running (λ_ _ x=>x.1) w (.refl _ _ _ _) h];simp) _ _)
 |d1 h=>exact .inl (offersAt_of_not_blocked (by rw[Goes.running (λ_ _ x=>x.1) w (.refl _ _ _ _) h];simp) _ _)
 |d2 h=>exact .inl (offersAt_of_not_blocked (by rw[Goes.running (λ_ _ x=>x.1) w (.refl _ _ _ _) h];simp) _ _)
 |d3 h=>exact .inl (offersAt_of_not_blocked (by rw[Goes.running (λ_ _ x=>x.1) w (.refl _ _ _ _) h];simp) _ _)
 |d4 h=>exact .inl (offersAt_of_not_blocked (by rw[Goes.running (λ_ _ x=>x.1) w (.refl _ _ _ _) h];simp) _ _)
 |SI _ h=>exact .inl (offersAt_of_not_blocked (by rw[Way.running (λ_ _ _ x=>x.1) h];simp) _ _)
 |QN _ h=>exact .inl (offersAt_of_not_blocked (by rw[Way.running (λ_ _ _ x=>x.1) h];simp) _ _)
 |SJ _ h=>exact .inl (offersAt_of_not_blocked (by rw[Way.running (λ_ _ _ x=>x.1) h];simp) _ _)
 |SK h=>exact .inl (offersAt_of_not_blocked (by rw[Way.running (λ_ _ _ x=>x.1) h];simp) _ _)
 |QO h=>exact .inl (offersAt_of_not_blocked (by rw[Way.running (λ_ _ _ x=>x.1) h];simp) _ _)
 |SL h=>exact .inl (offersAt_of_not_blocked (by rw[Way.running (λ_ _ _ x=>x.1) h];simp) _ _)
 |QQ h=>exact .inl (offersAt_of_not_blocked (by rw[Way.running (λ_ _ _ x=>x.1) h];simp) _ _)
 |SM h=>exact .inl (offersAt_of_not_blocked (by rw[Way.running (λ_ _ _ x=>x.1) h];simp) _ _)
 |SO h=>exact .inl (offersAt_of_not_blocked (by rw[Way.running (λ_ _ _ x=>x.1) h];simp) _ _)
theorem nO.J5{r:fY}{e:WT}{d:Nat}{b f:eN}{g:eA}(h:nO P ty Wg Ch n rd0 val End r e d b f g w):offersAt g Ch false=[]\/∃q S z c,r=.rc q S 1/\d=0/\g=parked c #[rcase Ch z] (.recv true)/\qv P ty Wg Ch n rd0 val End z q S b c w:=by
 by_cases a:g.status=.blocked;cases h with
 |vK h=>exact .inl (offersAt_parked_send' _ _ _ _ _ _)
 |Nq h=>exact .inr ⟨_,_,_,_,rfl,rfl,rfl,h w (.refl _ _ _ _)⟩
 |QP h=>
  have i:=h w (.refl _ _ _ _);left;unfold offersAt;simp only[i.2.1]
 |old h=>obtain x|x:=h.status<;>rw[x]at a<;>cases a
 |quit h=>obtain x|x:=h.status<;>rw[x]at a<;>cases a
 |Qt h=>obtain x|x:=h.status<;>rw[x]at a<;>cases a
 |skd _ h=>rw[Way.running (λ_ _ _ x=>x.1) h]at a;cases a
 |sa1 _ h=>rw[Way.running (λ_ _ _ x=>x.1) h]at a;cases a
 |SH _ h=>rw[Way.running (λ_ _ _ x=>x.1) h]at a;cases a
 |ske _ h=>rw[Way.running (λ_ _ _ x=>x.1) h]at a;cases a
 |sgo _ h=>rw[Way.running (λ_ _ _ x=>x.1) h]at a;cases a
 |QL h=>rw[Way.running (λ_ _ _ x=>x.1) h]at a;cases a
 |src h=>rw[Way.running (λ_ _ _ x=>(lR x).1) h]at a;cases a
 |sup h=>cases a
 |QM h=>rw[Way.running (λ_ _ _ ⟨_,_,x⟩=>x.1) h]at a;cases a
 |r0 h=>rw[Goes.running (λ_ _ x=>x.1) w (.refl _ _ _ _) h]at a;cases a
 |k1 h=>rw[Goes.running (λ_ _ x=>x.1) w (.refl _ _ _ _) h]at a;cases a
 |d1 h=>rw[Goes.running (λ_ _ x=>x.1) w (.refl _ _ _ _) h]at a;cases a
 |d2 h=>rw[Goes.running (λ_ _ x=>x.1) w (.refl _ _ _ _) h]at a;cases a
 |d3 h=>rw[Goes.running (λ_ _ x=>x.1) w (.refl _ _ _ _) h]at a;cases a
 |d4 h=>rw[Goes.running (λ_ _ x=>x.1) w (.refl _ _ _ _) h]at a;cases a
 |SI _ h=>rw[Way.running (λ_ _ _ x=>x.1) h]at a;cases a
 |QN _ h=>rw[Way.running (λ_ _ _ x=>x.1) h]at a;cases a
 |SJ _ h=>rw[Way.running (λ_ _ _ x=>x.1) h]at a;cases a
 |SK h=>rw[Way.running (λ_ _ _ x=>x.1) h]at a;cases a
 |QO h=>rw[Way.running (λ_ _ _ x=>x.1) h]at a;cases a
 |SL h=>rw[Way.running (λ_ _ _ x=>x.1) h]at a;cases a
 |QQ h=>rw[Way.running (λ_ _ _ x=>x.1) h]at a;cases a
 |SM h=>rw[Way.running (λ_ _ _ x=>x.1) h]at a;cases a
 |SO h=>rw[Way.running (λ_ _ _ x=>x.1) h]at a;cases a
 exact .inl (offersAt_of_not_blocked a _ _)
def NY(P:eE)(Wg Ch:Nat)(End:jV)(w0:er)(B0:Nat)(X:eN)(m:Machine)(t:Trace):Prop:=
 ∃(gs:Array eA) (w:er) (sl:Option (Nat×Nat)) (a:eA) (q:Nat->Nat) (c:eN),
  m=crowd gs w sl/\gs[0]? =some a/\End c a w/\Leavers P t gs q/\Past (qu λb=>b=Wg\/b=Ch\/X b) w.heap.size t/\(∀b,c b->B0<=b/\b<w.heap.size/\b≠Wg/\b≠Ch)/\
   (∀b,b<B0->b≠Wg->b≠Ch->w.heap[b]? =w0.heap[b]?)/\B0<=w.heap.size/\(w.tape=w0.tape/\w.os=w0.os/\w.output=w0.output)/\Wg<w.heap.size
variable(fo:Com P ty Wg Ch n rd0 val End w0 B0 ro rk dd G cl gs w t)(iy:Pl n m0 ro cl G gs.size st sm)(mg:Ai Ch n m0 G cl t)(hX:G.x=X)(hT:G.t0=T0)(jC:WgAt ty Wg w st sm)
include fo iy mg hX hT jC
omit mg hX hT jC in
theorem open_of {i s:Nat} (hi:i<n) (e:ro (m0+i)=.wk i s) (hs:s≠1):cl=false:=by
 cases hc:cl with
 |false=>rfl
 |true=>
  have hq:=iy.clq.1 hc;obtain⟨S,s',_,hw,_⟩:=iy.wJ hq trivial;obtain⟨k,hk⟩:=hw i hi;rw[e]at hk;cases hk;exact absurd rfl hs
theorem gB.meet{i s:Nat}{r:Nat}{S:Nat->Bool}{T:Nat}{z v U:eu}{a O:eA}{k:Nat}{h:Array eA}{c:Nat}{w':er}{fn fn' fn2 fn3:fG}{pos pos' pos2 pos3:String}(Q:i<n)(e:ro (m0+i)=.wk i s)(V:s=9\/s=8)(W:ro 0=.rc r S T)(H:dd 0=0)(I:dd (m0+i)=0) (o:0<gs.size)(p:m0+i<gs.size)(q:G.rd 0=rd0) (Y:qv P ty Wg Ch n rd0 val End z r S (G.own 0) a w)(R:AtSend P ty Wg Ch val i v U (G.own (m0+i)) O w)(Z:w.heap[Ch]? =some (.chan 0 #[] cl c c false)) (u:h.size=gs.size)(ha:h[0]? =some (Conc.served a (.tuple #[v,.bool true])))(j:h[m0+i]? =some (Conc.served O undef))(A:∀x,x≠0->x≠m0+i->h[x]? =gs[x]?) (J:∃d,w'=(w.at d).setChan Ch 0 #[] cl (c+1) (c+1) false) (B:runT P (crowd gs w sl) k=(.next (crowd h w' sl),#[{g:=m0+i,fn,pos,act:=.send Ch c},{g:=0,fn:=fn',pos:=pos',act:=.recv Ch c 0},{g:=m0+i,fn:=fn2,pos:=pos2,act:=.sendDone Ch c},{g:=0,fn:=fn3,pos:=pos3,act:=.recvDone Ch c}])):Goal P ty Wg Ch n rd0 val End w0 B0 m0 X T0 ro rk gs w sl t k:=by
 obtain⟨d,rfl⟩:=J;have hp:=iy.pos;have K:=lt_of_heap Z;have f:tH Ch w ((w.at d).setChan Ch 0 #[] cl (c+1) (c+1) false):=.set w d _ _ _ _ _ _;obtain⟨L,r',rfl,C,D⟩:=iy.hand (G':=G.hand (m0+i)) Q e W V rfl rfl (λk=>nR);have E:G.sayer≠m0+i:=by rw[iy.say];obtain x|x|⟨i2,s2,x,_⟩|⟨x,_⟩:=iy.lt_size p;omega;omega;unfold sayOf;split<;>omega;omega
 obtain⟨aa,ab,M⟩:=Y;obtain⟨τ0,N⟩:=M i v (G.own (m0+i)) Q L R.2.2.1 λb j ho=>by have:=fo.fits.one _ _ _ j ho;omega
 obtain⟨m,hm⟩:=R.2.2.2;have l:=fo.hand (r0':=.rc r' (upd S i true) 2) (rj':=.wk i 7) (τ0:=τ0) (τj:=.num m) (s:=c) (cap:=0) (fn:=fn) (fn':=fn') (fn2:=fn2) (fn3:=fn3) (pos:=pos) (pos':=pos') (pos2:=pos2) (pos3:=pos3)
  (show m0+i≠0 by omega) p o H I E u ha j A f ⟨c+1,setChan_at w d _ _ _ _ _ _ K⟩ (by rw[q];refine .src (z:=z) (N.rely (f.rely (λb j=>?_) fo.wgch));obtain(j|j)|j:=j;exact fo.off _ b (.inl j);exact fo.off _ b (.inl j);exact fo.off 0 b (.inr (by rw[q];exact j)))
  (λ_ _=>.r0 (Goes.rely (λ_ _ _ x y=>x.trans y) hm (f.rely (λb j=>(j.elim id id).elim) fo.wgch)))
 refine⟨_,_,⟨_,h.size,_,_⟩,B,.a D,_,_,sl,_,_,_,_,cl,st,sm,rfl,l,jC.of_block (f.same Wg fo.wgch),?_,?_,hX,hT,rfl⟩;rw[u];exact C;exact mg.app rfl λ_ op F _=>by simp only[Co,gI,tq,pC]at F;obtain rfl|rfl|rfl|rfl:=F<;>rfl
end
section
variable{P:eE}{ty:eD}{Wg Ch n:Nat}{rd0:Nat->Prop}{val:Nat->eu->(Nat->Prop)->er->Prop}{End:jV}{w0:er}{B0 m0:Nat}{X:Nat->Prop}{T0:Nat} {ro:Nat->fY}{rk:Nat->WT}{dd:Nat->Nat}{G:Gh}{cl:Bool}{gs:Array eA}{w w':er}{sl:Option (Nat×Nat)}{t:Trace}{st sm:Int}
theorem Goal.mk{k:Nat}{a:Array eA}{w':er}{j:Option (Nat×Nat)}{ro':Nat->fY}{rk':Nat->WT}{dd':Nat->Nat}{G':Gh}{cl':Bool}{d e:Int}{b:Array MemOp}(f:runT P (crowd gs w sl) k=(.next (crowd a w' j),b)) (c:Com P ty Wg Ch n rd0 val End w0 B0 ro' rk' dd' G' cl' a w' (t++b))(g:WgAt ty Wg w' d e)(h:Pl n m0 ro' cl' G' a.size d e)(i:Ai Ch n m0 G' cl' (t++b))(l:G'.x=X)(m:G'.t0=T0) (o:Mu.Lt ⟨meas n m0 ro',a.size,rk',FC (ro' (m0+n))⟩ ⟨meas n m0 ro,gs.size,rk,FC (ro (m0+n))⟩):Goal P ty Wg Ch n rd0 val End w0 B0 m0 X T0 ro rk gs w sl t k:=
 ⟨_,_,_,f,o,_,_,_,_,_,_,_,_,_,_,rfl,c,g,h,i,l,m,rfl⟩
variable(fo:Com P ty Wg Ch n rd0 val End w0 B0 ro rk dd G cl gs w t)(iy:Pl n m0 ro cl G gs.size st sm)(mg:Ai Ch n m0 G cl t)(hX:G.x=X)(hT:G.t0=T0)(jC:WgAt ty Wg w st sm)
include fo iy mg hX hT jC
theorem gB.NZ{i:Nat}{g:eA}(U:i<n)(M:gs[m0+i]? =some g)(e:ro (m0+i)=.wk i 9)(p:0<gs.size):Goal P ty Wg Ch n rd0 val End w0 B0 m0 X T0 ro rk gs w sl t (m0+i):=by
 have hp:=iy.pos;have L:=fo.sit _ g M;have E:m0+i<gs.size:=(ik.1 M).1;have Z:(m0+i==0)=false:=by simp;omega
 have aa:¬G.done (m0+i):=λh=>by obtain x|⟨i,s,x,_⟩:=(iy.done _).1 h;omega;rw[e]at x;cases x;omega
 have F:cl=false:=open_of fo iy U e (by omega);generalize ab:rk (m0+i)=τ at L;generalize hd:dd (m0+i)=d at L;generalize V:G.own (m0+i)=ac at L;generalize u:G.rd (m0+i)=rc at L;rw[e]at L;cases L with
 |QM h=>
  obtain D|h:=gB.J3 (sl:=sl) fo iy mg hX hT jC (k:=m0+i) M (by rw[Z,V,u];exact h) ab e (by simp) (by simp) aa (λτ ac g w h=>by rw[hd,u];rw[Z,u]at h;exact .QM h);obtain⟨v,z,hA⟩:=D w (.refl _ _ _ _);obtain⟨c,W⟩:=fo.ch;rw[F]at W;have y:stepG P (m0+i==0) g w=.comm g #[scase Ch v z] true .send w #[]:=by rw[Z];exact hA.2.1 w
  have N:=λx (o:eA) (H:gs[x]? =some o)=>(fo.sit x o H).J5;by_cases I:∃r S,ro 0=.rc r S 1;obtain⟨r,S,Y⟩:=I;obtain⟨ga,J⟩:∃ga,gs[0]? =some ga:=⟨gs[0],lA p⟩;have b:=fo.sit 0 ga J;obtain H|⟨q,S2,z2,O,f,ad,rfl,hL⟩:=b.J5
  ·exfalso;rw[Y]at b;generalize dd 0=d0 at b;generalize G.rd 0=x0 at b;cases b with
   |Nq h=>simp[offersAt_parked_recv]at H
  have Q:=f;rw[Y]at Q;cases Q;have l:partners (gs.setIfInBounds (m0+i) ph) Ch false=[(0,0)]:=by rw[partners_one (j:=0) (g:=parked O #[rcase Ch z2] (.recv true)) (by rw[gm (by omega)];exact J) λx o ae H=>?_];simp[offersAt_parked_recv];obtain⟨_,rfl⟩|⟨_,A⟩:=getElem?_stand gs (m0+i) x o H;rfl;obtain h|⟨_,_,_,_,f,_⟩:=N x o A;exact h;exfalso;obtain k0|⟨k1,B⟩|⟨_,_,_,_,B,_⟩|⟨_,_,B⟩:=iy.lt_size (ik.1 A).1;exact ae k0;rw[iy.old x k1 B]at f;cases f;rw[B]at f;cases f;rw[B]at f;cases f
  have m:=crowd_send_meets (sl:=sl) M y W (show 0≠m0+i by omega) J l;have R:G.rd 0=rd0:=by
   generalize hq:G.rd 0=x at b;rw[Y]at b;generalize dd 0=d0 at b;generalize parked O #[rcase Ch z2] (.recv true)=gg at b;cases b with
   |Nq h=>rfl
  refine gB.meet (w':=w.setChan Ch 0 #[] cl (c+1) (c+1) false) fo iy mg hX hT jC U e (.inl rfl) Y ad hd p E R hL hA (by rw[F];exact W) ?_ ?_ ?_ ?_ ⟨w.drawn,rfl⟩ (by simp only[MemOp.ofEvents,F]at m⊢;simpa using m);simp;rw[gm (by omega),mG p];rw[finishComm_recv];rfl;rw[mG (by simpa using E)];rw[finishComm_send];intro x h1 h2;rw[gm (jb h2),gm (jb h1)];have l:partners (gs.setIfInBounds (m0+i) ph) Ch false=[]:=partners_nil λx o H=>by obtain⟨_,rfl⟩|⟨_,A⟩:=getElem?_stand gs (m0+i) x o H;rfl;obtain h|⟨q,S,_,_,f,_⟩:=N x o A;exact h;exfalso;obtain k0|⟨k1,B⟩|⟨_,_,_,_,B,_⟩|⟨_,_,B⟩:=iy.lt_size (ik.1 A).1;subst k0;exact I ⟨q,S,f⟩;rw[iy.old x k1 B]at f;cases f;rw[B]at f;cases f;rw[B]at f;cases f
  have m:=crowd_waits (sl:=sl) M y λcc af=>by
   have:cc=scase Ch v z:=by simpa using af
   subst this;exact ways_send_none W (iQ _) l
  have T:=iy.UU U e λr S h=>I ⟨r,S,h⟩;have C:=fo.vK (r':=.wk i 8) (τ':=rk (m0+i)) E (g':=parked g #[scase Ch v z] .send) (by rw[hd,V,u];refine .vK λw1 ag=>?_;obtain⟨v1,z1,K⟩:=D w1 (by rw[V,u];exact ag);have:=(K.2.1 w).symm.trans (hA.2.1 w);simp only[GStep.comm.injEq,Cg,sM,scase,CommCase.mk.injEq,iz,and_true,true_and]at this;obtain⟨rfl,rfl⟩:=this;rw[V]at K;exact K);rw[rp]at C;refine Goal.mk m (ro':=upd ro (m0+i) (.wk i 8)) (by simpa[MemOp.ofEvents]using C) jC (by simpa using T) (by simpa[MemOp.ofEvents]using mg) hX hT (.a (oZ hp U (r':=.wk i 8) (by rw[e];simp[l8])));exact h
theorem gB.LA{g:eA}(l:gs[m0+n]? =some g)(e:ro (m0+n)=.cl .w3)(h:stepG P false g w=.go {g with status:=.blocked} w #[])(p:∀m,gd (G.own (m0+n)) (G.rd (m0+n)) (Lv ty Wg) w m->US P ty Wg Ch (G.rd (m0+n)) (G.own (m0+n)) g m)(q:dd (m0+n)=1)(j:sm=0):Goal P ty Wg Ch n rd0 val End w0 B0 m0 X T0 ro rk gs w sl t (m0+n):=by
 have u:=iy.pos;have k:m0+n<gs.size:=(ik.1 l).1;have r:(m0+n==0)=false:=by simp;omega
 have c:=runT_crowd_go (P:=P) (sl:=sl) (i:=m0+n) l (by rw[r];exact h);have d:gs.map (woken P g {g with status:=.blocked} w)=gs:=by
  have:woken P g {g with status:=.blocked} w=id:=by funext o;simp[woken]
  rw[this,Array.map_id]
 rw[d]at c;have f:=iy.UX (c':=.blk) e trivial trivial λ_=>j;have s:meas n m0 (upd ro (m0+n) (.cl .blk))=meas n m0 ro:=by unfold meas;rw[rn (.inr (eF _)),tF (.inr (eF _)),upd_same,upd_ne _ _ (by omega),e];rfl
 have a:=fo.vK (r':=.cl .blk) (τ':=rk (m0+n)) k (g':={g with status:=.blocked}) (by rw[q];exact .QP p);rw[rp]at a;refine Goal.mk c (ro':=upd ro (m0+n) (.cl .blk)) (by simpa[MemOp.ofEvents]using a) jC (by simpa using f) (by simpa[MemOp.ofEvents]using mg) hX hT (.b s (by simp) rfl ?_);show FC (upd ro (m0+n) (.cl .blk) (m0+n))<FC (ro (m0+n));rw[upd_same,e];decide
theorem gB.LD{g:eA}(hk:gs[m0+n]? =some g)(e:ro (m0+n)=.cl .cl)(ak:0<gs.size)(hC:UB P Ch (G.own (m0+n)) g w)(I:dd (m0+n)=0):Goal P ty Wg Ch n rd0 val End w0 B0 m0 X T0 ro rk gs w sl t (m0+n):=by
 have hp:=iy.pos;have z:m0+n<gs.size:=(ik.1 hk).1;have e0:(m0+n==0)=false:=by simp;omega
 obtain⟨S,s0,h0,hw,hz⟩:=iy.wJ e trivial;have L:cl=false:=by
  cases hc:cl with
  |false=>rfl
  |true=>have:=iy.clq.1 hc;rw[e]at this;cases this
 obtain⟨c,A⟩:=fo.ch;rw[L]at A;have B:=lt_of_heap A;obtain⟨_,aa,g',C,ab,q,hq⟩:=hC;have ac:=ab c c A;have M:=runT_crowd_go (P:=P) (sl:=sl) (i:=m0+n) hk (by rw[e0];exact ac);have ad:kV P g g'=true:=by simp[kV,aa,C]
 have d:tH Ch w (w.setChan Ch 0 #[] true c c false):=tH.set w w.drawn _ _ _ _ _ _;have m:(w.setChan Ch 0 #[] true c c false).heap[Ch]? =some (.chan 0 #[] true c c false):=setChan_at w w.drawn _ _ _ _ _ _ B;have N:MemOp.ofEvents (m0+n) g.frame.fn g.frame.place #[⟨.obj Ch,false,true⟩,⟨.obj Ch,true,true⟩]=MemOp.ofEvents (m0+n) g.frame.fn g.frame.place #[⟨.obj Ch,false,true⟩]++MemOp.ofEvents (m0+n) g.frame.fn g.frame.place #[⟨.obj Ch,true,true⟩]:=by simp[MemOp.ofEvents]
 have ae:¬G.done (m0+n):=by intro I;obtain⟨_,x⟩|⟨i,s,x,_⟩:=(iy.done _).1 I;omega;rw[e]at x;cases x
 have af:Kn.pH G (m0+n) (Deaf t (m0+n)) w.mN w.mN #[⟨.obj Ch,false,true⟩]:=by
  intro j ev J;match j,J with
  |0,J=>
   simp at J;subst J;refine⟨λx p _=>?_,B⟩;simp only[MemAct.ofEvent,MemAct.touch?,iz]at p;subst p;exact⟨Ch,rfl,.inr (.inl ⟨rfl,(fo.wg Ch).2 (.inr rfl),(iy.usr _).2 (.inr ⟨by omega,z⟩),λI=>absurd I ae⟩)⟩
  |j+1,J=>simp at J
 have O:∀k∈MemOp.ofEvents (m0+n) g.frame.fn g.frame.place #[⟨.obj Ch,false,true⟩,⟨.obj Ch,true,true⟩],k.g=m0+n/\k.act≠ .mark .disable/\k.act≠ .mark .enable:=by
  intro k f;obtain⟨x,p,rfl⟩:=Go.Conc.mem_ofEvents f;have:x=⟨.obj Ch,false,true⟩\/x=⟨.obj Ch,true,true⟩:=by simpa using p
  obtain rfl|rfl:=this;exact⟨rfl,by simp[MemAct.ofEvent],by simp[MemAct.ofEvent]⟩;exact⟨rfl,by simp[MemAct.ofEvent],by simp[MemAct.ofEvent]⟩
 have hu:∀k∈MemOp.ofEvents (m0+n) g.frame.fn g.frame.place #[⟨.obj Ch,true,true⟩],k.g=m0+n/\k.act=.close Ch:=by
  intro k f;obtain⟨x,p,rfl⟩:=Go.Conc.mem_ofEvents f;have:x=⟨.obj Ch,true,true⟩:=by simpa using p
  subst this;exact⟨rfl,rfl⟩
 have ag:∀k∈MemOp.ofEvents (m0+n) g.frame.fn g.frame.place #[⟨.obj Ch,true,true⟩],k.act.touch?=none:=λk f=>by rw[(hu k f).2];rfl
 have Q:Pl n m0 (upd ro 0 (.rc 0 S 2)) cl G gs.size st sm:=iy.Xd h0;have R:=Q.J1 (c:=.cl) (c':=.quit) (cl':=true) (by rw[upd_ne _ _ (by omega)];exact e) trivial trivial (by simp) (.inr λr S' x=>by rw[upd_same]at x;cases x);have D:Com P ty Wg Ch n rd0 val End w0 B0 (upd (upd ro 0 (.rc 0 S 2)) (m0+n) (.cl .quit)) (upd rk (m0+n) (.num q)) dd G true ((gs.map (woken P g g' (w.setChan Ch 0 #[] true c c false))).setIfInBounds (m0+n) g') (w.setChan Ch 0 #[] true c c false)
  (t++MemOp.ofEvents (m0+n) g.frame.fn g.frame.place #[⟨.obj Ch,false,true⟩,⟨.obj Ch,true,true⟩]):=by
  refine⟨λx o Z=>?_,?_,by rw[d.size];exact fo.fits,λx=>?_,λx p=>fo.above x (by simpa using p),fo.wg,fo.off,fo.wgch,by rw[d.size];exact fo.wglow,λi x hi p=>?_,fo.new,λb hb h1 h2=>(d.same b h2).trans (fo.base b hb h1 h2),by rw[d.size];exact fo.grown,
   fo.world,⟨st,sm,jC.of_block (d.same Wg fo.wgch)⟩,⟨c,m⟩⟩
  by_cases K:x=m0+n;subst K;rw[mG (by simpa using z)]at Z;obtain rfl:=eP Z;rw[upd_same,upd_same,I];exact .Qt hq;rw[gm (jb K),tk]at Z;obtain⟨y,hy,rfl⟩:=jo.1 Z;rw[upd_ne _ _ K,upd_ne _ _ K,FB,ad];simp only[fF];have E:=(fo.sit x y hy).rely (d.rely (fo.off x) fo.wgch);by_cases v:x=0;subst v;rw[upd_same];rw[h0]at E;generalize rk 0=al at E⊢;generalize dd 0=d0 at E⊢;generalize G.own 0=o0 at E⊢;generalize G.rd 0=r0 at E⊢;cases E with
  |src h=>
   rw[again_running _ (.inl (Way.running (λ_ _ _ x=>(lR x).1) h))];exact .src h
  |Nq h=>
   rw[again_recv_closed m];exact .sup h
  |sup h=>
   rw[again_running _ (.inl rfl)];exact .sup h
  rw[upd_ne _ _ v];have T:=(ik.1 hy).1;have hA:=E.again true m λ_=>?_;obtain k0|⟨k1,u⟩|⟨_,_,_,_,u,_⟩|⟨u,_⟩:=iy.lt_size T;exact absurd k0 v;rw[iy.old x k1 u]at hA⊢;exact hA;rw[u]at hA⊢;exact hA;exact absurd u K;obtain k0|⟨k1,u⟩|⟨i,_,hi,rfl,u,_⟩|⟨u,_⟩:=iy.lt_size T;exact absurd k0 v;rw[iy.old x k1 u];exact⟨λ_ _ x=>(nomatch x),λ_ x=>(nomatch x)⟩;obtain⟨k3,ah⟩:=hw i hi;rw[ah];exact⟨λ_ _ x=>(nomatch x),λ_ x=>(nomatch x)⟩;exact absurd u K;rw[d.size];rw[N,<-Array.append_assoc];have U:=fo.kn.step (fn:=g.frame.fn) (pos:=g.frame.place) fo.fits (eF _) (λ_=>rfl) af;rw[Kn.Gh.uL]at U;exact U.JY ag λk f=>by rw[(hu k f).2];exact B
  have:=rq (t:=t) x (MemOp.ofEvents (m0+n) g.frame.fn g.frame.place #[⟨.obj Ch,false,true⟩,⟨.obj Ch,true,true⟩]).toList (λk f=>(O k (Array.mem_toList_iff.1 f)).2);rw[<-fo.deaf x,<-this];obtain⟨k,f,F⟩:=jo.1 p;obtain⟨_,V⟩|⟨_,W⟩:=getElem?_append_cases f;have:=fo.gsz i x hi (by simp[Trace.g?,V,F]);simpa using this;rw[(O k W).1]at F;subst F;simpa using z
 have H:meas n m0 (upd (upd ro 0 (.rc 0 S 2)) (m0+n) (.cl .quit))<meas n m0 ro:=by unfold meas;rw[rn (.inr (eF _)),rn (.inl hp),tF (.inr (eF _)),tF (.inl hp),upd_same,upd_ne _ _ (by omega),upd_same,h0,e];simp only[vL,qM];omega
 refine Goal.mk M D (jC.of_block (d.same Wg fo.wgch)) (by simpa using R) ?_ hX hT (.a H);intro _;have l:(t++MemOp.ofEvents (m0+n) g.frame.fn g.frame.place #[⟨.obj Ch,false,true⟩,⟨.obj Ch,true,true⟩])[t.size+1]? =some {g:=m0+n,fn:=g.frame.fn,pos:=g.frame.place,act:=.close Ch}:=by rw[zn (by omega),ofEvents_eq];simp[MemAct.ofEvent]
 have ai:(t++MemOp.ofEvents (m0+n) g.frame.fn g.frame.place #[⟨.obj Ch,false,true⟩,⟨.obj Ch,true,true⟩]).size=t.size+2:=by simp[MemOp.ofEvents]
 refine⟨t.size+1,by rw[act?_of l],⟨m0+n,by simp only[Trace.g?,l,kT],?_⟩,by simp only[Trace.g?,l,kT],λi a _ ha _ _=>?_⟩;rw[deaf_inside _ _ _ _ _ 1 (by simp),fo.deaf (m0+n),I];simp[deafBehind];obtain⟨k,f,aj⟩:=touch_of ha;have Y:=(ik.1 f).1;rw[ai]at Y;obtain h|h:=gQ i (t.size+1);exact h;have:i=t.size+1:=by omega
 subst this;rw[l]at f;cases f;cases aj
end
section
variable{P:eE}{ty:eD}{Wg Ch n:Nat}{rd0:Nat->Prop}{val:Nat->eu->(Nat->Prop)->er->Prop}{End:jV}{w0:er}{B0 m0:Nat}{X:Nat->Prop}{T0:Nat} {ro:Nat->fY}{rk:Nat->WT}{dd:Nat->Nat}{G:Gh}{cl:Bool}{gs:Array eA}{w w':er}{sl:Option (Nat×Nat)}{t:Trace}{st sm:Int}
variable(fo:Com P ty Wg Ch n rd0 val End w0 B0 ro rk dd G cl gs w t)(iy:Pl n m0 ro cl G gs.size st sm)(mg:Ai Ch n m0 G cl t)(hX:G.x=X)(hT:G.t0=T0)(jC:WgAt ty Wg w st sm)
include fo iy mg hX hT jC
theorem gB.FG{r:Nat}{S:Nat->Bool}{z:eu}{g a:eA}(O:gs[0]? =some g)(Q:ro 0=.rc r S 2)(hL:∀w1,gd (G.own 0) rd0 (Lv ty Wg) w w1->qv P ty Wg Ch n rd0 val End z r S (G.own 0) a w1)(ae:G.rd 0=rd0)(W:dd 0=0) (ao:∀w,stepG P true g w=.comm a #[rcase Ch z] true (.recv true) w #[]):(∃R af,runT P (crowd gs w sl) 0=(.next R,af)/\NY P Wg Ch End w0 B0 X R (t++af))\/Goal P ty Wg Ch n rd0 val End w0 B0 m0 X T0 ro rk gs w sl t 0:=by
 have hp:=iy.pos;have A:0<gs.size:=(ik.1 O).1;obtain⟨c,Y⟩:=fo.ch;have ap:=lt_of_heap Y;have s:stepG P (0==0) g w=.comm a #[rcase Ch z] true (.recv true) w #[]:=ao w;have Z:=λx (o:eA) (m:gs[x]? =some o)=>(fo.sit x o m).QX;have ag:=hL w (.refl _ _ _ _);by_cases aa:∃i,i<n/\ro (m0+i)=.wk i 8
 ·right;have aq:partners (gs.setIfInBounds 0 ph) Ch true≠[]:=by
   obtain⟨i,L,e⟩:=aa;have C:m0+i<gs.size:=by
    cases iy.lay with
    |st r2 s2 D gs gr gc gz gw gn=>rw[Q]at D;cases D
    |vi D gc gz gw=>rw[Q]at D;cases D
    |rc r2 S2 s2 D gc gz gw gS gs=>omega
   intro ah;have m:gs[m0+i]? =some gs[m0+i]:=lA C;have M:=fo.sit _ _ m;have T:(m0+i,0)∈partners (gs.setIfInBounds 0 ph) Ch true:=by
    refine mem_partners.2 ⟨gs[m0+i],by rw[gm (by omega)];exact m,?_⟩;rw[e]at M;generalize gs[m0+i]=o at M⊢;generalize dd (m0+i)=d0 at M;cases M with
    |vK h=>simp[offersAt_parked_send]
   rw[ah]at T;cases T
  have ai:∀j k,(j,k)∈partners (gs.setIfInBounds 0 ph) Ch true->k=0/\j≠0/\∃gj vj U ab,gs[j]? =some (parked gj #[scase Ch vj U] ab):=by intro j k ar;obtain⟨o,ho,E⟩:=mem_partners.1 ar;obtain⟨_,rfl⟩|⟨ac,m⟩:=getElem?_stand gs 0 j o ho;cases E;obtain h|⟨i,v,U,gj,_,_,rfl,_⟩:=Z j o m;rw[h]at E;cases E;rw[offersAt_parked_send]at E;simp at E;exact⟨E,ac,gj,v,U,.send,m⟩
  obtain⟨j,gj,vj,U,ab,d,ac,V,l⟩:=crowd_recv_meets_some (sl:=sl) O s Y aq ai;obtain h|⟨i,v,z2,aj,B,au,he,hA⟩:=Z j _ V;simp[offersAt_parked_send]at h;have L:i<n/\j=m0+i:=by obtain k0|⟨N,f⟩|⟨i2,_,u,rfl,f,_⟩|⟨_,_,f⟩:=iy.lt_size (ik.1 V).1;exact absurd k0 ac;rw[iy.old j N f]at B;cases B;rw[f]at B;cases B;exact⟨u,rfl⟩;rw[f]at B;cases B
  obtain⟨L,rfl⟩:=L;have e1:(vj=v/\U=z2)/\ab=.send:=by have:=eX Goroutine.offers he;simpa[parked,scase]using this
  obtain⟨⟨rfl,rfl⟩,rfl⟩:=e1;have e2:gj.finishComm P #[scase Ch vj U] .send 0 jg false=Conc.served aj jg:=by rw[<-finishComm_parked P gj #[scase Ch vj U] #[scase Ch vj U] .send .send,he,finishComm_parked,finishComm_send]
  have e3:gj.frame=aj.frame:=by have:=eX Goroutine.frame he;simpa[parked]using this
  have C:=(ik.1 V).1;refine gB.meet (w':=(w.at d).setChan Ch 0 #[] cl (c+1) (c+1) false) fo iy mg hX hT jC L B (.inr rfl) Q W au A C ae ag hA Y ?_ ?_ ?_ ?_ ⟨d,rfl⟩ (by simp only[MemOp.ofEvents]at l⊢;simpa using l);simp;rw[mG (by simpa using A),finishComm_recv];rfl;rw[gm (by omega),mG C,e2];intro x h1 h2;rw[gm (jb h1),gm (jb h2)]
 have H:partners (gs.setIfInBounds 0 ph) Ch true=[]:=partners_nil λx o m=>by obtain⟨_,rfl⟩|⟨av,ak⟩:=getElem?_stand gs 0 x o m;rfl;obtain h|⟨i,_,_,_,B,_⟩:=Z x o ak;exact h;exfalso;obtain k0|⟨N,f⟩|⟨i2,_,u,rfl,f,_⟩|⟨_,_,f⟩:=iy.lt_size (ik.1 ak).1;exact absurd k0 av;rw[iy.old x N f]at B;cases B;rw[f]at B;cases B;exact aa ⟨_,u,f⟩;rw[f]at B;cases B
 cases I:cl with
 |false=>
  right;rw[I]at Y
  have l:=crowd_waits (sl:=sl) O s λcc aw=>by
   have:cc=rcase Ch z:=by simpa using aw
   subst this;exact ways_recv_none Y H
  have al:=iy.UW Q I λi L h8=>by
   cases iy.lay with
   |st r2 s2 D gs gr gc gz gw gn=>rw[Q]at D;cases D
   |vi D gc gz gw=>rw[Q]at D;cases D
   |rc r2 S2 s2 D gc gz gw gS gs=>
    obtain⟨s3,x1,_⟩:=gw i L;rw[x1]at h8;simp only[l8]at h8;subst h8;exact aa ⟨i,L,x1⟩
  have J:=fo.vK (r':=.rc r S 1) (τ':=rk 0) A (g':=parked a #[rcase Ch z] (.recv true)) (by rw[W,ae];exact .Nq hL);rw[rp]at J;exact Goal.mk l (ro':=upd ro 0 (.rc r S 1)) (by simpa[MemOp.ofEvents]using J) jC (by simpa using al) (by simpa[MemOp.ofEvents]using mg) hX hT (.a (pJ hp (by rw[Q];simp[vL])))
 |true=>
  left;rw[I]at Y;have hq:=iy.clq.1 I;obtain⟨S2,s2,am,hw,hz⟩:=iy.wJ hq trivial;rw[Q]at am;cases am;have l:=crowd_recv_closed (sl:=sl) O s Y H;obtain⟨p,N,f,k3,k4⟩:=mg I;have ad:=fo.kn.shut (y:={g:=0,fn:=a.frame.fn,pos:=a.frame.place,act:=.recvClosed Ch}) N f k3 k4 ⟨rfl,rfl⟩ (by rw[fo.deaf];exact W) ap λi x L m=>by have C:=fo.gsz i x L m;obtain k0|⟨N,f⟩|⟨i2,_,u,rfl,f,_⟩|⟨f,_⟩:=iy.lt_size C;exact .inl k0;exact .inr (.inl ((iy.done _).2 (.inl ⟨N,f⟩)));refine .inr (.inl ?_);obtain⟨k,O⟩:=hw i2 u;exact(iy.done _).2 (.inr ⟨k,1,O,by omega⟩);exact .inr (.inr f)
  have ax:∀j x,0<j->gs[j]? =some x->∃q,QuitsD P q (dd j) x:=λj x V m=>by
   have F:=fo.sit j x m;obtain k0|⟨N,f⟩|⟨i2,_,u,rfl,_⟩|⟨rfl,_⟩:=iy.lt_size (ik.1 m).1;omega;rw[iy.old j N f]at F;generalize rk j=τ at F;generalize dd j=d at F⊢;cases F with
   |old h=>exact⟨_,h⟩
   obtain⟨k,O⟩:=hw i2 u;rw[O]at F;generalize rk (m0+i2)=τ at F;generalize dd (m0+i2)=d at F⊢;cases F with
   |quit h=>exact⟨_,h⟩
   rw[hq]at F;generalize rk (m0+n)=τ at F;generalize dd (m0+n)=d at F⊢;cases F with
   |Qt h=>exact⟨_,h⟩
  have K:∀j,Deaf (t++#[({g:=0,fn:=a.frame.fn,pos:=a.frame.place,act:=.recvClosed Ch}:MemOp)]) j=dd j:=λj=>by have:=rq (t:=t) j [({g:=0,fn:=a.frame.fn,pos:=a.frame.place,act:=.recvClosed Ch}:MemOp)] (by simp);exact this.trans (fo.deaf j)
  refine⟨_,_,l,gs.setIfInBounds 0 (a.finishComm P #[rcase Ch z] (.recv true) 0 z false),w,sl,_,(λj=>open Classical in if h:∃q,∀x,gs[j]? =some x->QuitsD P q (dd j) x then Classical.choose h else 0),G.own 0,rfl,mG A,?_,⟨λj x V m=>?_,λj V=>?_⟩,?_,λb hb=>?_,fo.base,fo.grown,fo.world,fo.wglow⟩;rw[finishComm_recv];exact ag.2.2;rw[gm (by omega)]at m;obtain⟨q,ay⟩:=ax j x V m;have an:∃q,∀x,gs[j]? =some x->QuitsD P q (dd j) x:=⟨q,λy hy=>by rw[m]at hy;cases hy;exact ay⟩;simp only[dif_pos an];have:=kQ an x m;show QuitsD P _ (Deaf (t++(#[]++#[_])) j) x;rw[Array.empty_append,K j];exact this;have az:gs.size<=j:=by simpa using V
  have:=fo.above j az;show Deaf (t++(#[]++#[_])) j=0;rw[Array.empty_append,K j];exact this;have e:(λb=>b=Wg\/b=Ch\/X b)=λb=>G.wg b\/G.x b:=by funext b;rw[hX];exact propext (or_assoc.symm.trans (or_congr (fo.wg b).symm nR))
  rw[e];simpa[MemOp.ofEvents]using ad;exact⟨fo.new 0 b hb,fo.fits.own 0 b hb,λe=>fo.fits.ownwg 0 b hb ((fo.wg b).2 (.inl e)),fo.off 0 b (.inl hb)⟩
theorem gB.N0(hn:n<2147483647){g:eA}(q:gs[0]? =some g)(A:g.status=.running):(∃W af,runT P (crowd gs w sl) 0=(.next W,af)/\NY P Wg Ch End w0 B0 X W (t++af))\/Goal P ty Wg Ch n rd0 val End w0 B0 m0 X T0 ro rk gs w sl t 0:=by
 have hp:=iy.pos;have ak:0<gs.size:=(ik.1 q).1;have hS:=fo.sit 0 g q;have B:G.user 0:=(iy.usr _).2 (.inl rfl);have hw:=(fo.wg Wg).2 (.inl rfl);have ab:=fo.wglow;have E:¬G.done 0:=λh=>(fo.fits.done 0 h).1 rfl;generalize F:rk 0=C at hS;generalize D:dd 0=d at hS;generalize y:G.own 0=l at hS;generalize c:G.rd 0=rc at hS;generalize f:ro 0=r at hS;cases hS with
 | @skd r C l g w m h=>
  right;obtain⟨_,g',o,τ',j⟩|h:=gB.idle (sl:=sl) fo iy mg hX hT jC (k:=0) q (by rw[y,c];exact h) F f (by simp) (by simp) E (λC l g w h=>by rw[D,c];rw[c]at h;exact .skd m h);refine gB.book (r':=.st r 5) (τ':=τ') fo iy mg hX hT jC q o (.refl Wg w) jC (rS (e:=mk .disable) rfl trivial) (by rw[D,c];exact .sa1 m j) (by rw[f];simp) λu O Q h3 _=>?_;have H:u 0=.st r 6:=by rw[Q _ (by rw[f];simp)];exact f
  exact⟨O.DR H (by omega) (by omega),pJ hp (by rw[H];simp[vL])⟩;exact h
 | @sa1 r C l g w m h=>
  right;obtain⟨_,Y⟩|h:=gB.idle (sl:=sl) fo iy mg hX hT jC (k:=0) q (by rw[y,c];exact h) F f (by simp) (by simp) E (λC l g w h=>by rw[D,c];rw[c]at h;exact .sa1 m h);obtain⟨k1,k2,_⟩:=iy.Is (s':=4) f (.inl rfl);subst k1 k2;have am:=NS n m0 ro;obtain⟨g',o,ha,hb⟩:=Y (V n m0 ro) (by omega) jC;by_cases hV:V n m0 ro=0;obtain⟨τ',j⟩:=ha hV;refine gB.book (r':=.st r 4) (τ':=τ') fo iy mg hX hT jC q o (aside_setCell w (stA Wg) _) (jC.setSt _) (tG hw B ab (by omega)) (by rw[D,c,y];exact .SH m (by rw[y]at j;exact j)) (by rw[f];simp) λu O Q h3 _=>?_;have H:u 0=.st r 5:=by rw[Q _ (by rw[f];simp)];exact f
  have:=(O.Is (s':=4) H (.inl rfl)).2.2;rw[h3]at this;exact⟨this,pJ hp (by rw[H];simp[vL])⟩;obtain⟨τ',j⟩:=hb hV;refine gB.book (r':=.st r 3) (τ':=τ') fo iy mg hX hT jC q o (aside_setCell w (stA Wg) _) (jC.setSt _) (tG hw B ab (by omega)) (by rw[D,c,y];exact .ske m (by rw[y]at j;exact j)) (by rw[f];simp) λu O Q h3 _=>?_;have H:u 0=.st r 5:=by rw[Q _ (by rw[f];simp)];exact f
  have:=(O.Is (s':=3) H (.inr rfl)).2.2;rw[h3]at this;exact⟨this,pJ hp (by rw[H];simp[vL])⟩;exact h
 | @SH r C l g w m h=>
  right;obtain⟨_,g',o,τ',j⟩|h:=gB.idle (sl:=sl) fo iy mg hX hT jC (k:=0) q (by rw[y,c];exact h) F f (by simp) (by simp) E (λC l g w h=>by rw[D,c];rw[c]at h;exact .SH m h);refine gB.book (r':=.st r 3) (τ':=τ') fo iy mg hX hT jC q o (.refl Wg w) jC (FE (w:=false) hw B (by rw[iy.say,(iy.DT f).1];rfl) ab) (by rw[D,c];exact .ske m j) (by rw[f];simp) λu O Q h3 _=>?_;have H:u 0=.st r 4:=by rw[Q _ (by rw[f];simp)];exact f
  exact⟨O.DR H (by omega) (by omega),pJ hp (by rw[H];simp[vL])⟩;exact h
 | @ske r C l g w m h=>
  right;obtain⟨_,g',o,τ',j⟩|h:=gB.idle (sl:=sl) fo iy mg hX hT jC (k:=0) q (by rw[y,c];exact h) F f (by simp) (by simp) E (λC l g w h=>by rw[D,c];rw[c]at h;exact .ske m h);refine gB.book (r':=.st r 2) (τ':=τ') fo iy mg hX hT jC q o (.refl Wg w) jC (rS (e:=mk .enable) rfl trivial) (by rw[D,c];exact .sgo m j) (by rw[f];simp) λu O Q h3 _=>?_;have H:u 0=.st r 3:=by rw[Q _ (by rw[f];simp)];exact f
  exact⟨O.DR H (by omega) (by omega),pJ hp (by rw[H];simp[vL])⟩;exact h
 | @sgo r C l g w m h=>
  right;obtain⟨_,g',child,give,o,ai,J,⟨τc,ac⟩,j⟩|h:=gB.idle (sl:=sl) fo iy mg hX hT jC (k:=0) q (by rw[y,c];exact h) F f (by simp) (by simp) E (λC l g w h=>by rw[D,c];rw[c]at h;exact .sgo m h);rw[y]at J j;have A:=runT_crowd_spawn (P:=P) (sl:=sl) (i:=0) q o;have I:=(iy.DT f).2.2;obtain⟨K,ad⟩:=iy.spawn (G':=G.child gs.size G.sayer give) f (λk=>nR) rfl rfl
  have L:¬G.done gs.size:=λh=>by
   obtain x|⟨i,s,x,_⟩:=(iy.done _).1 h;omega;cases iy.lay with
   |st r2 s2 p M gr R T Z gn=>
    rw[f]at p;cases p;have:=gn (n-(r+1)) (eF _) (by omega);rw[T,this]at x;cases x
   |vi p R T Z=>rw[f]at p;cases p
   |rc r2 S2 s2 p R T Z gS M=>rw[f]at p;cases p
  obtain⟨τ0,aj⟩:∃τ0,nO P ty Wg Ch n rd0 val End (qN r) τ0 0 (λb=>G.own 0 b/\¬give b) (G.rd 0) g' w:=by
   rw[y,c];cases r with
   |zero=>
    obtain⟨τ0,Y⟩:=j;exact⟨τ0,.QL Y⟩
   |succ r=>
    obtain⟨τ0,Y⟩:=j;exact⟨τ0,.skd (by omega) Y⟩
  have v:=fo.spawn (r0':=qN r) (rc':=.wk (n-(r+1)) 9) (τ0:=τ0) (τc:=τc) (sy:=G.sayer) (give:=give) (fn:=g.frame.fn) (fn':=child.frame.fn) (pos:=g.frame.place) (pos':=g.frame.place) q D (by rw[y];exact J) (.inl rfl) B L aj (by rw[c];exact .QM ac);refine Goal.mk (G':=G.child gs.size G.sayer give) (rk':=upd (upd rk gs.size τc) 0 τ0) (dd':=dd) (cl':=cl) A (by simpa[MemOp.ofEvents]using v) jC (by simpa using K) ?_ hX hT (.a ad);refine mg.app rfl λ_ op ae _=>?_;have N:op={g:=0,fn:=g.frame.fn,pos:=g.frame.place,act:=.go gs.size}\/op={g:=gs.size,fn:=child.frame.fn,pos:=g.frame.place,act:=.start}:=by simpa[MemOp.ofEvents]using ae
  obtain rfl|rfl:=N<;>rfl;exact h
 | @QL C l g w h=>
  right;obtain⟨_,g',child,give,z,o,ai,J,⟨al,hA,τc,ac⟩,⟨τ0,j⟩⟩|h:=gB.idle (sl:=sl) fo iy mg hX hT jC (k:=0) q (by rw[y,c];exact h) F f (by simp) (by simp) E (λC l g w h=>by rw[D,c];rw[c]at h;exact .QL h);rw[y]at J j;have A:=runT_crowd_spawn (P:=P) (sl:=sl) (i:=0) q o;obtain⟨I,K,ad⟩:=iy.TP (G':=G.child gs.size (m0+n) give) f (λk=>nR) rfl rfl;have ag:ro (m0+n)=.none:=by
   cases iy.lay with
   |st r2 s2 p M gr R T Z gn=>rw[f]at p;cases p
   |vi p R T Z=>exact R
   |rc r2 S2 s2 p R T Z gS M=>rw[f]at p;cases p
  have L:¬G.done gs.size:=λh=>by obtain x|⟨i,s,x,_⟩:=(iy.done _).1 h;omega;rw[I,ag]at x;cases x
  have ah:G.sayer=0:=by rw[iy.say,ag];rfl
  have v:=fo.spawn (r0':=.rc n (λ_=>false) 2) (rc':=.cl .kd) (τ0:=τ0) (τc:=τc) (sy:=m0+n) (give:=give) (fn:=g.frame.fn) (fn':=child.frame.fn) (pos:=g.frame.place) (pos':=g.frame.place) q D (by rw[y];exact J) (.inr ⟨I.symm,ah⟩) B L (by rw[y,c];exact .src j) (by rw[c];exact .SI hA ac);rw[I]at v;refine Goal.mk (G':=G.child gs.size (m0+n) give) (rk':=upd (upd rk (m0+n) τc) 0 τ0) (dd':=dd) (cl':=cl) A (by simpa[MemOp.ofEvents,I]using v) jC (by simpa[I]using K) ?_ hX hT (.a ad);refine mg.app rfl λ_ op ae _=>?_;have N:op={g:=0,fn:=g.frame.fn,pos:=g.frame.place,act:=.go gs.size}\/op={g:=gs.size,fn:=child.frame.fn,pos:=g.frame.place,act:=.start}:=by simpa[MemOp.ofEvents]using ae
  obtain rfl|rfl:=N<;>rfl;exact h
 | @src r S z C l g w h=>
  obtain aa|h:=gB.J3 (sl:=sl) fo iy mg hX hT jC (k:=0) q (by rw[y,c];exact h) F f (by simp) (by simp) E (λC l g w h=>by rw[D,c];rw[c]at h;exact .src h);refine gB.FG fo iy mg hX hT jC q f (λw1 U=>aa w1 (by rw[c];exact U)) c D (lR (aa w (.refl _ _ _ _))).2;exact .inr h
 | @Nq r S z C l g w h=>cases A
 | @sup S z C l g w h=>
  have Y:=lR (h w (.refl _ _ _ _));refine gB.FG (a:=g) fo iy mg hX hT jC q f (λw1 U=>by rw[y]at U⊢;exact h w1 U) c D λw1=>?_;rw[stepG_tries];have e:({g with status:=.running}:eA)=g:=by obtain⟨fr,cl,s,dy,of⟩:=g;have:=Y.1;simp only at this;subst this;rfl
  rw[e];exact Y.2 w1
 |_=>
  exfalso;cases iy.lay with
  |st r2 s2 p M gr R T Z gn=>rw[f]at p;cases p
  |vi p R T Z=>rw[f]at p;cases p
  |rc r2 S2 s2 p R T Z gS M=>rw[f]at p;cases p
end
section
variable{P:eE}{ty:eD}{Wg Ch n:Nat}{rd0:Nat->Prop}{val:Nat->eu->(Nat->Prop)->er->Prop}{End:jV}{w0:er}{B0 m0:Nat}{X:Nat->Prop}{T0:Nat} {ro:Nat->fY}{rk:Nat->WT}{dd:Nat->Nat}{G:Gh}{cl:Bool}{gs:Array eA}{w w':er}{sl:Option (Nat×Nat)}{t:Trace}{st sm:Int}
theorem UY:∀{n:Nat},1<=V n m0 ro->∃i,i<n/\5<=l8 (ro (m0+i))
 |0,h=>by simp[V,sumTo]at h
 |n+1,h=>by
  by_cases a:5<=l8 (ro (m0+n));exact⟨n,by omega,a⟩;have:1<=V n m0 ro:=by simp only[V,sumTo]at h⊢;rw[DU a]at h;simpa using h
  obtain⟨i,c,b⟩:=UY this;exact⟨i,by omega,b⟩
theorem QY(o:Com P ty Wg Ch n rd0 val End w0 B0 ro rk dd G cl gs w t)(l:Pl n m0 ro cl G gs.size st sm)(b:0<gs.size):∃(i:Nat) (g:eA),gs[i]? =some g/\g.status=.running:=by
 have y:∀i,i<gs.size->∃g,gs[i]? =some g:=λi j=>⟨gs[i],lA j⟩;have a:∀i,i<gs.size->¬(ro i).idle->∃(i:Nat) (g:eA),gs[i]? =some g/\g.status=.running:=λi j d=>by obtain⟨g,A⟩:=y i j;obtain h|⟨h,_⟩:=(o.sit i g A).running;exact⟨i,g,A,h⟩;exact absurd h d
 cases l.lay with
 |st r s p _ _ _ _ _ _=>exact a 0 b (by rw[p];exactλh=>h)
 |vi p _ _ _=>exact a 0 b (by rw[p];exactλh=>h)
 |rc r S s p m I z J D=>
  obtain rfl|⟨rfl,q,E⟩:=D;exact a 0 b (by rw[p];exactλh=>h)
  ·by_cases B:∃i,i<n/\l8 (ro (m0+i))=9;obtain⟨i,j,e⟩:=B;obtain⟨s,k,_⟩:=z i j;rw[k]at e;simp only[l8]at e;subst e;exact a (m0+i) (by omega) (by rw[k];exactλh=>h);obtain⟨c,m⟩:=m;by_cases d:(ro (m0+n)).idle;have F:c=.blk:=by
    rw[m]at d;cases c<;>first|rfl|exact d.elim|skip
    exfalso;have:=l.clq.2 m;rw[q]at this;cases this
   subst F;cases K:l.mode with
   |opn f _ _=>rw[m]at f;exact f.elim
   |reg _ _ u=>
    obtain⟨i,j,C⟩:=UY u;obtain⟨s,k,M,N,_⟩:=z i j;have v:=E i j;have x:l8 (ro (m0+i))≠9:=λh=>B ⟨i,j,h⟩;rw[k]at C v x;simp only[l8]at C v x;refine a (m0+i) (by omega) ?_;rw[k];obtain rfl|rfl|rfl:s=5\/s=6\/s=7:=by omega
    all_goals exactλh=>h
   |last L _ H u _=>
    obtain⟨s,k,_⟩:=z L H;rw[k]at u;simp only[l8]at u;refine a (m0+L) (by omega) ?_;rw[k];obtain rfl|rfl|rfl:=u;all_goals exactλh=>h
   |sema f _=>rw[m]at f;obtain f|f:=f<;>cases f
   |fin f _=>rw[m]at f;exact f.elim
   exact a (m0+n) (by omega) d
theorem N4(a:Com P ty Wg Ch n rd0 val End w0 B0 ro rk dd G cl gs w t):∀g∈gs,awake g:=by intro g b d;obtain⟨i,c⟩:=Array.mem_iff_getElem?.1 b;obtain h|⟨_,h|h⟩:=(a.sit i g c).running<;>rw[h]<;>simp
theorem gB.step(C:n<2147483647){J:Mu}{m:Machine}(h:gB P ty Wg Ch n rd0 val End w0 B0 m0 X T0 J m t):(∃j q,stepT P m=(.next j,q)/\NY P Wg Ch End w0 B0 X j (t++q))\/∃j q B,stepT P m=(.next j,q)/\Mu.Lt B J/\gB P ty Wg Ch n rd0 val End w0 B0 m0 X T0 B j (t++q):=by
 obtain⟨gs,w,sl,ro,rk,dd,G,cl,st,sm,rfl,u,D,b,o,z,A,rfl⟩:=h;have v:0<gs.size:=by
  cases b.lay with
  |st r s K E hr L M N C=>have:=b.pos;omega
  |vi K L M N=>have:=b.pos;omega
  |rc r S s K L M N x E=>omega
 obtain⟨k,g,d,p,y,l,F⟩:=crowd_pick (P:=P) (w:=w) (sl:=sl) (N4 u) (QY u b v);rw[F];have a:=u.at d;have f:WgAt ty Wg (w.at d) st sm:=D;obtain rfl|⟨O,Q⟩|⟨i,s,R,rfl,e,_,_⟩|⟨rfl,c,e⟩:=b.lt_size (ik.1 y).1;exact gB.N0 (sl:=p) a b o z A f C y l;right;have x:=a.sit k g y;rw[b.old k O Q]at x;generalize H:rk k=τ at x;generalize I:dd k=T at x;generalize ho:G.own k=U at x;generalize V:G.rd k=rc at x;cases x with
 |old h=>exact gB.slip (sl:=p) a b o z A f y (by omega) (by simp) h l H I (b.old k O Q) λ_ _ _ _ h=>.old h
 right;by_cases E:s<=7;exact gB.QV (sl:=p) a b o z A f C R y e E l;obtain rfl|rfl:=(show s=9\/s=8 by omega);exact gB.NZ (sl:=p) a b o z A f R y e v;have x:=a.sit _ g y;rw[e]at x;generalize dd (m0+i)=T at x;cases x with
 |vK h=>cases l
 right;obtain h|⟨rfl,h,I⟩|⟨rfl,W,Y,Z,h4⟩:=gB.Iu (sl:=p) a b o z A f C y e l;exact h;exact gB.LD (sl:=p) a b o z A f y e v h I;exact gB.LA (sl:=p) a b o z A f y e W Y Z h4
theorem gB.runs(k:n<2147483647):∀(d:Mu) (m:Machine) (t:Trace),gB P ty Wg Ch n rd0 val End w0 B0 m0 X T0 d m t->∃N e f,runNT P N m t=(.next e,f)/\NY P Wg Ch End w0 B0 X e f:=by
 intro d;induction d using Mu.wf.induction with
 |_ d l=>
  intro m t h;obtain⟨a,b,c,g⟩|⟨a,b,i,c,j,o⟩:=h.step k;exact⟨1,a,t++b,nj c,g⟩;obtain⟨N,e,f,p,g⟩:=l i j a (t++b) o;exact⟨1+N,e,f,Go.eV.runNT_add (nj c) p,g⟩
theorem phase(hn:n<2147483647){q:Nat->Nat}{a:eA}(Z:gs[0]? =some a)(hL:Leavers P t gs q)(E:Past (qu X) w.heap.size t)(j:∀b,rd0 b->b<w.heap.size/\¬X b/\b≠Wg/\b≠Ch) (F:Wg≠Ch)(H:¬X Wg)(I:¬X Ch)(l:WgAt ty Wg w 0 0){c:Nat}(z:w.heap[Ch]? =some (.chan 0 #[] false c c false))(hS:qL P ty Wg Ch n rd0 val End n eS a w):∃N m' t',runNT P N (crowd gs w sl) t=(.next m',t')/\NY P Wg Ch End w w.heap.size X m' t':=by
 have A:0<gs.size:=(ik.1 Z).1;let G:Gh:={own:=λ_ _=>False,rd:=λg b=>g=0/\rd0 b,wg:=λb=>b=Wg\/b=Ch,user:=λg=>g=0,sayer:=0,x:=X,done:=λg=>g≠0/\g<gs.size,t0:=t.size};have J:Kn.iT G w.mN t:=by
  have f:=iT.begin (m0:=gs.size) E (rd0:=rd0) λb f=>(j b f).2.1;refine f.Fz (λ_ _ h=>h.elim) (λg b h i a B m hw=>f.rd i a g b B m h hw) (λb h i a B m=>?_) rfl λg i hz a B hm K=>?_;refine .inr (.inr λg K=>?_);have L:g=0:=K;subst L;obtain x|⟨x,_⟩:=E.known i a B (pI m);exact x;exfalso;have o:b=Wg\/b=Ch:=h;have M:¬X b:=by obtain rfl|rfl:=o;exact H;exact I
  clear h o;apply M;revert m x;cases a.loc<;>simp_all[blk,qu]<;>(intro x e;subst e;exact x);obtain x|⟨x,⟨b,O,Q⟩,y⟩:=f.told i a g B hm K hz;exact .inl x;exact .inr ⟨x,⟨b,O,Q.imp (λh=>h.elim) id⟩,y⟩
 have p:G.Fits w.mN:=by refine⟨λ_ _ h=>h.elim,λg b h=>(j b h.2).1,λb h=>?_,λ_ _ _ h=>h.elim,λ_ _ _ h=>h.elim,λ_ _ h=>h.elim,λg b h h2=>h2.elim (j b h.2).2.2.1 (j b h.2).2.2.2,λg h=>⟨h.1,jb h.1,λb h=>h.elim,λb f=>h.1 f.1⟩⟩;have o:b=Wg\/b=Ch:=h;obtain rfl|rfl:=o;exact lt_of_heap l;exact lt_of_heap z
 let ro:Nat->fY:=λk=>if k=0 then qN n else if k<gs.size then .old else .none
 obtain⟨u,R⟩:∃u,nO P ty Wg Ch n rd0 val End (qN n) u 0 eS rd0 a w:=by
  cases n with
  |zero=>
   obtain⟨u,S⟩:=hS;exact⟨u,.QL S⟩
  |succ r=>
   obtain⟨u,S⟩:=hS;exact⟨u,.skd (by omega) S⟩
 let rk:Nat->WT:=λk=>if k=0 then u else .num (q k)
 have C:Com P ty Wg Ch n rd0 val End w w.mN ro rk (Deaf t) G false gs w t:=by
  refine⟨λk g v=>?_,J,p,λ_=>rfl,hL.above,λb=>nR,λk b f=>?_,F,lt_of_heap l,λi k D v=>?_,λ_ _ h=>h.elim,λ_ _ _ _=>rfl,eF _,⟨rfl,rfl,rfl⟩,⟨_,_,l⟩,⟨c,z⟩⟩;by_cases e:k=0;subst e;rw[Z]at v;obtain rfl:=eP v;have e1:G.own 0=eS:=rfl;have e2:G.rd 0=rd0:=by funext b;simp[G]
  simp only[ro,rk,fF];rw[E.hears,e1,e2];exact R;have T:=(ik.1 v).1;simp only[ro,rk,ez e,eC T];exact .old (hL.old k g (by omega) v);obtain f|f:=f;exact f.elim;exact(j b f.2).2.2.2;exfalso;have:t.size<=i:=D;obtain⟨op,U,_⟩:=jo.1 v;have:=lt_size_of_getElem? U;omega
 have hV:V n gs.size ro=0:=by
  have:V n gs.size ro=sumTo n λ_=>0:=sumTo_congr λi D=>by simp only[ro];rw[ez (by omega),ez (by omega)];rfl
  rw[this,vM]
 have d:∀i,ro (gs.size+i)=.none:=λi=>by simp only[ro];rw[ez (by omega),ez (by omega)]
 have W:Pl n gs.size ro false G gs.size 0 0:=by
  refine⟨A,?_,λk k1 k2=>?_,?_,?_,λk=>?_,?_,λk=>?_⟩;cases n with
  |zero=>exact .vi rfl (d 0) (by omega) λi D=>by omega
  |succ r=>exact .st r 6 rfl (by omega) (by omega) (d _) (by omega) (λi D=>by omega) λi _ _=>d i
  simp only[ro];rw[ez (by omega),eC k2];rw[d];simp;have:=Mode.opn (n:=n) (m0:=gs.size) (ro:=ro) (by rw[d];trivial) (λi D=>.inl (by rw[d];rfl)) (λvs hv=>by rw[d]at hv;cases hv);have Y:pend (ro 0)=0:=by simp only[ro,fF];cases n<;>rfl
  rw[hV,Y]at this;simpa using this;show k=0↔_;omega;rw[d];rfl;show(k≠0/\k<gs.size)↔_;constructor;exactλh=>.inl ⟨by omega,h.2⟩;rintro(h|⟨i,s,e,_⟩);exact⟨by omega,h.2⟩;simp only[ro]at e;split at e;revert e;cases n<;>simp[qN];split at e<;>cases e
 exact gB.runs hn _ _ _ ⟨gs,w,sl,ro,rk,Deaf t,G,false,0,0,rfl,C,l,W,(λh=>(nomatch h)),rfl,rfl,rfl⟩
end
end Go.eV.Cr
namespace Go.eV.Wg
open Go.Conc Go.ConcN Go.RowKit Go.Conc.Lib Go.ConcR.Gen Go.ConcN.Gen
open Go.ConcR (KK wgBlock WgAt stA smA mk Payload DC0)
variable{L:WgLink}
section
variable(P:eE)(main:Bool)(R:er->er->Prop)(Wg:Nat)
def Ak(m:Mark)(a:eA->fa)(g:eA)(w:er):Prop:=g.status=.running/\∃b,stepG P main g w=.go b w #[mk m]/\∃k,Goes P main R DC0 a k b w
def WJ(b:eD)(Fin:eA->fa)(g:eA)(w:er):Prop:=g.status=.running/\∀v:Nat,v<2147483647->WgAt b Wg w (v*KK) 0->∃a,stepG P main g w=.go a (w.setCell (stA Wg) (.int .u64 ((v+1)*KK))) #[ConcR.rd (stA Wg),ConcR.wr (stA Wg)]/\(v=0->∃k,Goes P main R DC0 (Ak P main R (.read (smA Wg)) (Ak P main R .enable Fin)) k a (w.setCell (stA Wg) (.int .u64 ((v+1)*KK))))/\(v≠0->∃k,Goes P main R DC0 (Ak P main R .enable Fin) k a (w.setCell (stA Wg) (.int .u64 ((v+1)*KK))))
end
section
variable{R:er->er->Prop}{Wg:Nat}{F:er->Prop}{main:Bool}{Fin:eA->er->Prop} {b₀:Frame}{a₀:Act}{ops₀:Array Oper}{i₀:Nat}{rest₀:List Nat}{k₀:List Item}{cs:List Frame}
def V0{P:eE}(H:WgLib P L)(b:∀{w e},F w/\WgLive L.tWg Wg w->R w e->F e/\WgLive L.tWg Wg e)(q:∀w x,F w->F (w.setCell (stA Wg) x))
 (r:Fin=λg w=>g=G (b₀.at (a₀.put ((ops₀[i₀]?).bind (·.dst)) (.tuple #[])) (.inRegion ops₀ rest₀::k₀)) cs/\F w/\WgLive L.tWg Wg w)
 (w:er)(a:F w/\WgLive L.tWg Wg w):∃k,Goes P main R DC0 (Ak P main R .disable (WJ P main R Wg L.tWg Fin)) k (G ((base L.add).at ⟨#[.pointer (some ⟨Wg,0,none⟩),.int .i64 1]++Array.replicate ((addFn L).ntmps-2) undef,[]⟩ [.code (body_add L)]) (b₀.at a₀ (.inRegion ops₀ (i₀::rest₀)::k₀)::cs)) w:=by
 lib_facts;refine⟨60,?_⟩;simp only[body_add,addFn,lT,Nat.reduceSub,Array.replicate,List.replicate];u_c eM b a;u_cond true b a;iterate 2 u_c eM b a
 u_reg b a;iterate 2 u_op b a
 u_c eI b a;u_cond false b a;u_c gX b a;u_c eM b a;u_reg b a;refine kR (λe l=>?_);replace a:=b a l;clear l;refine⟨rfl,_,stepG_mark0 .disable (by simp) rfl rfl (by k_ne) rfl H.f_disable (x_disable_n L) (x_disable_b L) (x_disable_x L) (x_disable_f L),100,?_⟩;walk_nrm;u_c eI b a;u_reg b a;u_defer b a;u_c eI b a;u_c eM b a;u_reg b a;u_op b a;u_c eI b a;iterate 2 u_c eM b a
 u_reg b a;u_bub b a;u_c eI b a;u_cond false b a;u_c gX b a;u_c eM b a;u_reg b a;iterate 6 u_op b a
 u_call H.f_uAdd (nm_uAdd L) uAddFn b a;u_c eM b a;u_reg b a;u_op b a;u_c eI b a;u_c eM b a;u_reg b a;iterate 4 u_op b a
 refine kR (λc m=>?_);replace a:=b a m;clear m;refine⟨rfl,λv D j=>?_⟩;obtain rfl|y:=ri v
 ·
  replace j:WgAt L.tWg Wg c 0 0:=by simpa using j
  have z:(((0:Nat):Int)+1)*KK=KK:=by simp
  rw[z];have A:IntKind.u64.wrap (0+4294967296)=KK:=by decide
  refine⟨_,(stepG_add_atomic rfl rfl (by k_ne) rfl H.f_addU64 (x_addU64_n L) (x_addU64_b L) (x_addU64_x L) .u64 (x_addU64_f L) rfl rfl j.cellSt (j.thaw 0)).trans (by rw[A];rfl),λ_=>⟨100,?_⟩,λh=>absurd rfl h⟩;replace a:F (c.setCell (stA Wg) (.int .u64 KK))/\WgLive L.tWg Wg (c.setCell (stA Wg) (.int .u64 KK)):=⟨q _ _ a.1,⟨_,_,j.setSt _⟩⟩;clear j;simp only[KK]at a⊢;walk_nrm;u_op b a;u_c eI b a;u_c stepG_ret' b a;u_leave1 H.f_uAdd b a;u_op b a;u_c eI b a;iterate 2 u_c eM b a
  u_reg b a;iterate 4 u_op b a
  iterate 2 u_skip b a
  u_op b a;u_c eI b a;u_cond false b a;u_c gX b a;u_c eM b a;u_reg b a;iterate 4 u_op b a
  u_c eI b a;u_c eM b a;u_reg b a;iterate 4 u_op b a
  u_c eI b a;iterate 2 u_c eM b a
  u_reg b a;iterate 10 u_op b a
  u_c eI b a;u_cond true b a;u_reg b a;iterate 3 u_op b a
  u_conv H.underlying_tPU32 H.room_tU32 (WgLive.cell1 a.2).choose_spec b a;refine kR (λs n=>?_);replace a:=b a n;clear n;refine⟨rfl,_,stepG_markAt .read (by simp) rfl rfl (by k_ne) rfl H.f_raceRead (x_raceRead_n L) (x_raceRead_b L) (x_raceRead_x L) (x_raceRead_f L) (ad:=(eQ Wg 1)) (by simp[Act.eval]),100,?_⟩;walk_nrm;u_c eI b a;iterate 2 u_c eM b a
  u_reg b a;iterate 2 u_op b a
  u_c eI b a;u_cond false b a;u_c gX b a;iterate 2 u_c eM b a
  u_reg b a;iterate 3 u_op b a
  iterate 2 u_skip b a
  iterate 2 u_op b a
  iterate 4 u_skip b a
  u_op b a;u_c eI b a;u_cond false b a;u_c gX b a;iterate 2 u_c eM b a
  u_reg b a;iterate 3 u_op b a
  iterate 2 u_skip b a
  u_op b a;u_c eI b a;u_cond true b a;u_c stepG_ret' b a;refine kR (λo d=>?_);replace a:=b a d;clear d;refine⟨rfl,_,stepG_unwind_entry (v:=.tuple #[]) (evs:=#[mk .enable]) rfl H.f_enable (x_enable_n L) (x_enable_b L) (x_enable_x L) (x_enable_f L) (by simp[Extern.Race.none_]) (by simp[mk]) (by simp[mk]),10,?_⟩;u_leave0 H.f_add b a;subst r;exact kR λp i=>⟨rfl,b a i⟩
 ·obtain⟨S,f⟩:∃S:Int,S=((v:Int)+1)*KK:=⟨_,rfl⟩;obtain⟨V,t⟩:∃V:Int,V=(v:Int)+1:=⟨_,rfl⟩;have u:IntKind.u64.wrap ((v:Int)*KK+4294967296)=S:=by rw[IntKind.wrap_u64,f];simp only[KK];omega
  rw[<-f];have E:S/4294967296=V:=by rw[f,t];simp only[KK];omega
  have I:bits .and .u64 S 2147483648=0:=by rw[f];have:=st_flag (v+1) 0 (by omega) (by omega);simpa[KK]using this
  have J:bits .and .u64 S 2147483647=0:=by rw[f];have:=st_waiters (v+1) 0 (by omega) (by omega);simpa[KK]using this
  have K:IntKind.i32.wrap V=V:=by rw[IntKind.wrap_i32];omega
  have B:1<V:=by omega
  have C:V<2147483648:=by omega
  have M:(V==1)=false:=by simp;omega
  have N:decide (V=1)=false:=jj (by omega);have O:decide (V<0)=false:=jj (by omega);have Q:decide (0<V)=true:=decide_eq_true (by omega);have T:(V==0)=false:=by simp;omega
  have U:decide (V=0)=false:=jj (by omega);refine⟨_,(stepG_add_atomic rfl rfl (by k_ne) rfl H.f_addU64 (x_addU64_n L) (x_addU64_b L) (x_addU64_x L) .u64 (x_addU64_f L) rfl rfl j.cellSt (j.thaw 0)).trans (by rw[u];rfl),λh=>absurd h (by omega),λ_=>⟨110,?_⟩⟩;replace a:F (c.setCell (stA Wg) (.int .u64 S))/\WgLive L.tWg Wg (c.setCell (stA Wg) (.int .u64 S)):=⟨q _ _ a.1,⟨_,_,j.setSt _⟩⟩;clear j f t u;walk_nrm;u_op b a;u_c eI b a;u_c stepG_ret' b a;u_leave1 H.f_uAdd b a;u_op b a;u_c eI b a;iterate 2 u_c eM b a
  u_reg b a;iterate 4 u_op b a
  iterate 2 u_skip b a
  u_op b a;u_c eI b a;u_cond false b a;u_c gX b a;u_c eM b a;u_reg b a;iterate 4 u_op b a
  u_c eI b a;u_c eM b a;u_reg b a;iterate 4 u_op b a
  u_c eI b a;iterate 2 u_c eM b a
  u_reg b a;iterate 10 u_op b a
  u_c eI b a;u_cond false b a;u_c gX b a;iterate 2 u_c eM b a
  u_reg b a;iterate 2 u_op b a
  u_c eI b a;u_cond false b a;u_c gX b a;iterate 2 u_c eM b a
  u_reg b a;iterate 3 u_op b a
  iterate 2 u_skip b a
  iterate 2 u_op b a
  iterate 4 u_skip b a
  u_op b a;u_c eI b a;u_cond false b a;u_c gX b a;iterate 2 u_c eM b a
  u_reg b a;iterate 3 u_op b a
  iterate 2 u_skip b a
  u_op b a;u_c eI b a;u_cond true b a;u_c stepG_ret' b a;refine kR (λo d=>?_);replace a:=b a d;clear d;refine⟨rfl,_,stepG_unwind_entry (v:=.tuple #[]) (evs:=#[mk .enable]) rfl H.f_enable (x_enable_n L) (x_enable_b L) (x_enable_x L) (x_enable_f L) (by simp[Extern.Race.none_]) (by simp[mk]) (by simp[mk]),10,?_⟩;u_leave0 H.f_add b a;subst r;exact kR λp i=>⟨rfl,b a i⟩
end
variable{L:WgLink}
section
variable(P:eE)(main:Bool)(R:er->er->Prop)(Wg:Nat)
def CB(m:Mark)(a:eA->fa)(g:eA)(w:er):Prop:=g.status=.running/\∃b,stepG P main g w=.go b w #[mk m]/\∃k,Goes P main R DC0 a k b w
def V1(Fin:eA->fa):eA->fa:=CB P main R .enable (CB P main R (.acquire (stA Wg)) Fin)
def Xg(b:eD)(Fin:eA->fa)(g:eA)(w:er):Prop:=g.status=.running/\(WgAt b Wg w 0 0->∃a,stepG P main g w=.go a w #[ConcR.rd (stA Wg)]/\∃k,Goes P main R DC0 (V1 P main R Wg Fin) k a w)
def Xh(a:eD)(Fin:eA->fa)(g:eA)(w:er):Prop:=g.status=.running/\g.offers=none/\((∃c,WgAt a Wg w c 0)->stepG P main g w=.go {g with status:=.blocked} w #[])/\
 (WgAt a Wg w 0 1->∃b,stepG P main g w=.go b (w.setCell (smA Wg) (.int .u32 0)) (semEvents (smA Wg))/\∃k,Goes P main R DC0 (Xg P main R Wg a Fin) k b (w.setCell (smA Wg) (.int .u32 0)))
def Xi(c:eD)(a Fin:eA->fa)(d:Nat)(g:eA)(w:er):Prop:=g.status=.running/\∀v:Nat,v<2147483648->WgAt c Wg w (v*KK) 0->(v=d->∃b,stepG P main g w=.go b (w.setCell (stA Wg) (.int .u64 (v*KK+1))) #[ConcR.rd (stA Wg),ConcR.wr (stA Wg)]/\∃k,Goes P main R DC0 (CB P main R (.write (smA Wg)) (Xh P main R Wg c Fin)) k b (w.setCell (stA Wg) (.int .u64 (v*KK+1))))/\(v≠d->∃b,stepG P main g w=.go b w #[ConcR.rd (stA Wg)]/\∃k,Goes P main R DC0 a k b w)
def WL(c:eD)(a Fin:eA->fa)(g:eA)(w:er):Prop:=g.status=.running/\∀v:Nat,v<2147483648->WgAt c Wg w (v*KK) 0->∃b,stepG P main g w=.go b w #[ConcR.rd (stA Wg)]/\(v=0->∃k,Goes P main R DC0 (V1 P main R Wg Fin) k b w)/\(v≠0->∃k,Goes P main R DC0 (Xi P main R Wg c a Fin v) k b w)
end
section
variable{R:er->er->Prop}{Wg:Nat}{F:er->Prop}{main:Bool}{Fin:eA->er->Prop} {b₀:Frame}{a₀:Act}{ops₀:Array Oper}{i₀:Nat}{rest₀:List Nat}{k₀:List Item}{cs:List Frame}
def Ix{P:eE}(H:WgLib P L)(c:∀{w a},F w/\WgLive L.tWg Wg w->R w a->F a/\WgLive L.tWg Wg a)(w:er)(b:F w/\WgLive L.tWg Wg w):∃k,Goes P main R DC0 (CB P main R .disable (AnchWN L F Wg (b₀.at a₀ (.inRegion ops₀ (i₀::rest₀)::k₀)) cs)) k (G ((base L.wait).at ⟨#[.pointer (some ⟨Wg,0,none⟩)]++Array.replicate ((waitFn L).ntmps-1) undef,[]⟩ [.code (body_wait L)]) (b₀.at a₀ (.inRegion ops₀ (i₀::rest₀)::k₀)::cs)) w:=by lib_facts;refine⟨30,?_⟩;simp only[body_wait,waitFn,lT,Nat.reduceSub,Array.replicate,List.replicate];u_c eM c b;u_cond true c b;u_reg c b;refine kR (λa d=>?_);replace b:=c b d;clear d;refine⟨rfl,_,stepG_mark0 .disable (by simp) rfl rfl (by k_ne) rfl H.f_disable (x_disable_n L) (x_disable_b L) (x_disable_x L) (x_disable_f L),3,?_⟩;walk_nrm;u_c eI c b;u_c tw c b;u_c stepG_loop c b;exact kR (λf e=>⟨_,rfl,by simp,by simp,c b e⟩)
def Iy{P:eE}(H:WgLib P L)(b:∀{w d},F w/\WgLive L.tWg Wg w->R w d->F d/\WgLive L.tWg Wg d)(K:∀w x,F w->F (w.setCell (stA Wg) x))(E:∀w x,F w->F (w.setCell (smA Wg) x))
 (o:Fin=λg w=>g=G (b₀.at (a₀.put ((ops₀[i₀]?).bind (·.dst)) (.tuple #[])) (.inRegion ops₀ rest₀::k₀)) cs/\F w/\WgLive L.tWg Wg w)
 (g:eA)(w:er)(h:AnchWN L F Wg (b₀.at a₀ (.inRegion ops₀ (i₀::rest₀)::k₀)) cs g w):∃k,Goes P main R DC0 (WL P main R Wg L.tWg (AnchWN L F Wg (b₀.at a₀ (.inRegion ops₀ (i₀::rest₀)::k₀)) cs) Fin) k g w:=by
 lib_facts;obtain⟨T,rfl,y,I,a⟩:=h;obtain⟨v0,v1,v2,v3,v4,v5,v6,v7,v8,v9,M,N,O,Q,U,V,W,X,Y,Z,aa,ab,ac,ae,af,ag,ah,ai,aj,ak,al,am,an,ao,ap,aq,ar,au,av,aw,ax,ay,az,aA,aB,aC,aD,aE,aF,aG,aH,aI,aJ,aK,aL,aM,aN,aO,aP,aQ,aR,aS,aT,aU,aV,aW,aX,aY,aZ,a0,a2,a3,a4,a5,a6,a7,a8,a9,ba,bb,bc,bd,be,bf,rfl⟩:=array84 T y;simp only[Cn,Ck,iz]at I;subst I;refine⟨40,?_⟩;simp only[L7,body_wait,waitFn,lT];u_c tw b a;u_c eM b a;u_reg b a;iterate 3 u_op b a
 u_call H.f_uLoad (nm_uLoad L) uLoadFn b a;u_c eM b a;u_reg b a;u_op b a;u_c eI b a;u_c eM b a;u_reg b a;iterate 3 u_op b a
 refine kR (λd p=>?_);replace a:=b a p;clear p;refine⟨rfl,λv hv c=>?_⟩;obtain rfl|bg:=ri v
 ·
  replace c:WgAt L.tWg Wg d 0 0:=by simpa using c
  refine⟨_,stepG_load_atomic (v:=0) rfl rfl (by k_ne) rfl H.f_loadU64 (x_loadU64_n L) (x_loadU64_b L) (x_loadU64_x L) .u64 (x_loadU64_f L) rfl c.cellSt,λ_=>⟨80,?_⟩,λh=>absurd rfl h⟩;clear c;walk_nrm;u_op b a;u_c eI b a;u_c stepG_ret' b a;u_leave1 H.f_uLoad b a;u_op b a;u_c eI b a;u_c eM b a;u_reg b a;iterate 4 u_op b a
  u_c eI b a;u_c eM b a;u_reg b a;iterate 4 u_op b a
  u_c eI b a;iterate 2 u_c eM b a
  u_reg b a;iterate 2 u_op b a
  u_c eI b a;u_cond true b a;u_c eM b a;u_cond true b a;u_c eM b a;u_reg b a;refine kR (λz f=>?_);replace a:=b a f;clear f;refine⟨rfl,_,stepG_mark0 .enable (by simp) rfl rfl (by k_ne) rfl H.f_enable (x_enable_n L) (x_enable_b L) (x_enable_x L) (x_enable_f L),20,?_⟩;walk_nrm;u_c eI b a;u_reg b a;u_op b a;u_conv H.underlying_tWgP H.room_tWg (WgLive.cell0 a.2).choose_spec b a;refine kR (λA i=>?_);replace a:=b a i;clear i;refine⟨rfl,_,stepG_markAt .acquire (by simp) rfl rfl (by k_ne) rfl H.f_acquire (x_acquire_n L) (x_acquire_b L) (x_acquire_x L) (x_acquire_f L) (by simp[Act.eval,stA]),40,?_⟩;walk_nrm;u_c eI b a;iterate 2 u_c eM b a
  u_reg b a;iterate 8 u_op b a
  iterate 2 u_skip b a
  u_op b a;u_c eI b a;u_cond false b a;u_c gX b a;u_c stepG_ret' b a;u_leave0 H.f_wait b a;subst o;exact kR λB m=>⟨rfl,b a m⟩
 ·obtain⟨S,j⟩:∃S:Int,(v:Int)*KK=S:=⟨_,rfl⟩;have a1:S/4294967296=(v:Int):=by rw[<-j];simp only[KK];omega
  have b1:bits .and .u64 S 2147483648=0:=by rw[<-j];have:=st_flag v 0 (by omega) (by omega);simpa[KK]using this
  have b2:bits .and .u64 S 2147483647=0:=by rw[<-j];have:=st_waiters v 0 (by omega) (by omega);simpa[KK]using this
  have c1:IntKind.i32.wrap (v:Int)=(v:Int):=by rw[IntKind.wrap_i32];omega
  have w1:IntKind.u64.wrap (S+1)=S+1:=by rw[IntKind.wrap_u64,<-j];simp only[KK];omega
  have q3:decide ((v:Int)<0)=false:=jj (by omega);have q4:decide (0<(v:Int))=true:=decide_eq_true (by omega);have q5:((v:Int)==0)=false:=by simp;omega
  have q6:decide ((v:Int)=0)=false:=jj (by omega);rw[j]at c;refine⟨_,stepG_load_atomic (v:=S) rfl rfl (by k_ne) rfl H.f_loadU64 (x_loadU64_n L) (x_loadU64_b L) (x_loadU64_x L) .u64 (x_loadU64_f L) rfl c.cellSt,λh0=>absurd h0 (by omega),λ_=>⟨80,?_⟩⟩;clear c;walk_nrm;u_op b a;u_c eI b a;u_c stepG_ret' b a;u_leave1 H.f_uLoad b a;u_op b a;u_c eI b a;u_c eM b a;u_reg b a;iterate 4 u_op b a
  u_c eI b a;u_c eM b a;u_reg b a;iterate 4 u_op b a
  u_c eI b a;iterate 2 u_c eM b a
  u_reg b a;iterate 2 u_op b a
  u_c eI b a;u_cond false b a;u_c gX b a;u_c eM b a;u_reg b a;iterate 6 u_op b a
  u_call H.f_uCas (nm_uCas L) uCasFn b a;u_c eM b a;u_reg b a;u_op b a;u_c eI b a;u_c eM b a;u_reg b a;iterate 5 u_op b a
  refine kR (λq r=>?_);replace a:=b a r;clear r;refine⟨rfl,λv' bh c=>⟨λe=>?_,λe=>?_⟩⟩
  ·subst e;rw[j]at c⊢;refine⟨_,(stepG_cas_hit (v:=S) (n:=S+1) rfl rfl (by k_ne) rfl H.f_casU64 (x_casU64_n L) (x_casU64_b L) (x_casU64_x L) .u64 (x_casU64_f L) rfl rfl rfl c.cellSt (c.thaw 0)).trans (by rfl),80,?_⟩;replace a:F (q.setCell (stA Wg) (.int .u64 (S+1)))/\WgLive L.tWg Wg (q.setCell (stA Wg) (.int .u64 (S+1))):=⟨K _ _ a.1,⟨_,_,c.setSt _⟩⟩;clear c;walk_nrm;u_op b a;u_c eI b a;u_c stepG_ret' b a;u_leave1 H.f_uCas b a;u_c eI b a;u_cond true b a;iterate 2 u_c eM b a
   u_reg b a;iterate 4 u_op b a
   u_c eI b a;u_cond true b a;u_reg b a;iterate 3 u_op b a
   u_conv H.underlying_tPU32 H.room_tU32 (WgLive.cell1 a.2).choose_spec b a;refine kR (λC l=>?_);replace a:=b a l;clear l;refine⟨rfl,_,stepG_markAt .write (by simp) rfl rfl (by k_ne) rfl H.f_raceWrite (x_raceWrite_n L) (x_raceWrite_b L) (x_raceWrite_x L) (x_raceWrite_f L) (ad:=(eQ Wg 1)) (by simp[Act.eval]),60,?_⟩;walk_nrm;u_c eI b a;u_c eM b a;u_reg b a;u_op b a;u_c eI b a;iterate 2 u_c eM b a
   u_reg b a;iterate 4 u_op b a
   u_skip b a;u_op b a;u_c eI b a;u_cond false b a;u_c gX b a;u_c eM b a;u_reg b a;iterate 4 u_op b a
   refine kR (λs t=>?_);replace a:=b a t;clear t;refine⟨rfl,rfl,λ⟨st,c⟩=>stepG_semacquire_wait rfl rfl rfl H.f_semacquire (x_semacquire_n L) (x_semacquire_b L) (x_semacquire_x L) (x_semacquire_f L) (by simp[Act.eval,smA]) c.cellSm,λD=>?_⟩;refine⟨_,(stepG_semacquire (n:=1) rfl rfl (by k_ne) rfl H.f_semacquire (x_semacquire_n L) (x_semacquire_b L) (x_semacquire_x L) (x_semacquire_f L) (by simp[Act.eval,smA]) D.cellSm (by k_ne) (D.thaw 1)).trans (by rfl),50,?_⟩;replace a:F (s.setCell (smA Wg) (.int .u32 0))/\WgLive L.tWg Wg (s.setCell (smA Wg) (.int .u32 0)):=⟨E _ _ a.1,⟨_,_,D.setSm 0⟩⟩;clear D;walk_nrm;u_c eI b a;u_c eM b a;u_reg b a;iterate 3 u_op b a
   u_call H.f_uLoad (nm_uLoad L) uLoadFn b a;u_c eM b a;u_reg b a;u_op b a;u_c eI b a;u_c eM b a;u_reg b a;iterate 3 u_op b a
   refine kR (λJ u=>?_);replace a:=b a u;clear u;refine⟨rfl,λc=>⟨_,stepG_load_atomic (v:=0) rfl rfl (by k_ne) rfl H.f_loadU64 (x_loadU64_n L) (x_loadU64_b L) (x_loadU64_x L) .u64 (x_loadU64_f L) rfl c.cellSt,50,?_⟩⟩;clear c;walk_nrm;u_op b a;u_c eI b a;u_c stepG_ret' b a;u_leave1 H.f_uLoad b a;iterate 2 u_op b a
   u_c eI b a;u_c eM b a;u_cond true b a;u_c eM b a;u_reg b a;refine kR (λz f=>?_);replace a:=b a f;clear f;refine⟨rfl,_,stepG_mark0 .enable (by simp) rfl rfl (by k_ne) rfl H.f_enable (x_enable_n L) (x_enable_b L) (x_enable_x L) (x_enable_f L),20,?_⟩;walk_nrm;u_c eI b a;u_reg b a;u_op b a;u_conv H.underlying_tWgP H.room_tWg (WgLive.cell0 a.2).choose_spec b a;refine kR (λA i=>?_);replace a:=b a i;clear i;refine⟨rfl,_,stepG_markAt .acquire (by simp) rfl rfl (by k_ne) rfl H.f_acquire (x_acquire_n L) (x_acquire_b L) (x_acquire_x L) (x_acquire_f L) (by simp[Act.eval,stA]),40,?_⟩;walk_nrm;u_c eI b a;iterate 2 u_c eM b a
   u_reg b a;u_op b a;u_c eI b a;u_cond false b a;u_c gX b a;u_c stepG_ret' b a;u_leave0 H.f_wait b a;subst o;exact kR λB m=>⟨rfl,b a m⟩
  ·refine⟨_,stepG_cas_miss (v:=(v':Int)*KK) (old:=S) (n:=S+1) rfl rfl (by k_ne) rfl H.f_casU64 (x_casU64_n L) (x_casU64_b L) (x_casU64_x L) .u64 (x_casU64_f L) rfl rfl rfl c.cellSt (c.thaw 0) (by rw[<-j];simp only[KK];omega),12,?_⟩;clear c;walk_nrm;u_op b a;u_c eI b a;u_c stepG_ret' b a;u_leave1 H.f_uCas b a;u_c eI b a;u_cond false b a;u_c gX b a;u_c stepG_inBlock b a;u_c stepG_inLoop b a;refine kR (λC l=>?_);replace a:=b a l;exact⟨_,rfl,by simp,by simp,a⟩
end
end Go.eV.Wg
namespace Go.eV.Cr
open Go.Conc Go.eV Go.eV.Kn Go.eV.Wg
open Go.ConcR (KK wgBlock WgAt stA smA mk DC0)
open Go.ConcN (sumTo upd)
section
variable{P:eE}{main:Bool}{own rd:Nat->Prop}{L:er->Prop}
theorem yJ{D:er->er->Array Event->Prop}{S:eA->fa}{j:jV}(k:∀w d e,D w d e->Np own rd w d e own)(f:∀g w,S g w->j own g w):∀{m:Nat} {g:eA} {w:er},Goes P main (gd own rd L) D S m g w->∃i,Way P main rd L j i own g w
 |0,g,w,h=>⟨.leaf,.here λa b=>f _ _ (h a b)⟩
 |m+1,g,w,h=>by
  obtain h|⟨l,h⟩:=h;exact⟨.leaf,.here λa b=>f _ _ (h a b)⟩;refine Way.mk l λa b=>?_;have c:=h a b;revert c;cases n:stepG P main g a with
  |go o d e=>
   intro c;obtain⟨p,q⟩:=c;obtain⟨i,r⟩:=yJ k f q;exact⟨o,d,e,own,i,rfl,k _ _ _ p,r⟩
  |_=>exactλc=>c.elim
def Al{w:er}{a:Array Event}(h:∀e∈a,EvW own rd w.heap.size w.heap.size e):Np own rd w w a own:=
 ⟨rfl,rfl,rfl,eF _,λb=>⟨.inl,λh=>h.elim id λh=>by omega⟩,λ_ _ _=>rfl,h⟩
def QZ(w a:er)(b:Array Event)(h:DC0 w a b):Np own rd w a b own:=by obtain⟨rfl,rfl⟩:=h;exact Al λe c=>by simp at c
variable{ty:eD}{Wg Ch n:Nat}
def qx{S:jV}{w:er}(h:∀a,gd own rd (Lv ty Wg) w a->S own Z a):Wy P ty Wg main rd S own Z w:=⟨.leaf,.here h⟩
def lB{S:eA->fa}{S':jV}{m:Nat}{w:er}(h:Goes P main (gd own rd (Lv ty Wg)) DC0 S m Z w)(a:∀Z w,S Z w->S' own Z w):Wy P ty Wg main rd S' own Z w:=
 yJ QZ a h
theorem Wy.bind{S a:jV}{g:eA}{w:er}(h:Wy P ty Wg main rd S own g w)(b:∀own g w,S own g w->Wy P ty Wg main rd a own g w):Wy P ty Wg main rd a own g w:=by obtain⟨c,h⟩:=h;exact Way.bind h b
def wK{S:eA->fa}{S':jV}{m:Nat}{w:er}(h:Goes P main (gd own rd (Lv ty Wg)) DC0 S m Z w)(a:∀Z w,S Z w->Wy P ty Wg main rd S' own Z w):Wy P ty Wg main rd S' own Z w:=
 (lB (S':=λo Z w=>o=own/\S Z w) h λ_ _ h=>⟨rfl,h⟩).bind λo Z w ⟨e,b⟩=>by subst e;exact a Z w b
def xL{m:Mark}{a:eA->fa}{N:jV}(b:∀{k:Nat} {Z:eA} {w:er},Goes P main (gd own rd (Lv ty Wg)) DC0 a k Z w->Wy P ty Wg main rd N own Z w){w:er} (h:Ak P main (gd own rd (Lv ty Wg)) m a Z w):rQ P main m (Wy P ty Wg main rd N) own Z w:=by obtain⟨c,d,e,k,f⟩:=h;exact⟨c,d,e,b f⟩
def Iz{a:eN}{val:Nat->eu->(eN)->fa}{i:Nat}{Next:jV}{b:eA->fa}{m:Nat}{w:er} (h:Goes P true (gd own a (Lv ty Wg)) DC0 (Ak P true (gd own a (Lv ty Wg)) .disable (WJ P true (gd own a (Lv ty Wg)) Wg ty b)) m Z w) (g:∀Z w,b Z w->Wy P ty Wg true a (VC P ty Wg Ch a val i Next) own Z w):Wy P ty Wg true a (UT P ty Wg Ch a val i Next) own Z w:=by
 have c:∀{k:Nat} {Z:eA} {w:er},Goes P true (gd own a (Lv ty Wg)) DC0 (Ak P true (gd own a (Lv ty Wg)) .enable b) k Z w->Wy P ty Wg true a (VD P ty Wg Ch a val i Next) own Z w:=λh=>
  lB h λZ w h=>xL (λh=>wK h g) h
 refine lB h λZ w h=>xL (λh=>lB h λZ w ⟨j,l⟩=>⟨j,λv n o=>?_⟩) h;obtain⟨p,e,q,r⟩:=l v n o;refine⟨p,e,λd=>?_,λd=>?_⟩;obtain⟨k,f⟩:=q d;exact lB f λZ w h=>xL c h;obtain⟨k,f⟩:=r d;exact c f
def rU{m:Mark}{a:eA->fa}{N:jV}(b:∀{k:Nat} {Z:eA} {w:er},Goes P main (gd own rd (Lv ty Wg)) DC0 a k Z w->Wy P ty Wg main rd N own Z w){w:er} (h:CB P main (gd own rd (Lv ty Wg)) m a Z w):rQ P main m (Wy P ty Wg main rd N) own Z w:=by obtain⟨c,d,e,k,f⟩:=h;exact⟨c,d,e,b f⟩
end
end Go.eV.Cr
