/- Laws that the proof needs, part 1. Conditions: none. -/
import Derived.Conc.JoinTrace
import Derived.Conc.CrowdComm
import Derived.Conc.WrBase2
import Derived.Conc.CrowdBase
import Derived.Conc.WgGenN3
import Derived.Test.YteeagjkaflglpaaGreatRows
import Derived.Conc.DeferLaws
import Derived.Test.YteeagjkaflglpaaGreatX00
set_option maxRecDepth 100000
set_option maxHeartbeats 8000000
set_option linter.all false
variable{m k i j o p s d:Nat}{w t e:cI}{x y z:cJ}{A B C:Nat->Prop}{R:Go.dz.dO}{I J:Int}{h:Go.Addr}{O Q:Go.Obj}{Z:cP}{S:cI->Prop}{P:cU}
namespace Go.dz
open Go.Conc (G)
structure eP(own rd:Nat->Prop)(L:cI->Prop)(w w1:cI):Prop where
 tape:w1.tape=w.tape
 os:w1.os=w.os
 output:w1.output=w.output
 size:w.heap.size<=w1.heap.size
 heap:∀b,b<w.heap.size->own b\/rd b->w1.heap[b]? =w.heap[b]?
 live:L w->L w1
def eP.refl(own rd:dn)(L:dB)(w:cI):eP own rd L w w:=⟨rfl,rfl,rfl,dg _,cK,id⟩
theorem eP.trans{own rd:dn}{L:dB}{a b c:cI}(h:eP own rd L a b)(k:eP own rd L b c):eP own rd L a c:=
 ⟨k.tape.trans h.tape,k.os.trans h.os,k.output.trans h.output,dw h.size k.size,λx d e=>(k.heap x (ep d h.size) e).trans (h.heap x d e),k.live∘h.live⟩
theorem eP.at(own rd:dn){L:dB}(a:∀w d,L w->L (w.at d))(w:cI)(d:Nat):eP own rd L w (w.at d):=⟨rfl,rfl,rfl,dg _,λ_ _ _=>rfl,a w d⟩
def EvW(own rd:dn)(n m:Nat)(e:Event):Prop:=
 (∃a b,e=⟨.cell a,b,false⟩/\(own a.block\/(b=false/\rd a.block)\/(n<=a.block/\a.block<m)))\/
 (∃r b,e=⟨.obj r,b,false⟩/\(own r\/(n<=r/\r<m)))\/e=⟨.mark .noRoom,false,true⟩
structure N5(own rd:Nat->Prop)(w1 w':cI)(es:Array Event)(own':Nat->Prop):Prop where
 tape:w'.tape=w1.tape
 os:w'.os=w1.os
 output:w'.output=w1.output
 size:w1.heap.size<=w'.heap.size
 owns:∀b,own' b↔own b\/(w1.heap.size<=b/\b<w'.heap.size)
 same:∀b,b<w1.heap.size->¬own b->w'.heap[b]? =w1.heap[b]?
 evs:∀e∈es,EvW own rd w1.heap.size w'.heap.size e
inductive WT:Type
 |leaf
 |node (f:cI->WT)
inductive Way (P:cU) (main:Bool) (rd:Nat->Prop) (L:cI->Prop) (Stop:(Nat->Prop)->cP->cI->Prop):WT->(Nat->Prop)->cP->cI->Prop
 |here {τ:WT} {own:Nat->Prop} {g:cP} {w:cI} (h:∀w1,eP own rd L w w1->Stop own g w1):Way P main rd L Stop τ own g w
 |step {f:cI->WT} {own:Nat->Prop} {g:cP} {w:cI} (hs:g.status=.running)
  (h1:∀w1,eP own rd L w w1->∃g' w' es own',stepG P main g w1=.go g' w' es/\N5 own rd w1 w' es own')
  (h2:∀w1 g' w' es own',eP own rd L w w1->stepG P main g w1=.go g' w' es->N5 own rd w1 w' es own'->Way P main rd L Stop (f w1) own' g' w'):Way P main rd L Stop (.node f) own g w
def N5.unique{own rd:dn}{c d:cI}{f a:Array Event}{o e:dn}(h:N5 own rd c d f o)(k:N5 own rd c d a e):o=e:=
 funext λb=>propext ((h.owns b).trans (k.owns b).symm)
section
variable{P:cU}{main:Bool}{rd:Nat->Prop}{L:cI->Prop}{Stop:(Nat->Prop)->cP->cI->Prop}{own:Nat->Prop}{g:cP}{w:cI}
theorem Way.rely{e:WT}{f:cI}(h:Way P main rd L Stop e own g w)(c:eP own rd L w f):Way P main rd L Stop e own g f:=by
 cases h with
 |here h=>exact .here λa d=>h a (c.trans d)
 |step i j d=>exact .step i (λa k=>j a (c.trans k)) λa l m n b k=>d a l m n b (c.trans k)
theorem Way.mk(p:g.status=.running)(h:∀b,eP own rd L w b->∃f d i a j,stepG P main g b=.go f d i/\N5 own rd b d i a/\Way P main rd L Stop j a f d):∃j,Way P main rd L Stop j own g w:=by refine⟨.node λb=>open Classical in if c:eP own rd L w b then Classical.choose (jB (jB (jB (jB (h b c)))))else .leaf,.step p (λb c=>?_) λb f d i a c e k=>?_⟩;have⟨f,d,i,a,j,e,q,_⟩:=h b c;exact⟨f,d,i,a,e,q⟩;have l:=jB (jB (jB (jB (jB (h b c)))));rw[dif_pos c];generalize Classical.choose (jB (jB (jB (jB (h b c)))))=j at l;revert l;generalize Classical.choose (jB (jB (jB (h b c))))=n;generalize Classical.choose (jB (jB (h b c)))=r;generalize Classical.choose (jB (h b c))=x;generalize Classical.choose (h b c)=y;rintro⟨o,m,s⟩;rw[e]at o;injection o with t u v;subst t u v;rw[k.unique m];exact s
theorem Way.bind{a:(dn)->cP->dB}{b:WT}(h:Way P main rd L Stop b own g w)(m:∀own g w,Stop own g w->∃b,Way P main rd L a b own g w):∃b,Way P main rd L a b own g w:=by
 induction h with
 | @here b own g w h=>exact m own g w (h w (.refl _ _ _ _))
 |step n o r p=>
  refine Way.mk n λd f=>?_;have⟨i,j,k,c,e,l⟩:=o d f;have⟨b,q⟩:=p d i j k c f e l;exact⟨i,j,k,c,b,e,l,q⟩
end
structure xj(ρ:dO)(v w:cI)(own rd:Nat->Prop):Prop where
 heap:HR ρ v w
 zone:∀b c',ρ.r b c'->own c'\/(rd c'/\yS v b)
def xj.rely{v w d:cI}{own rd:dn}{L:dB}(h:xj R v w own rd)(e:eP own rd L w d):xj R v d own rd:=by refine⟨⟨λb c a=>?_,h.heap.low⟩,h.zone⟩;have⟨o,f,g,i,j⟩:=h.heap.obj b c a;refine⟨o,f,g,?_,j⟩;rw[e.heap c (lt_of_heap i) ((h.zone b c a).imp id (·.1))];grind
def FG(P:cU)(Stop:Frame->List Frame->dB)(rd:dn)(b:List Frame)(d:dO)(own:dn)(g:cP)(w:cI):Prop:=
 ∃c a,Stop c.fr c.cl c.v/\sq P a b (G c.fr c.cl) g/\eN P a c.fr g.frame/\dO.Le d a/\xj a c.v w own rd/\Inv P c
def U1{P:cU}{main:Bool}{Stop:Frame->List Frame->dB}(M:∀fr N v,Stop fr N v->N≠[]){rd:dn}{L:dB}{cs:List Frame}{ρ0:dO}:∀c,Reach P Stop c->∀(p:dO) (own:dn) (g:cP) (w:cI),Inv P c->Good P p->(∀f,p.S f=true->p.hole f=false)->dO.Le ρ0 p->sq P p cs (G c.fr c.cl) g->xj p c.v w own rd->∃O,Way (P.jg ρ0.fs) main rd L (FG P Stop rd cs ρ0) O own g w:=by
 intro c hc;induction hc with
 | @here c h=>
  intro p own g w C Q hh y D R;have k:eN P p c.fr g.frame:=by
   have i:=D.fr;generalize k:(G c.fr c.cl).frame=fr at i;generalize F:g.frame=T at i;cases i with
   |fr U=>subst k;exact U
   |hole hS hx _=>grind
  exact⟨.leaf,.here λx V=>⟨c,p,h,D,k,y,R.rely V,C⟩⟩
 | @next c W h2 ih=>
  intro p own g w C Q hh y D R;have k:eN P p c.fr g.frame:=by
   have i:=D.fr;generalize k:(G c.fr c.cl).frame=fr at i;generalize F:g.frame=T at i;cases i with
   |fr U=>subst k;exact U
   |hole hS hx _=>grind
  refine Way.mk D.st.2 λx V=>?_;have q:=R.rely V;have hw:WR p (du c.v (sL c.v x)) x:=WR.sL q.heap;have X:=Co c.v x;have hs:=Iy Q hw D k true main;have Y:=C.du (sL c.v x);have⟨z,H,e⟩:=W _ X;have Z:=h2 _ z H X e;have I:Inv P z:=by
   obtain⟨o,E,es,B⟩|⟨g1,v1,es,B,l⟩|⟨af,ag,v1,es,B,ae⟩:=Y.step;grind;rw[show stepG P true (G c.fr c.cl) (du c.v (sL c.v x))=_ from B]at e;injection e with e1 e2 e3;subst e1;exfalso;have aa:=l;have⟨k1,k2,k0,k3,k4⟩:=l;cases Z with
   |here h=>exact M _ _ _ h k3
   |next W h2=>
    have⟨c2,ah,ai⟩:=W z.v.tape λ_ _=>rfl;have⟨o,E,J,aj⟩:=aa.ended (P:=P) true (du z.v z.v.tape);grind
   rw[show stepG P true (G c.fr c.cl) (du c.v (sL c.v x))=_ from B]at e;injection e with e1 e2 e3;injection e1 with e4 e5;have⟨fr,N,v⟩:=z;grind
  rw[e]at hs;obtain l|⟨K,a1,E,J,B,⟨d,m⟩,ab⟩:=hs;exfalso;have:=I.callers;exact this l.2.2.2.1;rw[<-y.f]at B;let t:dn:=λb=>own b\/(x.lH<=b/\b<E.lH);have ac:xj K z.v E t rd:=by refine⟨m.rel.hr.drawn,λb c' j=>?_⟩;obtain h|⟨_,h⟩:=m.fresh b c' j;obtain h|⟨h,n⟩:=q.zone b c' h;grind;have u:yS (du c.v (sL c.v x)) b:=n;exact .inr ⟨h,u.keep (m.vS b u)⟩;exact .inl (.inr ⟨h,m.rel.VV j⟩)
  have⟨O,ad⟩:=ih _ z H X e K t a1 E I (Q.mono m.le) (by rw[<-m.le.s,<-m.le.h];grind) (y.trans m.le) ab ac;refine⟨a1,E,J,t,O,B,⟨m.tape,m.os,m.output,m.usize,cK,λb hb ak=>m.same b hb λb0 j=>?_,λe he=>?_⟩,ad⟩;obtain h|⟨_,h⟩:=q.zone b0 b j;grind;exact h;obtain⟨a,A,b,rfl,j,_,C⟩|⟨r,A,b,rfl,j,C⟩|⟨a,A,rfl,hn,hm⟩|⟨r,A,rfl,hn,hm⟩|rfl:=m.evs e he;refine .inl ⟨a,A,rfl,?_⟩;obtain h|⟨h,n⟩:=q.zone b a.block j;grind;cases A with
  |true=>exact absurd (show yS (du c.v (sL c.v x)) b from n) (C rfl)
  |false=>grind
  refine .inr (.inl ⟨r,A,rfl,?_⟩);obtain h|⟨h,n⟩:=q.zone b r j;grind;grind [absurd,yS,du,sL];exact .inl ⟨a,A,rfl,.inr (.inr ⟨hn,hm⟩)⟩;exact .inr (.inl ⟨r,A,rfl,.inr ⟨hn,hm⟩⟩);exact .inr (.inr rfl)
end Go.dz
namespace Go.dz
open Go.Conc
structure sr where
 own:Nat->Nat->Prop
 rd:Nat->Nat->Prop
 wg:Nat->Prop
 done:Nat->Prop
def blk:Loc->Option Nat
 | .cell a=>some a.block
 | .obj r=>some r
 |_=>none
def XO(G:sr)(g n m:Nat)(e:Event):Prop:=
 (∀x,(MemAct.ofEvent e).touch?=some x->∀b,blk x.loc=some b->G.own g b\/(G.rd g b/\x.write=false)\/(n<=b/\b<m)\/(G.wg b/\x.kind=.atomic))/\
 (∀x,(MemAct.ofEvent e).touch?=some x->x.loc.isMemory=true->∃b,blk x.loc=some b)/\
 (MemAct.ofEvent e).low m
structure gG(G:sr)(n:Nat)(t:Trace):Prop where
 clean:∀said,¬Race said t
 own:∀i a g b,touchAt t i=some a->blk a.loc=some b->G.own g b->Knows t g i
 rd:∀i a g b,touchAt t i=some a->blk a.loc=some b->G.rd g b->a.write=true->Knows t g i
 wg:∀i a b,touchAt t i=some a->blk a.loc=some b->G.wg b->a.kind=.atomic
 low:∀op∈t,op.act.low n
def Cp{x:MemAct}{a:Touch}(h:x.low m)(b:x.touch?=some a)(f:blk a.loc=some k):k<m:=by
 cases x with
 |access e=>
  simp only[MemAct.touch?,iO]at b;subst b;have⟨c,g,i⟩:=e;cases c<;>simp_all[blk,MemAct.low,Loc.low]
 |mark d=>
  cases d<;>simp only[MemAct.touch?]at b<;>first|(cases b;done)|skip
  all_goals
   simp only[iO]at b;subst b;simp_all[blk,MemAct.low]
 |_=>simp[MemAct.touch?]at b
structure sr.Fits(G:sr)(n:Nat):Prop where
 own:∀g b,G.own g b->b<n
 rd:∀g b,G.rd g b->b<n
 wg:∀b,G.wg b->b<n
 one:∀g g' b,G.own g b->G.own g' b->g=g'
 still:∀g g' b,G.own g b->¬G.rd g' b
 ownwg:∀g b,G.own g b->¬G.wg b
 rdwg:∀g b,G.rd g b->¬G.wg b
def sr.grow(G:sr)(g n m:Nat):sr:={G with own:=λa b=>G.own a b\/(a=g/\n<=b/\b<m)}
theorem sr.Fits.grow{G:sr}(h:G.Fits k)(e:k<=m)(g:Nat):(G.grow g k m).Fits m:=by refine⟨λf b d=>?_,λf b d=>ep (h.rd f b d) e,λb d=>ep (h.wg b d) e,λi j b a c=>?_,λi j b a c=>?_,λi b a c=>?_,h.rdwg⟩;obtain d|d:=d;exact ep (h.own f b d) e;exact d.2.2;obtain a|a:=a<;>obtain c|c:=c;exact h.one _ _ _ a c;have:=h.own _ _ a;omega;have:=h.own _ _ c;omega;rw[a.1,c.1];obtain a|a:=a;exact h.still _ _ _ a c;have:=h.rd _ _ c;omega;obtain a|a:=a;exact h.ownwg _ _ a c;have:=h.wg _ c;omega
theorem gG.step{G:sr}{g n m:Nat}{t:Trace}{fn:dY}{pos:String}{z:Array Event}(h:gG G n t)(w:G.Fits n)(S:n<=m)(F:∀e∈z,XO G g n m e):gG (G.grow g n m) m (t++MemOp.ofEvents g fn pos z):=by
 have p:∀f∈MemOp.ofEvents g fn pos z,f.g=g/\∃e∈z,f.act=.ofEvent e:=by intro f c;obtain⟨e,d,rfl⟩:=Go.Conc.mem_ofEvents c;exact⟨rfl,e,d,rfl⟩
 have H:∀i a b,touchAt t i=some a->blk a.loc=some b->b<n:=by intro i a b q o;have⟨f,c,A⟩:=touch_of q;exact Cp (h.low f (mem_of_getElem? c)) A o
 have C:∀i a,touchAt (t++MemOp.ofEvents g fn pos z) i=some a->touchAt t i=some a\/(∃f,(t++MemOp.ofEvents g fn pos z)[i]? =some f/\f.g=g/\∃e∈z,(MemAct.ofEvent e).touch?=some a):=by intro i a q;have⟨f,c,A⟩:=touch_of q;obtain⟨_,I⟩|⟨_,J⟩:=getElem?_append_cases c;exact .inl (by rw[touchAt_of I];exact A);have⟨D,e,d,l⟩:=p f J;exact .inr ⟨f,c,D,e,d,by rw[<-l];exact A⟩
 have K:∀{i f},(t++MemOp.ofEvents g fn pos z)[i]? =some f->f.g=g->Knows (t++MemOp.ofEvents g fn pos z) g i:=by intro i f c D;have:=knows_own c;rwa[D]at this
 refine⟨λL=>noRace_append (h.clean L) (λf c=>(p f c).1) λi a q f c b o M=>?_,λi a R b q o r=>?_,λi a R b q o y s=>?_,λi a b q o s=>?_,λf c=>?_⟩;have⟨_,e,d,l⟩:=p f c;have⟨T,U,_⟩:=F e d;rw[l]at o;have⟨k,N⟩:=U b o (M.1▸M.2.1);have B:blk a.loc=some k:=by rw[M.1];exact N
 obtain r|⟨y,s⟩|E|⟨s,O⟩:=T b o k N;exact h.own i a g k q B r;refine h.rd i a g k q B y ?_;obtain x|x:=M.2.2.1;exact x;rw[s]at x;cases x;have:=H i a k q B;omega;have P:=h.wg i a k q B s;obtain x|x|⟨_,x,_⟩:=M.2.2.2;rw[P]at x;cases x;rw[O]at x;cases x;rw[P]at x;cases x;obtain j|⟨f,c,D,e,d,u⟩:=C i a q;obtain r|r:=r;exact(h.own i a R b j o r).app _;have:=H i a b j o;omega;have N:=K c D;obtain r|r:=r;obtain v|⟨y,_⟩|E|⟨s,_⟩:=(F e d).1 a u b o;rw[w.one R g b r v];exact N;exact absurd y (w.still _ _ _ r);have:=w.own _ _ r;omega;exact absurd s (w.ownwg _ _ r);rw[r.1];exact N;obtain j|⟨f,c,D,e,d,u⟩:=C i a q;exact(h.rd i a R b j o y s).app _;obtain v|⟨_,Q⟩|E|⟨Q,_⟩:=(F e d).1 a u b o;exact absurd y (w.still _ _ _ v);rw[Q]at s;cases s;have:=w.rd _ _ y;omega;exact absurd Q (w.rdwg _ _ y);obtain j|⟨f,c,D,e,d,u⟩:=C i a q;exact h.wg i a b j o s;obtain v|⟨y,_⟩|E|⟨_,Q⟩:=(F e d).1 a u b o;exact absurd s (w.ownwg _ _ v);exact absurd s (w.rdwg _ _ y);have:=w.wg _ s;omega;exact Q;obtain c|c:=Fq.1 c;exact MemAct.low_mono S (h.low f c);have⟨_,e,d,l⟩:=p f c;rw[l];exact(F e d).2.2
def gG.FH{G e:sr}{t:Trace}(h:gG G m t) (f:∀g b,e.own g b->∀i a,touchAt t i=some a->blk a.loc=some b->Knows t g i) (j:∀g b,e.rd g b->∀i a,touchAt t i=some a->blk a.loc=some b->a.write=true->Knows t g i) (l:∀b,e.wg b->∀i a,touchAt t i=some a->blk a.loc=some b->a.kind=.atomic):gG e m t:=
 ⟨h.clean,λi a g b c d k=>f g b k i a c d,λi a g b c d k w=>j g b k i a c d w,λi a b c d k=>l b k i a c d,h.low⟩
def gG.mute{G:sr}{t u:Trace}(h:gG G m t)(v:∀d∈u,d.g=k)(s:∀d∈u,d.act.touch?=none)(x:∀d∈u,d.act.low m):gG G m (t++u):=by
 have f:∀i a,touchAt (t++u) i=some a->touchAt t i=some a:=by intro i a j;have⟨d,c,l⟩:=touch_of j;obtain⟨_,n⟩|⟨_,o⟩:=getElem?_append_cases c;rw[touchAt_of n];exact l;rw[s d o]at l;cases l
 refine⟨λp=>noRace_append (h.clean p) v λi a _ d c b e _=>(by rw[s d c]at e;cases e),λi a r b j e q=>(h.own i a r b (f i a j) e q).app _,λi a r b j e q w=>(h.rd i a r b (f i a j) e q w).app _,λi a b j e q=>h.wg i a b (f i a j) e q,λd c=>?_⟩;obtain c|c:=Fq.1 c;exact h.low d c;exact x d c
def Knows.pass{t:Trace}{g b i p q:Nat}{x y:MemOp}(h:Knows t g i){u:Trace}(c:(t++u)[p]? =some x)(a:t.size<=p)(d:x.g=g)(e:(t++u)[q]? =some y)(f:y.g=b) (j:HappensBefore (t++u) p q):Knows (t++u) b i:=⟨q,y,e,f,.inr ((h.hb_new a c d).trans j)⟩
def IB{t:Trace}{y:MemOp}(a:t[i]? =some y)(h:y.act≠ .mark .disable/\y.act≠ .mark .enable):t.deaf m (i+1)=t.deaf m i:=by rw[deaf_succ a];unfold deafStep;have⟨d,e,b,c⟩:=y;simp only at h;split<;>simp_all
def kQ{t:Trace}{u:Array MemOp}(k:Nat):(t++u)[t.size+k]? =u[k]? :=by rw[Dz cL];congr 1;omega
def qK{t:Trace}{u:Array MemOp}{y:MemOp}(d:Deaf t m=0)(b:u[k]? =some y)(e:y.g=m)(f:∀c∈u,c.act≠ .mark .disable/\c.act≠ .mark .enable):(t++u).heard (t.size+k):=by
 refine⟨m,by simp[Trace.g?,kQ,b,e],?_⟩;have a:∀j,j<=u.size->(t++u).deaf m (t.size+j)=0:=by
  intro j;induction j with
  |zero=>intro _;rw[pC,deaf_old (dg _)];exact d
  |succ j h=>
   intro l;have i:u[j]? =some u[j]:=nw cL;rw[<-Ke,IB (by rw[kQ];exact i) (f _ (Array.getElem_mem _))];exact h cL
 exact a k (Nat.le_of_lt (iS.1 b).1)
def FI{t:Trace}{x y:MemOp}(c:x.g=m/\x.act=.go k)(a:y.g=k/\y.act=.start)(f:Deaf t m=0)(j:Deaf t k=0)(h:Knows t m i):Knows (t++#[x,y]) k i:=by
 have e:∀d∈#[x,y],d.act≠ .mark .disable/\d.act≠ .mark .enable:=by intro d b;simp only[Og,eW,pB,mo]at b;obtain rfl|rfl:=b;simp[c.2];simp[a.2]
 refine Knows.pass h (u:=#[x,y]) (p:=t.size+0) (q:=t.size+1) (x:=x) (y:=y) (by rw[kQ];rfl) cL c.1 (by rw[kQ];rfl) a.1 (.single (.inr ⟨.spawn (child:=k) ?_ ?_ ?_,qK f (k:=0) rfl c.1 e,qK j (k:=1) rfl a.1 e⟩));simp only[Trace.act?,kQ];simp[c.2];simp only[Trace.act?,kQ];simp[a.2];simp only[Trace.g?,kQ];simp[a.1]
def DK{t:Trace}{g r i c s m:Nat}{a d e b:MemOp}(j:a.g=g/\a.act=.send c s)(v:d.g=r/\d.act=.recv c s m)(w:e.g=g/\e.act=.sendDone c s)(l:b.g=r/\b.act=.recvDone c s) (z:Deaf t g=0)(A:Deaf t r=0)(h:Knows t g i):Knows (t++#[a,d,e,b]) r i:=by
 have o:∀n∈#[a,d,e,b],n.act≠ .mark .disable/\n.act≠ .mark .enable:=by intro n f;simp only[Og,eW,pB,mo]at f;obtain rfl|rfl|rfl|rfl:=f;simp[j.2];simp[v.2];simp[w.2];simp[l.2]
 refine Knows.pass h (u:=#[a,d,e,b]) (p:=t.size+0) (q:=t.size+3) (x:=a) (y:=b) (by rw[kQ];rfl) cL j.1 (by rw[kQ];rfl) l.1 (.single (.inr ⟨.handOver (c:=c) (k:=s) ?_ ?_,qK z (k:=0) rfl j.1 o,qK A (k:=3) rfl l.1 o⟩));simp only[Trace.act?,kQ];simp[j.2];simp only[Trace.act?,kQ];simp[l.2]
def DL{t:Trace}{g i c p:Nat}{y:MemOp}(h:t.act? p=some (.close c))(j:t.heard p)(l:Before t i p)(d:y.g=g/\y.act=.recvClosed c)(m:Deaf t g=0):Knows (t++#[y]) g i:=by
 have a:=lt_of_act? h;have e:∀f∈#[y],f.act≠ .mark .disable/\f.act≠ .mark .enable:=by intro f b;simp only[Og,eW,pB,mo]at b;subst b;simp[d.2]
 refine⟨t.size+0,y,by rw[kQ];rfl,d.1,.inr ((l.app #[y]).hb (.single (.inr ⟨.closed (c:=c) ?_ ?_,(heard_old a).2 j,qK m (k:=0) rfl d.1 e⟩)))⟩;rw[act?_old a];exact h;simp only[Trace.act?,kQ];simp[d.2]
end Go.dz
namespace Go.dz.Kn
open Go.Conc Go.dz
structure Gh where
 own:Nat->Nat->Prop
 rd:Nat->Nat->Prop
 wg:Nat->Prop
 user:Nat->Prop
 sayer:Nat
 x:Nat->Prop
 done:Nat->Prop
 t0:Nat
def oI(G:Gh)(g d n m:Nat)(a:Array Event):Prop:=∀(j:Nat) (e:Event),a[j]? =some e->(∀x,(MemAct.ofEvent e).touch?=some x->x.loc.isMemory=true->∃b,blk x.loc=some b/\((x.kind=.plain/\(G.own g b\/(G.rd g b/\x.write=false)\/(n<=b/\b<m)))\/(x.kind=.atomic/\G.wg b/\G.user g/\(G.done g->0<deafBehind d (a.extract 0 j)))\/(x.kind=.said/\G.wg b/\G.user g/\g=G.sayer)))/\(MemAct.ofEvent e).low m
structure gG(G:Gh)(n:Nat)(t:Trace):Prop where
 len:G.t0<=t.size
 clean:∀said,¬Race said t
 own:∀i a g b,touchAt t i=some a->blk a.loc=some b->G.own g b->Knows t g i
 rd:∀i a g b,touchAt t i=some a->blk a.loc=some b->G.rd g b->a.write=true->Knows t g i
 wg:∀i a b,touchAt t i=some a->blk a.loc=some b->G.wg b->a.kind=.atomic\/(a.kind=.said/\Knows t G.sayer i)\/∀g,G.user g->Knows t g i
 told:∀i a g,touchAt t i=some a->a.loc.isMemory=true->t.g? i=some g->G.done g\/i<G.t0->Knows t 0 i\/(a.kind=.atomic/\(∃b,blk a.loc=some b/\(G.wg b\/G.x b))/\¬t.heard i)
 low:∀op∈t,op.act.low n
structure Gh.Fits(G:Gh)(n:Nat):Prop where
 own:∀g b,G.own g b->b<n
 rd:∀g b,G.rd g b->b<n
 wg:∀b,G.wg b->b<n
 one:∀g g' b,G.own g b->G.own g' b->g=g'
 still:∀g g' b,G.own g b->¬G.rd g' b
 ownwg:∀g b,G.own g b->¬G.wg b
 rdwg:∀g b,G.rd g b->¬G.wg b
 done:∀g,G.done g->g≠0/\G.sayer≠g/\(∀b,¬G.own g b)/\∀b,¬G.rd g b
def Gh.grow(G:Gh)(g n m:Nat):Gh:={G with own:=λa b=>G.own a b\/(a=g/\n<=b/\b<m)}
def Gh.uf(G:Gh)(g n:Nat):G.grow g n n=G:=by unfold Gh.grow;congr;grind
theorem Gh.Fits.grow{G:Gh}(h:G.Fits k)(e:k<=m)(g:Nat)(l:G.done g->m=k):(G.grow g k m).Fits m:=by refine⟨λf b d=>?_,λf b d=>ep (h.rd f b d) e,λb d=>ep (h.wg b d) e,λj n b a c=>?_,λj n b a c=>?_,λj b a c=>?_,h.rdwg,λf i=>?_⟩;obtain d|d:=d;exact ep (h.own f b d) e;grind;obtain a|a:=a<;>obtain c|c:=c;exact h.one _ _ _ a c;have:=h.own _ _ a;omega;have:=h.own _ _ c;omega;grind;obtain a|a:=a;exact h.still _ _ _ a c;have:=h.rd _ _ c;omega;obtain a|a:=a;exact h.ownwg _ _ a c;have:=h.wg _ c;omega;have⟨a,c,r,o⟩:=h.done f i;refine⟨a,c,λb d=>?_,o⟩;obtain d|⟨rfl,p,q⟩:=d;grind;have:=l i;omega
def oJ{l:Loc}(h:blk l=some m):l.isMemory=true:=by cases l<;>simp_all[blk,Loc.isMemory]
def IC{l:Loc}(h:l.isMemory=true):∃b,blk l=some b:=by cases l<;>simp_all[blk,Loc.isMemory]
theorem gG.step{G:Gh}{g n m:Nat}{t:Trace}{fn:dY}{pos:String}{w:Array Event}(h:gG G n t)(u:G.Fits n)(W:n<=m)(hd:G.done g->m=n)(O:oI G g (Deaf t g) n m w):gG (G.grow g n m) m (t++MemOp.ofEvents g fn pos w):=by
 have X:∀l∈MemOp.ofEvents g fn pos w,l.g=g:=λl d=>by obtain⟨e,_,rfl⟩:=Go.Conc.mem_ofEvents d;rfl
 have aa:∀i a b,touchAt t i=some a->blk a.loc=some b->b<n:=by intro i a b p r;have⟨l,d,P⟩:=touch_of p;exact Cp (h.low l (mem_of_getElem? d)) P r
 have ab:∀{i:Nat} {l:MemOp},(t++MemOp.ofEvents g fn pos w)[i]? =some l->t.size<=i->∃e,w[i-t.size]? =some e/\l.act=.ofEvent e/\l.g=g:=by grind [Array.getElem?_append_right,ofEvents_eq,Option.map_eq_some_iff]
 have F:∀i a,touchAt (t++MemOp.ofEvents g fn pos w) i=some a->(i<t.size/\touchAt t i=some a)\/(t.size<=i/\∃l e,(t++MemOp.ofEvents g fn pos w)[i]? =some l/\l.g=g/\w[i-t.size]? =some e/\(MemAct.ofEvent e).touch?=some a):=by intro i a p;have⟨l,d,P⟩:=touch_of p;grind [Nat.lt_or_ge,touchAt_old]
 have Q:∀{i l},(t++MemOp.ofEvents g fn pos w)[i]? =some l->l.g=g->Knows (t++MemOp.ofEvents g fn pos w) g i:=by grind [knows_own]
 refine⟨by have:=h.len;simp[Gh.grow];omega,λR=>noRace_append (h.clean R) X λi a p l d b r K=>?_,λi a E b p r s=>?_,λi a E b p r A o=>?_,λi a b p r o=>?_,λi a E p hm L B=>?_,λl d=>?_⟩;obtain⟨e,M,rfl⟩:=Go.Conc.mem_ofEvents d;have⟨j,C⟩:=Array.mem_iff_getElem?.1 M;have⟨k,hk,c⟩:=(O j e C).1 b r (K.1▸K.2.1);have H:blk a.loc=some k:=by rw[K.1];grind
 obtain⟨hp,s|⟨A,o⟩|I⟩|⟨D,o,hu,_⟩|⟨D,o,hu,hs⟩:=c;exact h.own i a g k p H s;refine h.rd i a g k p H A ?_;obtain x|x:=K.2.2.1;grind;grind;grind;obtain N|⟨N,_⟩|S:=h.wg i a k p H o;obtain x|x|⟨_,x,_⟩:=K.2.2.2;grind;grind;grind;obtain x|x|⟨_,_,x⟩:=K.2.2.2;grind;grind;grind;grind;obtain N|⟨N,S⟩|S:=h.wg i a k p H o;obtain x|x|⟨_,x,_⟩:=K.2.2.2;grind;grind;grind;grind;grind;obtain⟨_,f⟩|⟨_,l,e,d,J,C,q⟩:=F i a p;obtain s|s:=s;exact(h.own i a E b f r s).app _;grind;have hk:=Q d J;have⟨T,U,c⟩:=(O _ e C).1 a q (oJ r);obtain rfl:b=T:=cK;obtain s|s:=s;obtain⟨_,v|⟨A,_⟩|I⟩|⟨_,o,_⟩|⟨_,o,_⟩:=c;rw[u.one E g b s v];grind;exact absurd A (u.still _ _ _ s);have:=u.own _ _ s;omega;exact absurd o (u.ownwg _ _ s);exact absurd o (u.ownwg _ _ s);grind;obtain⟨_,f⟩|⟨_,l,e,d,J,C,q⟩:=F i a p;exact(h.rd i a E b f r A o).app _;have⟨T,U,c⟩:=(O _ e C).1 a q (oJ r);obtain rfl:b=T:=cK;obtain⟨_,v|⟨_,D⟩|I⟩|⟨_,D,_⟩|⟨_,D,_⟩:=c;exact absurd A (u.still _ _ _ v);grind;have:=u.rd _ _ A;omega;exact absurd D (u.rdwg _ _ A);exact absurd D (u.rdwg _ _ A);obtain⟨_,f⟩|⟨_,l,e,d,J,C,q⟩:=F i a p;exact(h.wg i a b f r o).imp id (Or.imp (λ⟨x,y⟩=>⟨x,y.app _⟩) λx g X=>(x g X).app _);have⟨T,U,c⟩:=(O _ e C).1 a q (oJ r);obtain rfl:b=T:=cK;obtain⟨_,v|⟨A,_⟩|I⟩|⟨D,_,_,_⟩|⟨D,_,_,hs⟩:=c;exact absurd o (u.ownwg _ _ v);exact absurd o (u.rdwg _ _ A);have:=u.wg _ o;omega;grind;refine .inr (.inl ⟨D,?_⟩);show Knows _ G.sayer i;grind;obtain⟨Y,f⟩|⟨Y,l,e,d,J,C,q⟩:=F i a p;rw[g?_old Y]at L;obtain x|⟨x,y,z⟩:=h.told i a E f hm L B;exact .inl (x.app _);exact .inr ⟨x,y,λhh=>z ((heard_old Y).1 hh)⟩;have e1:E=g:=by simp only[Trace.g?,d,mn,iO]at L;grind
 subst e1;have B:G.done E:=B.resolve_right (by have:=h.len;show¬i<G.t0;omega);have⟨_,k2,k3,k4⟩:=u.done E B;have⟨b,r,c⟩:=(O _ e C).1 a q hm;obtain⟨_,v|⟨A,_⟩|I⟩|⟨D,o,_,V⟩|⟨_,_,_,hs⟩:=c;grind;grind;grind;have V:=V B;refine .inr ⟨D,⟨b,r,.inl o⟩,?_⟩;rintro⟨g2,ac,h0⟩;have e2:g2=E:=by grind
 subst e2;have Z:i-t.size<w.size:=cK;have:=deaf_inside t g2 fn pos w (i-t.size) (Nat.le_of_lt Z);grind;grind;obtain d|d:=Fq.1 d;exact MemAct.low_mono W (h.low l d);obtain⟨e,M,rfl⟩:=Go.Conc.mem_ofEvents d;have⟨j,C⟩:=Array.mem_iff_getElem?.1 M;exact(O j e C).2
def gG.mute{G:Gh}{t u:Trace}(h:gG G m t)(B:∀d∈u,d.act.touch?=none)(C:∀d∈u,d.act.low m)(q:∀f,¬Race f (t++u)):gG G m (t++u):=by
 have n:∀i a,touchAt (t++u) i=some a->i<t.size/\touchAt t i=some a:=by intro i a e;have⟨d,c,r⟩:=touch_of e;grind [getElem?_append_cases,touchAt_of]
 refine⟨by have:=h.len;grind,q,λi a o b e j k=>(h.own i a o b cK j k).app _,λi a o b e j k w=>(h.rd i a o b cK j k w).app _,λi a b e j k=>(h.wg i a b cK j k).imp id (Or.imp (λ⟨x,y⟩=>⟨x,y.app _⟩) λx g l=>(x g l).app _),
  λi a g e s l v=>?_,λd c=>?_⟩
 have⟨A,p⟩:=n i a e;rw[g?_old A]at l;obtain x|⟨x,y,z⟩:=h.told i a g p s l v;exact .inl (x.app _);grind [heard_old];obtain c|c:=Fq.1 c;exact h.low d c;grind
theorem yf{t:Trace}:∀(l:List MemOp),(∀d∈l,d.act.touch?=none)->(∀c,¬Race c t)->∀c,¬Race c (t++l.toArray)
 |[],_,h=>cK
 |y::l,j,h=>by have e:t++(y::l).toArray=(t++#[y])++l.toArray:=cK;rw[e];refine yf l (λd f=>j d cK) λc=>noRace_append (g:=y.g) (h c) (λd f=>cK) λi a _ d f b k _=>?_;grind
def gG.Kj{G:Gh}{t u:Trace}(h:gG G m t)(c:∀b∈u,b.act.touch?=none)(d:∀b∈u,b.act.low m):gG G m (t++u):=by refine h.mute c d λa=>?_;have:=yf (t:=t) u.toList cK h.clean a;omega
def gG.FH{G c:Gh}{t:Trace}(h:gG G m t) (e:∀g b,c.own g b->∀i a,touchAt t i=some a->blk a.loc=some b->Knows t g i) (f:∀g b,c.rd g b->∀i a,touchAt t i=some a->blk a.loc=some b->a.write=true->Knows t g i) (j:∀b,c.wg b->∀i a,touchAt t i=some a->blk a.loc=some b->a.kind=.atomic\/(a.kind=.said/\Knows t c.sayer i)\/∀g,c.user g->Knows t g i) (d:c.t0=G.t0)(k:∀g i,c.done g\/i<c.t0->∀a,touchAt t i=some a->a.loc.isMemory=true->t.g? i=some g->Knows t 0 i\/(a.kind=.atomic/\(∃b,blk a.loc=some b/\(c.wg b\/c.x b))/\¬t.heard i)):gG c m t:=
 ⟨d▸h.len,h.clean,cK,cK,cK,cK,h.low⟩
def gG.begin{n m0:Nat}{t:Trace}(h:Past (pE A) n t){rd0:dn}(e:∀b,rd0 b->¬A b):
 gG {own:=λ_ _=>False,rd:=λg b=>g=0/\rd0 b,wg:=λ_=>False,user:=λg=>g=0,sayer:=0,x:=A,done:=λg=>g≠0/\g<m0,t0:=t.size} n t:=by
 refine⟨dg _,h.clean,cK,λi a g b d c k w=>?_,cK,λi a g d f m B=>?_,h.seen⟩;obtain⟨rfl,p⟩:=k;obtain x|⟨x,_⟩:=h.known i a d (oJ c);grind;exfalso;refine e b p ?_;revert c x;cases a.loc<;>simp_all[blk,pE];obtain x|⟨x,y⟩:=h.known i a d f;grind;by_cases q:g=0;have⟨C,r,s⟩:=iC.1 m;grind [knows_own];by_cases o:t.heard i;have⟨j,u,c⟩:=h.over i g m q ⟨a,d,f,.inr o⟩;have⟨z,v,l⟩:=iC.1 u;exact .inl ⟨j,z,v,l,.inr c⟩;have⟨b,c⟩:=IC f;refine .inr ⟨y,⟨b,c,.inr ?_⟩,o⟩;revert c x;cases a.loc<;>simp_all[blk,pE]<;>(grind)
def gG.past{G:Gh}{t:Trace}(h:gG G m t)(c:∀i g,t.g? i=some g->g=0\/G.done g\/i<G.t0)(o:Deaf t 0=0):Past (pE λb=>G.wg b\/G.x b) m t:=by
 refine⟨h.clean,λi a k e=>?_,λi g d f p=>?_,o,h.low⟩;have⟨l,j,r⟩:=touch_of k;have d:t.g? i=some l.g:=by simp[Trace.g?,j]
 obtain x|x:=c i _ d;grind [knows_own];obtain y|⟨y,⟨b,s,B⟩,_⟩:=h.told i a l.g k e d x;grind;refine .inr ⟨?_,y⟩;revert s;cases a.loc<;>simp_all[blk,pE];have⟨x,u,e,C⟩:=p;have v:=(c i g d).resolve_left f;obtain⟨q,z,w,A,n⟩|⟨y,_,z⟩:=h.told i x g u e d v;refine⟨q,by simp[Trace.g?,w,A],?_⟩;obtain rfl|n:=n;grind [Option.some.injEq,Trace.g?];grind;grind
end Go.dz.Kn
namespace Go.dz
inductive WT.Sub:WT->WT->Prop
 |mk (f:cI->WT) (w:cI):WT.Sub (f w) (.node f)
def WT.acc(a:WT):Acc WT.Sub a:=by
 induction a with
 |leaf=>exact⟨_,λy h=>by cases h⟩
 |node f b=>exact⟨_,λy h=>by cases h with|mk f w=>exact b w⟩
def WT.num:Nat->WT
 |0=>.leaf
 |n+1=>.node λ_=>WT.num n
def WT.Kk(n:Nat):WT.Sub (WT.num n) (WT.num (n+1)):=WT.Sub.mk (λ_=>WT.num n) (default:cI)
def RP(k:Nat)(f g:Nat->WT):Prop:=∃i,i<k/\WT.Sub (f i) (g i)/\∀j,j<k->j≠i->f j=g j
theorem vV(k:Nat):∀f:Nat->WT,Acc (RP k) f:=by
 induction k with
 |zero=>exactλf=>⟨_,λg ⟨i,h,_⟩=>absurd h (Nat.not_lt_zero i)⟩
 |succ k vV=>
  intro f;have c:∀b,Acc WT.Sub b->∀f:Nat->WT,Acc (RP k) f->f k=b->Acc (RP (k+1)) f:=by
   intro b d;induction d with
   |intro b _ a=>
    intro f q;induction q with
    |intro f _ l=>
     intro n;refine⟨_,λg ⟨i,r,o,p⟩=>?_⟩;by_cases e:i=k;subst e;exact a (g i) (by rw[<-n];exact o) g (vV g) rfl;exact l g ⟨i,cL,o,λj s m=>p j cL m⟩ (by rw[p k cL (λh=>e h.symm)];exact n)
  exact c (f k) (WT.acc _) f (vV f) rfl
structure Mu where
 a:Nat
 k:Nat
 f:Nat->WT
 b:Nat
inductive Mu.Lt:Mu->Mu->Prop
 |a {x y:Mu} (h:x.a<y.a):Mu.Lt x y
 |f {x y:Mu} (h1:x.a=y.a) (h2:x.k=y.k) (h:RP y.k x.f y.f):Mu.Lt x y
 |b {x y:Mu} (h1:x.a=y.a) (h2:x.k=y.k) (h3:x.f=y.f) (h:x.b<y.b):Mu.Lt x y
def Mu.wf:WellFounded Mu.Lt:=by
 have c:∀(a:Nat) (k:Nat) (f:Nat->WT) (b:Nat),Acc Mu.Lt ⟨a,k,f,b⟩:=by
  intro a;induction a using Nat.strongRecOn with
  |ind a d=>
   intro k f;induction vV k f with
   |intro f _ e=>
    intro b;induction b using Nat.strongRecOn with
    |ind b g=>
     refine⟨_,λy h=>?_⟩;have⟨n,o,m,i⟩:=y;cases h with
     |a h=>exact d n h o m i
     |f j l h=>cases j;cases l;exact e m h i
     |b j l p h=>cases j;cases l;cases p;exact g i h
 exact⟨λ⟨a,k,f,b⟩=>c a k f b⟩
end Go.dz
namespace Go.dz.Cr
open Go.Conc Go.dz Go.dz.Kn
open Go.ConcR (KK wgBlock WgAt stA smA mk)
open Go.ConcN (sumTo upd sumTo_upd upd_ne upd_same sumTo_congr le_sumTo sumTo_le)
abbrev iT:=(Nat->Prop)->cP->cI->Prop
abbrev dp:Nat->Prop:=λ_=>False
def Lv(ty:cQ)(Wg:Nat)(w:cI):Prop:=∃a b,WgAt ty Wg w a b
section
variable(P:cU)(ty:cQ)(Wg Ch n:Nat)(rd:Nat->Prop)(val:Nat->cJ->(Nat->Prop)->cI->Prop)
def Wy(a:Bool)(rd:dn)(S:iT):iT:=λown g w=>∃τ,Way P a rd (Lv ty Wg) S τ own g w
def rB(a:Bool)(m:Mark)(b:iT):iT:=λown g w=>g.status=.running/\∃c,stepG P a g w=.go c w #[mk m]/\b own c w
def Sl(S:cP->dB):cP->dB:=λg w=>∃m,Goes P false (eP dp dp (Lv ty Wg)) ConcR.DC0 S m g w
def D4:cP->dB:=λg w=>g.status=.running/\mayWake P g=true/\(WgAt ty Wg w 0 0->∃a,stepG P false g w=.go a (w.setCell (smA Wg) (.int .u32 1)) (semEvents (smA Wg))/\∃q,QuitsD P q 1 a)
def D3:cP->dB:=λg w=>g.status=.running/\(WgAt ty Wg w 1 0->∃a,stepG P false g w=.go a (w.setCell (stA Wg) (.int .u64 0)) #[ConcR.wr (stA Wg)]/\Sl P ty Wg (D4 P ty Wg) a (w.setCell (stA Wg) (.int .u64 0)))
def D2:cP->dB:=λg w=>g.status=.running/\(WgAt ty Wg w 1 0->∃a,stepG P false g w=.go a w #[ConcR.rd (stA Wg)]/\Sl P ty Wg (D3 P ty Wg) a w)
def D1:cP->dB:=λg w=>g.status=.running/\∀v a:Nat,a<=1->v<2147483647->WgAt ty Wg w ((v+1)*KK+a) 0->
 ∃b,stepG P false g w=.go b (w.setCell (stA Wg) (.int .u64 (v*KK+a))) #[ConcR.rd (stA Wg),ConcR.wr (stA Wg)]/\((v=0/\a=1)->Sl P ty Wg (D2 P ty Wg) b (w.setCell (stA Wg) (.int .u64 (v*KK+a))))/\(¬(v=0/\a=1)->∃q,QuitsD P q 1 b)
def K1:cP->dB:=λg w=>g.status=.running/\∃a,stepG P false g w=.go a w #[mk .disable]/\Sl P ty Wg (D1 P ty Wg) a w
def R0:cP->dB:=λg w=>g.status=.running/\∃a,stepG P false g w=.go a w #[mk (.releaseMerge (stA Wg))]/\Sl P ty Wg (K1 P ty Wg) a w
def AtSend(i:Nat)(v z:cJ):iT:=λown g w=>g.status=.running/\(∀w,stepG P false g w=.comm g #[scase Ch v z] true .send w #[])/\val i v own w/\Sl P ty Wg (R0 P ty Wg) (Conc.served g undef) w
def Sends(i:Nat):iT:=λown g w=>∃v z,AtSend P ty Wg Ch val i v z own g w
def VX:iT:=λ_ g w=>g.status=.running/\mayWake P g=true/\∃a,a.status=.running/\(∀s r,w.heap[Ch]? =some (.chan 0 #[] false s r false)->stepG P false g w=.go a (w.setChan Ch 0 #[] true s r false) #[⟨.obj Ch,false,true⟩,⟨.obj Ch,true,true⟩])/\∃q,QuitsD P q 0 a
def YA(a:dn):iT:=rB P false (.acquire (stA Wg)) (Wy P ty Wg false a (VX P Ch))
def Xl(a:dn):iT:=rB P false .enable (Wy P ty Wg false a (YA P ty Wg Ch a))
def YB(a:dn):iT:=λown g w=>g.status=.running/\(WgAt ty Wg w 0 0->∃b,stepG P false g w=.go b w #[ConcR.rd (stA Wg)]/\Wy P ty Wg false a (Xl P ty Wg Ch a) own b w)
def Wn(a:dn):iT:=λown g w=>g.status=.running/\g.offers=none/\
 ((∃c,WgAt ty Wg w c 0)->stepG P false g w=.go {g with status:=.blocked} w #[])/\
 (WgAt ty Wg w 0 1->∃b,stepG P false g w=.go b (w.setCell (smA Wg) (.int .u32 0)) (semEvents (smA Wg))/\Wy P ty Wg false a (YB P ty Wg Ch a) own b (w.setCell (smA Wg) (.int .u32 0)))
def YC(a:dn):iT:=rB P false (.write (smA Wg)) (Wy P ty Wg false a (Wn P ty Wg Ch a))
def YD(c:dn)(a:iT)(d:Nat):iT:=λown g w=>g.status=.running/\∀v:Nat,v<2147483648->WgAt ty Wg w (v*KK) 0->
 (v=d->∃b,stepG P false g w=.go b (w.setCell (stA Wg) (.int .u64 (v*KK+1))) #[ConcR.rd (stA Wg),ConcR.wr (stA Wg)]/\Wy P ty Wg false c (YC P ty Wg Ch c) own b (w.setCell (stA Wg) (.int .u64 (v*KK+1))))/\(v≠d->∃b,stepG P false g w=.go b w #[ConcR.rd (stA Wg)]/\Wy P ty Wg false c a own b w)
def YE(b:dn)(a:iT):iT:=λown g w=>g.status=.running/\∀v:Nat,v<2147483648->WgAt ty Wg w (v*KK) 0->∃c,stepG P false g w=.go c w #[ConcR.rd (stA Wg)]/\
 (v=0->Wy P ty Wg false b (Xl P ty Wg Ch b) own c w)/\(v≠0->Wy P ty Wg false b (YD P ty Wg Ch b a v) own c w)
def Xm(b:dn)(a:iT):iT:=rB P false .disable (Wy P ty Wg false b a)
structure Anchor(rc:Nat->Prop)(sY:iT):Prop where
 walk:∀own g w,sY own g w->Wy P ty Wg false rc (YE P ty Wg Ch rc sY) own g w
def OC(b:dn):iT:=λown g w=>∃a,Anchor P ty Wg Ch b a/\Wy P ty Wg false b (Xm P ty Wg b a) own g w
def U2(End:iT)(z:cJ):iT:=λown g w=>g.status=.running/\(∀w,stepG P true g w=.comm g #[rcase Ch z] true (.recv true) w #[])/\End own (Conc.served g (.tuple #[z,.bool false])) w
def U3(z:cJ)(c:Nat->iT)(S:Nat->Bool):iT:=λown g w=>g.status=.running/\(∀w,stepG P true g w=.comm g #[rcase Ch z] true (.recv true) w #[])/\
 ∀i v a,i<n->S i=false->val i v a w->(∀b,a b->¬own b)->c i (λb=>own b\/a b) (Conc.served g (.tuple #[v,.bool true])) w
def pF(End:iT)(z:cJ):Nat->(Nat->Bool)->iT
 |0,_=>U2 P Ch End z
 |r+1,S=>U3 P Ch n val z (λi=>Wy P ty Wg true rd (pF End z r (upd S i true))) S
def OD(End:iT):iT:=λown g w=>g.status=.running/\∃(c child:cP) (a:dn) (z:cJ),stepG P true g w=.spawn c child w #[]/\child.status=.running/\(∀b,a b->own b)/\
 OC P ty Wg Ch (λb=>rd b\/a b) dp child w/\Wy P ty Wg true rd (pF P ty Wg Ch n rd val End z n (λ_=>false)) (λb=>own b/\¬a b) c w
def Xn(i:Nat)(c:iT):iT:=λown g w=>g.status=.running/\∃(d child:cP) (a:dn),stepG P true g w=.spawn d child w #[]/\child.status=.running/\(∀b,a b->own b)/\
 Wy P ty Wg false (λb=>rd b\/a b) (Sends P ty Wg Ch val i) dp child w/\c (λb=>own b/\¬a b) d w
def Xo(i:Nat)(a:iT):iT:=rB P true .enable (Wy P ty Wg true rd (Xn P ty Wg Ch rd val i a))
def YF(i:Nat)(a:iT):iT:=rB P true (.read (smA Wg)) (Wy P ty Wg true rd (Xo P ty Wg Ch rd val i a))
def YG(i:Nat)(a:iT):iT:=λown g w=>g.status=.running/\∀v:Nat,v<2147483647->WgAt ty Wg w (v*KK) 0->
 ∃b,stepG P true g w=.go b (w.setCell (stA Wg) (.int .u64 ((v+1)*KK))) #[ConcR.rd (stA Wg),ConcR.wr (stA Wg)]/\(v=0->Wy P ty Wg true rd (YF P ty Wg Ch rd val i a) own b (w.setCell (stA Wg) (.int .u64 ((v+1)*KK))))/\(v≠0->Wy P ty Wg true rd (Xo P ty Wg Ch rd val i a) own b (w.setCell (stA Wg) (.int .u64 ((v+1)*KK))))
def Wo(i:Nat)(a:iT):iT:=rB P true .disable (Wy P ty Wg true rd (YG P ty Wg Ch rd val i a))
def qe(End:iT):Nat->iT
 |0=>Wy P ty Wg true rd (OD P ty Wg Ch n rd val End)
 |r+1=>Wy P ty Wg true rd (Wo P ty Wg Ch rd val (n-(r+1)) (qe End r))
end
inductive CT where
 |kd|w1|w2 (vs:Nat)|sw|w3|blk|w4|ke|ac|cl|quit
inductive eQ where
 |none
 |old
 |st (r s:Nat)
 |uF
 |rc (r:Nat) (S:Nat->Bool) (s:Nat)
 |wk (i s:Nat)
 |cl (c:CT)
section
variable(P:cU)(ty:cQ)(Wg Ch n:Nat)(rd0:Nat->Prop)(val:Nat->cJ->(Nat->Prop)->cI->Prop)(End:iT)
inductive mI:eQ->WT->Nat->(Nat->Prop)->(Nat->Prop)->cP->cI->Prop
 |old {q d:Nat} {own rd:Nat->Prop} {g:cP} {w:cI} (h:QuitsD P q d g):mI .old (.num q) d own rd g w
 |skd {r:Nat} {τ:WT} {own:Nat->Prop} {g:cP} {w:cI} (hr:r<n) (h:Way P true rd0 (Lv ty Wg) (Wo P ty Wg Ch rd0 val (n-(r+1)) (qe P ty Wg Ch n rd0 val End r)) τ own g w):mI (.st r 6) τ 0 own rd0 g w
 |sa1 {r:Nat} {τ:WT} {own:Nat->Prop} {g:cP} {w:cI} (hr:r<n) (h:Way P true rd0 (Lv ty Wg) (YG P ty Wg Ch rd0 val (n-(r+1)) (qe P ty Wg Ch n rd0 val End r)) τ own g w):mI (.st r 5) τ 1 own rd0 g w
 |Ua {r:Nat} {τ:WT} {own:Nat->Prop} {g:cP} {w:cI} (hr:r<n) (h:Way P true rd0 (Lv ty Wg) (YF P ty Wg Ch rd0 val (n-(r+1)) (qe P ty Wg Ch n rd0 val End r)) τ own g w):mI (.st r 4) τ 1 own rd0 g w
 |ske {r:Nat} {τ:WT} {own:Nat->Prop} {g:cP} {w:cI} (hr:r<n) (h:Way P true rd0 (Lv ty Wg) (Xo P ty Wg Ch rd0 val (n-(r+1)) (qe P ty Wg Ch n rd0 val End r)) τ own g w):mI (.st r 3) τ 1 own rd0 g w
 |sgo {r:Nat} {τ:WT} {own:Nat->Prop} {g:cP} {w:cI} (hr:r<n) (h:Way P true rd0 (Lv ty Wg) (Xn P ty Wg Ch rd0 val (n-(r+1)) (qe P ty Wg Ch n rd0 val End r)) τ own g w):mI (.st r 2) τ 0 own rd0 g w
 |RQ {τ:WT} {own:Nat->Prop} {g:cP} {w:cI} (h:Way P true rd0 (Lv ty Wg) (OD P ty Wg Ch n rd0 val End) τ own g w):mI .uF τ 0 own rd0 g w
 |src {r:Nat} {S:Nat->Bool} {z:cJ} {τ:WT} {own:Nat->Prop} {g:cP} {w:cI} (h:Way P true rd0 (Lv ty Wg) (pF P ty Wg Ch n rd0 val End z r S) τ own g w):mI (.rc r S 2) τ 0 own rd0 g w
 |N7 {r:Nat} {S:Nat->Bool} {z:cJ} {τ:WT} {own:Nat->Prop} {g:cP} {w:cI} (h:∀w1,eP own rd0 (Lv ty Wg) w w1->pF P ty Wg Ch n rd0 val End z r S own g w1):
  mI (.rc r S 1) τ 0 own rd0 (parked g #[rcase Ch z] (.recv true)) w
 |sup {S:Nat->Bool} {z:cJ} {τ:WT} {own:Nat->Prop} {g:cP} {w:cI} (h:∀w1,eP own rd0 (Lv ty Wg) w w1->pF P ty Wg Ch n rd0 val End z 0 S own g w1):
  mI (.rc 0 S 2) τ 0 own rd0 {parked g #[rcase Ch z] (.recv true)with status:=.running} w
 |RR {i:Nat} {τ:WT} {own rd:Nat->Prop} {g:cP} {w:cI} (h:Way P false rd (Lv ty Wg) (Sends P ty Wg Ch val i) τ own g w):mI (.wk i 9) τ 0 own rd g w
 |u4 {i:Nat} {v z:cJ} {τ:WT} {own rd:Nat->Prop} {g:cP} {w:cI} (h:∀w1,eP own rd (Lv ty Wg) w w1->AtSend P ty Wg Ch val i v z own g w1):
  mI (.wk i 8) τ 0 own rd (parked g #[scase Ch v z] .send) w
 |r0 {i m:Nat} {own rd:Nat->Prop} {g:cP} {w:cI} (h:Goes P false (eP dp dp (Lv ty Wg)) ConcR.DC0 (R0 P ty Wg) m g w):mI (.wk i 7) (.num m) 0 own rd g w
 |k1 {i m:Nat} {own rd:Nat->Prop} {g:cP} {w:cI} (h:Goes P false (eP dp dp (Lv ty Wg)) ConcR.DC0 (K1 P ty Wg) m g w):mI (.wk i 6) (.num m) 0 own rd g w
 |d1 {i m:Nat} {own rd:Nat->Prop} {g:cP} {w:cI} (h:Goes P false (eP dp dp (Lv ty Wg)) ConcR.DC0 (D1 P ty Wg) m g w):mI (.wk i 5) (.num m) 1 own rd g w
 |d2 {i m:Nat} {own rd:Nat->Prop} {g:cP} {w:cI} (h:Goes P false (eP dp dp (Lv ty Wg)) ConcR.DC0 (D2 P ty Wg) m g w):mI (.wk i 4) (.num m) 1 own rd g w
 |d3 {i m:Nat} {own rd:Nat->Prop} {g:cP} {w:cI} (h:Goes P false (eP dp dp (Lv ty Wg)) ConcR.DC0 (D3 P ty Wg) m g w):mI (.wk i 3) (.num m) 1 own rd g w
 |d4 {i m:Nat} {own rd:Nat->Prop} {g:cP} {w:cI} (h:Goes P false (eP dp dp (Lv ty Wg)) ConcR.DC0 (D4 P ty Wg) m g w):mI (.wk i 2) (.num m) 1 own rd g w
 |quit {i q d:Nat} {own rd:Nat->Prop} {g:cP} {w:cI} (h:QuitsD P q d g):mI (.wk i 1) (.num q) d own rd g w
 |Ub {τ:WT} {own rd:Nat->Prop} {sY:iT} {g:cP} {w:cI} (hA:Anchor P ty Wg Ch rd sY) (h:Way P false rd (Lv ty Wg) (Xm P ty Wg rd sY) τ own g w):mI (.cl .kd) τ 0 own rd g w
 |RS {τ:WT} {own rd:Nat->Prop} {sY:iT} {g:cP} {w:cI} (hA:Anchor P ty Wg Ch rd sY) (h:Way P false rd (Lv ty Wg) (YE P ty Wg Ch rd sY) τ own g w):mI (.cl .w1) τ 1 own rd g w
 |Uc {τ:WT} {own rd:Nat->Prop} {sY:iT} {vs:Nat} {g:cP} {w:cI} (hA:Anchor P ty Wg Ch rd sY) (h:Way P false rd (Lv ty Wg) (YD P ty Wg Ch rd sY vs) τ own g w):mI (.cl (.w2 vs)) τ 1 own rd g w
 |Ud {τ:WT} {own rd:Nat->Prop} {g:cP} {w:cI} (h:Way P false rd (Lv ty Wg) (YC P ty Wg Ch rd) τ own g w):mI (.cl .sw) τ 1 own rd g w
 |RU {τ:WT} {own rd:Nat->Prop} {g:cP} {w:cI} (h:Way P false rd (Lv ty Wg) (Wn P ty Wg Ch rd) τ own g w):mI (.cl .w3) τ 1 own rd g w
 |RV {τ:WT} {own rd:Nat->Prop} {g:cP} {w:cI} (h:∀w1,eP own rd (Lv ty Wg) w w1->Wn P ty Wg Ch rd own g w1):mI (.cl .blk) τ 1 own rd {g with status:=.blocked} w
 |Ue {τ:WT} {own rd:Nat->Prop} {g:cP} {w:cI} (h:Way P false rd (Lv ty Wg) (YB P ty Wg Ch rd) τ own g w):mI (.cl .w4) τ 1 own rd g w
 |RX {τ:WT} {own rd:Nat->Prop} {g:cP} {w:cI} (h:Way P false rd (Lv ty Wg) (Xl P ty Wg Ch rd) τ own g w):mI (.cl .ke) τ 1 own rd g w
 |Uf {τ:WT} {own rd:Nat->Prop} {g:cP} {w:cI} (h:Way P false rd (Lv ty Wg) (YA P ty Wg Ch rd) τ own g w):mI (.cl .ac) τ 0 own rd g w
 |Ug {τ:WT} {own rd:Nat->Prop} {g:cP} {w:cI} (h:Way P false rd (Lv ty Wg) (VX P Ch) τ own g w):mI (.cl .cl) τ 0 own rd g w
 |Rw {q d:Nat} {own rd:Nat->Prop} {g:cP} {w:cI} (h:QuitsD P q d g):mI (.cl .quit) (.num q) d own rd g w
end
section
variable{P:cU}{ty:cQ}{Wg Ch n:Nat}{rd0:Nat->Prop}{val:Nat->cJ->(Nat->Prop)->cI->Prop}{End:iT}{ro:eQ}{τ:WT}{d:Nat}{own rd:Nat->Prop}{g:cP}{w w1:cI}
theorem _root_.Go.dz.eP.none{own rd:dn}{L:dB}{w w1:cI}(h:eP own rd L w w1):eP dp dp L w w1:=⟨h.tape,h.os,h.output,h.size,cK,h.live⟩
theorem mI.rely(h:mI P ty Wg Ch n rd0 val End ro τ d own rd g w)(c:eP own rd (Lv ty Wg) w w1):mI P ty Wg Ch n rd0 val End ro τ d own rd g w1:=by
 cases h with
 |old h=>exact .old h
 |skd e h=>exact .skd e (h.rely c)
 |sa1 e h=>exact .sa1 e (h.rely c)
 |Ua e h=>exact .Ua e (h.rely c)
 |ske e h=>exact .ske e (h.rely c)
 |sgo e h=>exact .sgo e (h.rely c)
 |RQ h=>exact .RQ (h.rely c)
 |src h=>exact .src (h.rely c)
 |N7 h=>exact .N7 λf i=>h f (c.trans i)
 |sup h=>exact .sup λf i=>h f (c.trans i)
 |RR h=>exact .RR (h.rely c)
 |u4 h=>exact .u4 λf i=>h f (c.trans i)
 |r0 h=>exact .r0 (Goes.rely (λ_ _ _ a b=>a.trans b) h c.none)
 |k1 h=>exact .k1 (Goes.rely (λ_ _ _ a b=>a.trans b) h c.none)
 |d1 h=>exact .d1 (Goes.rely (λ_ _ _ a b=>a.trans b) h c.none)
 |d2 h=>exact .d2 (Goes.rely (λ_ _ _ a b=>a.trans b) h c.none)
 |d3 h=>exact .d3 (Goes.rely (λ_ _ _ a b=>a.trans b) h c.none)
 |d4 h=>exact .d4 (Goes.rely (λ_ _ _ a b=>a.trans b) h c.none)
 |quit h=>exact .quit h
 |Ub j h=>exact .Ub j (h.rely c)
 |RS j h=>exact .RS j (h.rely c)
 |Uc j h=>exact .Uc j (h.rely c)
 |Ud h=>exact .Ud (h.rely c)
 |RU h=>exact .RU (h.rely c)
 |RV h=>exact .RV λf i=>h f (c.trans i)
 |Ue h=>exact .Ue (h.rely c)
 |RX h=>exact .RX (h.rely c)
 |Uf h=>exact .Uf (h.rely c)
 |Ug h=>exact .Ug (h.rely c)
 |Rw h=>exact .Rw h
end
theorem Way.running{P:cU}{a:Bool}{rd:dn}{L:dB}{S:iT}{τ:WT}{own:dn}{g:cP}{w:cI}(b:∀own g w,S own g w->g.status=.running)(h:Way P a rd L S τ own g w):g.status=.running:=by
 cases h with
 |here h=>exact b _ _ _ (h w (.refl _ _ _ _))
 |step c _ _=>grind
section
variable{P:cU}{ty:cQ}{Wg Ch n:Nat}{rd0:Nat->Prop}{val:Nat->cJ->(Nat->Prop)->cI->Prop}{End:iT}
theorem j8{z:cJ}{S:Nat->Bool}:∀{r:Nat} {own:dn} {g:cP} {w:cI},pF P ty Wg Ch n rd0 val End z r S own g w->g.status=.running/\∀w,stepG P true g w=.comm g #[rcase Ch z] true (.recv true) w #[]
 |0,_,_,_,h=>⟨h.1,h.2.1⟩
 |_+1,_,_,_,h=>⟨h.1,h.2.1⟩
def eQ.idle:eQ->Prop
 | .old| .rc _ _ 1| .wk _ 8| .wk _ 1| .cl .blk| .cl .quit=>True
 |_=>False
variable{ro:eQ}{τ:WT}{d:Nat}{own rd:Nat->Prop}{g:cP}{w w1:cI}
theorem mI.running(h:mI P ty Wg Ch n rd0 val End ro τ d own rd g w):g.status=.running\/(ro.idle/\(g.status=.blocked\/g.status=.finished)):=by
 cases h with
 |old h=>exact h.status.elim .inl λx=>.inr ⟨trivial,.inr x⟩
 |skd _ h=>exact .inl (Way.running (λ_ _ _ x=>x.1) h)
 |sa1 _ h=>exact .inl (Way.running (λ_ _ _ x=>x.1) h)
 |Ua _ h=>exact .inl (Way.running (λ_ _ _ x=>x.1) h)
 |ske _ h=>exact .inl (Way.running (λ_ _ _ x=>x.1) h)
 |sgo _ h=>exact .inl (Way.running (λ_ _ _ x=>x.1) h)
 |RQ h=>exact .inl (Way.running (λ_ _ _ x=>x.1) h)
 |src h=>grind [Way.running,j8]
 |N7 h=>exact .inr ⟨trivial,.inl rfl⟩
 |sup h=>grind
 |RR h=>exact .inl (Way.running (λ_ _ _ ⟨_,_,x⟩=>x.1) h)
 |u4 h=>exact .inr ⟨trivial,.inl rfl⟩
 |r0 h=>exact .inl (Goes.running (λ_ _ x=>x.1) w (.refl _ _ _ _) h)
 |k1 h=>exact .inl (Goes.running (λ_ _ x=>x.1) w (.refl _ _ _ _) h)
 |d1 h=>exact .inl (Goes.running (λ_ _ x=>x.1) w (.refl _ _ _ _) h)
 |d2 h=>exact .inl (Goes.running (λ_ _ x=>x.1) w (.refl _ _ _ _) h)
 |d3 h=>exact .inl (Goes.running (λ_ _ x=>x.1) w (.refl _ _ _ _) h)
 |d4 h=>exact .inl (Goes.running (λ_ _ x=>x.1) w (.refl _ _ _ _) h)
 |quit h=>exact h.status.elim .inl λx=>.inr ⟨trivial,.inr x⟩
 |Ub _ h=>exact .inl (Way.running (λ_ _ _ x=>x.1) h)
 |RS a h=>exact .inl (Way.running (λ_ _ _ x=>x.1) h)
 |Uc a h=>exact .inl (Way.running (λ_ _ _ x=>x.1) h)
 |Ud h=>exact .inl (Way.running (λ_ _ _ x=>x.1) h)
 |RU h=>exact .inl (Way.running (λ_ _ _ x=>x.1) h)
 |RV h=>exact .inr ⟨trivial,.inl rfl⟩
 |Ue h=>exact .inl (Way.running (λ_ _ _ x=>x.1) h)
 |RX h=>exact .inl (Way.running (λ_ _ _ x=>x.1) h)
 |Uf h=>exact .inl (Way.running (λ_ _ _ x=>x.1) h)
 |Ug h=>exact .inl (Way.running (λ_ _ _ x=>x.1) h)
 |Rw h=>exact h.status.elim .inl λx=>.inr ⟨trivial,.inr x⟩
def nZ(b:Bool):eQ->eQ
 | .cl .blk=>if b then .cl .w3 else .cl .blk
 |r=>r
def jF(P:cU)(g a:cP):Bool:=mayWake P g&&a.status != .blocked&&a.status != .waiting
theorem FJ(g a o:cP)(w':cI):woken P g a w' o=if jF P g a then o.again w' else o:=by unfold woken jF;rfl
theorem mI.again(h:mI P ty Wg Ch n rd0 val End ro τ d own rd g w)(b:Bool){s:Nat}{c:Bool}(k:w.heap[Ch]? =some (.chan 0 #[] c s s false))(m:c=true->(∀r S,ro≠ .rc r S 1)/\∀i,ro≠ .wk i 8):
 mI P ty Wg Ch n rd0 val End (nZ b ro) τ d own rd (if b then g.again w else g) w:=by
 cases b with
 |false=>
  simp only[iH,fj];have:nZ false ro=ro:=by grind [nZ]
  grind
 |true=>
  simp only[ej];have a:g.status=.running\/g.status=.finished->nZ true ro=ro->mI P ty Wg Ch n rd0 val End (nZ true ro) τ d own rd (g.again w) w:=λf e=>by grind [again_running]
  obtain f|⟨j,f⟩:=h.running;refine a (.inl f) ?_;cases h with
  |RV h=>grind
  |_=>rfl
  cases h with
  |old h=>exact a (.inr (f.resolve_left (by obtain x|x:=h.status<;>rw[x]<;>simp))) rfl
  |N7 h=>
   cases c with
   |true=>grind
   |false=>rw[again_recv_open k];exact .N7 h
  |u4 h=>
   cases c with
   |true=>grind
   |false=>rw[again_send_open k];exact .u4 h
  |quit h=>exact a (.inr (f.resolve_left (by obtain x|x:=h.status<;>rw[x]<;>simp))) rfl
  |RV h=>
   have l:=h w (.refl _ _ _ _);rw[Go.ConcR.again_blocked l.1 l.2.1];exact .RU (.here h)
  |Rw h=>exact a (.inr (f.resolve_left (by obtain x|x:=h.status<;>rw[x]<;>simp))) rfl
  |_=>exact j.elim
end
section
variable(P:cU)(ty:cQ)(Wg Ch n:Nat)(rd0:Nat->Prop)(val:Nat->cJ->(Nat->Prop)->cI->Prop)(End:iT)(w0:cI)(B0 m0:Nat)
structure Com(ro:Nat->eQ)(rk:Nat->WT)(dd:Nat->Nat)(G:Gh)(cl:Bool)(gs:Array cP)(w:cI)(t:Trace):Prop where
 sit:∀(k:Nat) (g:cP),gs[k]? =some g->mI P ty Wg Ch n rd0 val End (ro k) (rk k) (dd k) (G.own k) (G.rd k) g w
 kn:Kn.gG G w.heap.size t
 fits:G.Fits w.heap.size
 deaf:∀k,Deaf t k=dd k
 above:∀k,gs.size<=k->dd k=0
 wg:∀b,G.wg b↔b=Wg\/b=Ch
 off:∀k b,G.own k b\/G.rd k b->b≠Ch
 wgch:Wg≠Ch
 wglow:Wg<w.heap.size
 gsz:∀i k,G.t0<=i->t.g? i=some k->k<gs.size
 new:∀k b,G.own k b->B0<=b
 base:∀b,b<B0->b≠Wg->b≠Ch->w.heap[b]? =w0.heap[b]?
 grown:B0<=w.heap.size
 world:w.tape=w0.tape/\w.os=w0.os/\w.output=w0.output
 live:Lv ty Wg w
 ch:∃s,w.heap[Ch]? =some (.chan 0 #[] cl s s false)
end
section
variable{P:cU}{ty:cQ}{Wg Ch n:Nat}{rd0:Nat->Prop}{val:Nat->cJ->(Nat->Prop)->cI->Prop}{End:iT}{w0:cI}{B0 m0:Nat} {ro:Nat->eQ}{rk:Nat->WT}{dd:Nat->Nat}{G:Gh}{cl:Bool}{gs:Array cP}{w w':cI}{t:Trace}
structure zU(Wg:Nat)(own:Nat->Prop)(w w':cI):Prop where
 tape:w'.tape=w.tape
 os:w'.os=w.os
 output:w'.output=w.output
 size:w.heap.size<=w'.heap.size
 same:∀b,b<w.heap.size->¬own b->b≠Wg->w'.heap[b]? =w.heap[b]?
theorem Com.U4(h:Com P ty Wg Ch n rd0 val End w0 B0 ro rk dd G cl gs w t){k:Nat}(c:zU Wg (G.own k) w w')(g:Lv ty Wg w'){x:Nat}(e:x≠k):eP (G.own x) (G.rd x) (Lv ty Wg) w w':=by refine⟨c.tape,c.os,c.output,c.size,λb f a=>c.same b f (λd=>?_) ?_,cK⟩;obtain a|a:=a;exact e (h.fits.one _ _ _ a d);exact h.fits.still _ _ _ d a;rintro rfl;obtain a|a:=a;exact h.fits.ownwg _ _ a ((h.wg _).2 (.inl rfl));exact h.fits.rdwg _ _ a ((h.wg _).2 (.inl rfl))
theorem Com.go(h:Com P ty Wg Ch n rd0 val End w0 B0 ro rk dd G cl gs w t){k:Nat}{g p:cP}{j:Array Event}{r':eQ}{τ':WT}(T:gs[k]? =some g) (U:cl=true->∀x,x<gs.size->(∀r S,ro x≠ .rc r S 1)/\∀i,ro x≠ .wk i 8) (c:zU Wg (G.own k) w w')(B:Lv ty Wg w')(H:oI G k (dd k) w.heap.size w'.heap.size j)(C:G.done k->w'.heap.size=w.heap.size) (I:mI P ty Wg Ch n rd0 val End r' τ' (deafBehind (dd k) j) ((G.grow k w.heap.size w'.heap.size).own k) (G.rd k) p w'):
 Com P ty Wg Ch n rd0 val End w0 B0 (upd (λx=>nZ (jF P g p) (ro x)) k r') (upd rk k τ') (upd dd k (deafBehind (dd k) j)) (G.grow k w.heap.size w'.heap.size) cl
  ((gs.map (woken P g p w')).setIfInBounds k p) w' (t++MemOp.ofEvents k g.frame.fn g.frame.place j):=by
 have J:k<gs.size:=cK;have⟨s,u⟩:=h.ch;have d:w'.heap[Ch]? =some (.chan 0 #[] cl s s false):=by rw[c.same Ch (lt_of_heap u) (λx=>h.off k _ (.inl x) rfl) (jc h.wgch)];grind
 have K:∀v∈MemOp.ofEvents k g.frame.fn g.frame.place j,v.g=k:=λv f=>by obtain⟨e,_,rfl⟩:=Go.Conc.mem_ofEvents f;rfl
 refine⟨λx o q=>?_,h.kn.step h.fits c.size C (by rw[h.deaf];grind),h.fits.grow c.size k C,λx=>?_,λx D=>?_,h.wg,λx b a=>?_,h.wgch,ep h.wglow c.size,λi x L D=>?_,λx b a=>?_,λb a E M=>?_,dw h.grown c.size,
  ⟨c.tape.trans h.world.1,c.os.trans h.world.2.1,c.output.trans h.world.2.2⟩,B,⟨s,d⟩⟩
 by_cases e:x=k;subst e;rw[oz cK]at q;obtain rfl:=dQ q;rw[upd_same,upd_same,upd_same];exact I;rw[fZ (jc e),vP]at q;obtain⟨y,N,rfl⟩:=iC.1 q;rw[upd_ne _ _ e,upd_ne _ _ e,upd_ne _ _ e,FJ];have O:(G.grow k w.lH w'.lH).own x=G.own x:=by funext b;apply propext;exact⟨λa=>a.elim id cK,.inl⟩
 rw[O];exact((h.sit x y N).rely (h.U4 c B e)).again _ d cK;by_cases e:x=k;subst e;rw[Deaf_own,h.deaf,upd_same];rw[Deaf_other t (jc e) _ K,h.deaf,upd_ne _ _ e];have z:gs.size<=x:=cK;rw[upd_ne _ _ cL];exact h.above x z;obtain(a|⟨_,l,Q⟩)|a:=a;exact h.off x b (.inl a);grind;exact h.off x b (.inr a);have⟨v,f,A⟩:=iC.1 D;obtain⟨R,m⟩|⟨_,F⟩:=getElem?_append_cases f;have:=h.gsz i x L (by simp[Trace.g?,m,A]);grind;grind;obtain a|⟨_,l,_⟩:=a;exact h.new x b a;exact dw h.grown l;rw[c.same b (ep a h.grown) (λx=>iD (h.new k b x)) E];exact h.base b a E M
end
def kL:eQ->Nat
 | .wk _ s=>s
 |_=>0
def cnt(s:Nat):Nat:=if 5<=s then 1 else 0
def V(n m0:Nat)(ro:Nat->eQ):Nat:=sumTo n λi=>cnt (kL (ro (m0+i)))
def Sg(n m0:Nat)(ro:Nat->eQ):Nat:=sumTo n λi=>kL (ro (m0+i))
def pend:eQ->Nat
 | .st _ s=>if s<=4 then 1 else 0
 |_=>0
def isOpen:eQ->Prop
 | .none| .cl .kd| .cl .w1| .cl (.w2 _)=>True
 |_=>False
def isW3:eQ->Prop
 | .cl .sw| .cl .w3| .cl .blk=>True
 |_=>False
def isFin:eQ->Prop
 | .cl .w4| .cl .ke| .cl .ac| .cl .cl| .cl .quit=>True
 |_=>False
def OpenSt(n m0:Nat)(ro:Nat->eQ):Prop:=∀i,i<n->kL (ro (m0+i))=0\/5<=kL (ro (m0+i))\/kL (ro (m0+i))=1
def AllQuit(n m0:Nat)(ro:Nat->eQ):Prop:=∀i,i<n->kL (ro (m0+i))=1
inductive Mode (n m0:Nat) (ro:Nat->eQ):Int->Int->Prop
 |opn:isOpen (ro (m0+n))->OpenSt n m0 ro->(∀vs,ro (m0+n)=.cl (.w2 vs)->V n m0 ro<=vs/\1<=vs)->Mode n m0 ro (((V n m0 ro+pend (ro 0):Nat):Int)*KK) 0
 |reg:isW3 (ro (m0+n))->OpenSt n m0 ro->1<=V n m0 ro->Mode n m0 ro (((V n m0 ro:Nat):Int)*KK+1) 0
 |last (L:Nat):isW3 (ro (m0+n))->L<n->(kL (ro (m0+L))=4\/kL (ro (m0+L))=3\/kL (ro (m0+L))=2)->(∀i,i<n->i≠L->kL (ro (m0+i))=1)->Mode n m0 ro (if kL (ro (m0+L))=2 then 0 else 1) 0
 |sema:(ro (m0+n)=.cl .sw\/ro (m0+n)=.cl .w3)->AllQuit n m0 ro->Mode n m0 ro 0 1
 |fin:isFin (ro (m0+n))->AllQuit n m0 ro->Mode n m0 ro 0 0
inductive VY (n m0:Nat) (ro:Nat->eQ) (cl:Bool) (size:Nat):Prop
 |st (r s:Nat) (h0:ro 0=.st r s) (hs:2<=s/\s<=6) (hr:r<n) (hc:ro (m0+n)=.none) (hz:size=m0+(n-(r+1))) (hw:∀i,i<n-(r+1)->∃s,ro (m0+i)=.wk i s/\(s=9\/s=8)) (hn:∀i,n-(r+1)<=i->i<n->ro (m0+i)=.none)
 |uF (h0:ro 0=.uF) (hc:ro (m0+n)=.none) (hz:size=m0+n) (hw:∀i,i<n->∃s,ro (m0+i)=.wk i s/\(s=9\/s=8))
 |rc (r:Nat) (S:Nat->Bool) (s:Nat) (h0:ro 0=.rc r S s) (hc:∃c,ro (m0+n)=.cl c) (hz:size=m0+n+1) (hw:∀i,i<n->∃s,ro (m0+i)=.wk i s/\1<=s/\s<=9/\(S i=true↔s<=7))
  (hS:r+sumTo n (λi=>if S i then 1 else 0)=n) (hs:s=2\/(s=1/\cl=false/\∀i,i<n->kL (ro (m0+i))≠8))
def sayOf(m0 n:Nat):eQ->Nat
 | .none=>0
 |_=>m0+n
structure Pl(n m0:Nat)(ro:Nat->eQ)(cl:Bool)(G:Gh)(size:Nat)(st sm:Int):Prop where
 pos:0<m0
 lay:VY n m0 ro cl size
 old:∀k,0<k->k<m0->ro k=.old
 clq:cl=true↔ro (m0+n)=.cl .quit
 mode:Mode n m0 ro st sm
 usr:∀k,G.user k↔k=0\/(m0<=k/\k<size)
 say:G.sayer=sayOf m0 n (ro (m0+n))
 done:∀k,G.done k↔(0<k/\k<m0)\/∃i s,ro k=.wk i s/\s<=7
def u5(n:Nat):eQ->Nat
 | .st r s=>12*n+64+20*(r+1)+s
 | .uF=>12*n+64
 | .rc r _ s=>4*r+s
 |_=>0
def qf(n v:Nat):eQ->Nat
 | .cl .kd=>8*n+9
 | .cl .w1=>8*v+7
 | .cl (.w2 a)=>8*a+6
 | .cl .sw=>9
 | .cl .w3=>8
 | .cl .blk=>8
 | .cl .w4=>7
 | .cl .ke=>6
 | .cl .ac=>5
 | .cl .cl=>4
 | .cl .quit=>1
 |_=>0
def ID:eQ->Nat
 | .cl .w3=>1
 |_=>0
def meas(n m0:Nat)(ro:Nat->eQ):Nat:=u5 n (ro 0)+Sg n m0 ro+qf n (V n m0 ro) (ro (m0+n))
def L6(n:Nat){v a:Nat}(h:a<=v)(r:eQ):qf n a r<=qf n v r:=by unfold qf;grind
theorem pG(b:Bool)(r:eQ):kL (nZ b r)=kL r:=by unfold nZ;split;cases b<;>rfl;rfl
def OE(n:Nat)(b:Bool)(r:eQ):u5 n (nZ b r)=u5 n r:=by unfold nZ;split;cases b<;>rfl;rfl
def OF(n v:Nat)(b:Bool)(r:eQ):qf n v (nZ b r)=qf n v r:=by unfold nZ;split;cases b<;>rfl;rfl
theorem rC(b:Bool)(r:eQ):nZ b r=r\/(b=true/\r=.cl .blk/\nZ b r=.cl .w3):=by unfold nZ;grind
def xk{b:Bool}{r:eQ}(h:r≠ .cl .blk):nZ b r=r:=(rC b r).resolve_right cK
def U5(b:Bool)(r:eQ)(i s:Nat):nZ b r=.wk i s↔r=.wk i s:=by grind [rC]
section
variable{n m0:Nat}{ro:Nat->eQ}{cl:Bool}{G:Gh}{size:Nat}{st sm:Int}
def Cq(b:Bool):V n m0 (λx=>nZ b (ro x))=V n m0 ro:=sumTo_congr λi _=>by simp only[pG]
def U6(b:Bool):Sg n m0 (λx=>nZ b (ro x))=Sg n m0 ro:=sumTo_congr λi _=>by simp only[pG]
def vW(b:Bool):meas n m0 (λx=>nZ b (ro x))=meas n m0 ro:=by unfold meas;rw[Cq,U6,OE,OF]
def Pl.RY(h:Pl n m0 ro cl G size st sm)(b:Bool):Pl n m0 (λx=>nZ b (ro x)) cl G size st sm:=by
 refine⟨h.pos,?_,λk c a=>by simp only[h.old k c a];rfl,?_,?_,h.usr,?_,λk=>?_⟩;cases h.lay with
 |st r s f m t l g j u=>
  exact .st r s (by simp only[f];rfl) m t (by simp only[l];rfl) g (λi d=>let⟨s,c,a⟩:=j i d;⟨s,by simp only[c];rfl,a⟩) (λi c a=>by simp only[u i c a];rfl)
 |uF f l g j=>exact .uF (by simp only[f];rfl) (by simp only[l];rfl) g (λi d=>let⟨s,c,a⟩:=j i d;⟨s,by simp only[c];rfl,a⟩)
 |rc r S s f l g j v m=>
  refine .rc r S s (by simp only[f];rfl) ?_ g (λi d=>let⟨s,c,a⟩:=j i d;⟨s,by simp only[c];rfl,a⟩) v (m.imp id λ⟨x,y,z⟩=>⟨x,y,λi d=>by grind [pG]⟩);grind [rC]
 rw[h.clq];grind [rC];have o:OpenSt n m0 ro->OpenSt n m0 (λx=>nZ b (ro x)):=λh i d=>by simp only[pG];exact h i d
 have p:AllQuit n m0 ro->AllQuit n m0 (λx=>nZ b (ro x)):=λh i d=>by simp only[pG];exact h i d
 cases h.mode with
 |opn c a q=>
  have e:nZ b (ro (m0+n))=ro (m0+n):=xk λe=>by rw[e]at c;exact c
  have:=Mode.opn (n:=n) (m0:=m0) (ro:=λx=>nZ b (ro x)) cK (o a) (λA B=>by rw[Cq];grind);rw[Cq]at this;grind [rC,pend,nZ]
 |reg c a q=>
  have:=Mode.reg (n:=n) (m0:=m0) (ro:=λx=>nZ b (ro x)) (by obtain e|⟨_,_,e⟩:=rC b (ro (m0+n));grind;(try simp only);rw[e];trivial) (o a) (by rw[Cq];grind);rw[Cq]at this;grind
 |last L c a q C=>
  have:=Mode.last (n:=n) (m0:=m0) (ro:=λx=>nZ b (ro x)) L (by obtain e|⟨_,_,e⟩:=rC b (ro (m0+n));grind;(try simp only);rw[e];trivial) a (by grind [pG]) (λi d D=>by grind [pG]);grind [pG]
 |sema c a=>exact .sema (by grind [nZ]) (p a)
 |fin c a=>
  refine .fin ?_ (p a);have e:nZ b (ro (m0+n))=ro (m0+n):=xk λe=>by rw[e]at c;exact c
  grind
 rw[h.say];obtain e|⟨_,w,e⟩:=rC b (ro (m0+n));grind;rw[e,w];rfl;rw[h.done];simp only[U5]
def Pl.lt_size(h:Pl n m0 ro cl G size st sm){k:Nat}(o:k<size):k=0\/(0<k/\k<m0)\/(∃i s,i<n/\k=m0+i/\ro k=.wk i s/\1<=s/\s<=9)\/(k=m0+n/\∃c,ro k=.cl c):=by
 obtain rfl|p:=mM k;grind;obtain b|b:=gu k m0;grind;obtain⟨i,rfl⟩:=Nat.exists_eq_add_of_le b;cases h.lay with
 |st r s d g q e f a t=>
  have⟨s,j,l⟩:=a i cL;grind
 |uF d e f a=>
  have⟨s,j,l⟩:=a i cL;grind
 |rc r S s d e f a u g=>
  obtain m|m:=gu i n;grind;grind
end
section
variable{n m0:Nat}{ro:Nat->eQ}{cl:Bool}{G:Gh}{size:Nat}{st sm:Int}{r':eQ}
theorem ug(ro:Nat->eQ)(m0 i:Nat)(x:eQ)(a:Nat):upd ro (m0+i) x (m0+a)=upd (λa=>ro (m0+a)) i x a:=by unfold upd;grind
theorem OG(i:Nat)(b:i<n)(x:eQ):V n m0 (upd ro (m0+i) x)+cnt (kL (ro (m0+i)))=V n m0 ro+cnt (kL x):=by have:=sumTo_upd (λa=>ro (m0+a)) x (λr=>cnt (kL r)) b;grind [ug,V]
def Uh(i:Nat)(b:i<n)(x:eQ):Sg n m0 (upd ro (m0+i) x)+kL (ro (m0+i))=Sg n m0 ro+kL x:=by have:=sumTo_upd (λa=>ro (m0+a)) x kL b;grind [ug,Sg]
theorem qL{k:Nat}(a:k<m0\/m0+n<=k)(x:eQ):V n m0 (upd ro k x)=V n m0 ro:=sumTo_congr λi b=>by grind [upd_ne]
theorem sZ{k:Nat}(a:k<m0\/m0+n<=k)(x:eQ):Sg n m0 (upd ro k x)=Sg n m0 ro:=sumTo_congr λi b=>by grind [upd_ne]
def qM{a:Type}(f:Nat->a)(k:Nat):upd f k (f k)=f:=by grind [upd]
theorem OH(n m0:Nat)(ro:Nat->eQ):V n m0 ro<=n:=by
 have:=sumTo_le (f:=λi=>cnt (kL (ro (m0+i)))) (c:=1) (j:=n) λi _=>by grind [cnt]
 grind [V]
theorem OI{i:Nat}(a:i<n)(h:5<=kL (ro (m0+i))):1<=V n m0 ro:=by have:=le_sumTo (f:=λi=>cnt (kL (ro (m0+i)))) a;simp only[V];simp only[cnt,cT h]at this;exact this
def oK(a:0<m0)(h:u5 n r'<u5 n (ro 0)):meas n m0 (upd ro 0 r')<meas n m0 ro:=by grind [qL,sZ,upd_same,upd_ne,meas]
def n4(b:0<m0){i:Nat}(a:i<n)(c:kL r'<kL (ro (m0+i))):meas n m0 (upd ro (m0+i) r')<meas n m0 ro:=by
 unfold meas;have d:=OG (ro:=ro) (m0:=m0) i a r';have e:=Uh (ro:=ro) (m0:=m0) i a r';rw[upd_ne ro r' (show 0≠m0+i by omega),upd_ne ro r' (show m0+n≠m0+i by omega)];have f:cnt (kL r')<=cnt (kL (ro (m0+i))):=by simp only[cnt];split<;>split<;>omega
 have:=L6 n (show V n m0 (upd ro (m0+i) r')<=V n m0 ro by omega) (ro (m0+n));omega
def nm(a:0<m0)(h:qf n (V n m0 ro) r'<qf n (V n m0 ro) (ro (m0+n))):meas n m0 (upd ro (m0+n) r')<meas n m0 ro:=by unfold meas;rw[qL cL,sZ cL,upd_same,upd_ne ro r' cL];omega
def Mode.zero(f:0<m0)(h:Mode n m0 ro st sm)(g:pend r'=pend (ro 0)):Mode n m0 (upd ro 0 r') st sm:=by
 have j:upd ro 0 r' (m0+n)=ro (m0+n):=upd_ne ro r' cL;have c:∀i,upd ro 0 r' (m0+i)=ro (m0+i):=λi=>upd_ne ro r' cL;have k:V n m0 (upd ro 0 r')=V n m0 ro:=qL (.inl f) r';cases h with
 |opn d a e=>
  have:=Mode.opn (n:=n) (m0:=m0) (ro:=upd ro 0 r') cK (λi b=>by rw[c];exact a i b) cK;grind [upd_same]
 |reg d a e=>
  have:=Mode.reg (n:=n) (m0:=m0) (ro:=upd ro 0 r') cK (λi b=>by rw[c];exact a i b) cK;grind
 |last L d a e l=>
  have:=Mode.last (n:=n) (m0:=m0) (ro:=upd ro 0 r') L cK a cK cK;grind
 |sema d a=>exact .sema cK λi b=>by rw[c];exact a i b
 |fin d a=>exact .fin cK λi b=>by rw[c];exact a i b
def Pl.zero(h:Pl n m0 ro cl G size st sm)(d:VY n m0 (upd ro 0 r') cl size)(j:∀i s,r'≠ .wk i s)(l:∀i s,ro 0≠ .wk i s){a b:Int}(e:Mode n m0 (upd ro 0 r') a b):Pl n m0 (upd ro 0 r') cl G size a b:=by have c:upd ro 0 r' (m0+n)=ro (m0+n):=upd_ne ro r' (iD h.pos);refine⟨h.pos,d,λk f g=>by rw[upd_ne ro r' cL];exact h.old k f g,by rw[c];exact h.clq,e,h.usr,by rw[c];exact h.say,λk=>?_⟩;rw[h.done];refine or_congr qF ?_;grind [upd_same,upd_ne]
def Pl.OJ(h:Pl n m0 ro cl G size st sm){r s a:Nat}(f:ro 0=.st r s)(g:2<=a/\a<=6):VY n m0 (upd ro 0 (.st r a)) cl size:=by
 have o:=h.pos;cases h.lay with
 |st j k b l m d c e p=>
  rw[f]at b;cases b;exact .st r a (upd_same _ _ _) g m (by grind [upd_ne]) c (λi q=>by grind [upd_ne]) (λi t u=>by grind [upd_ne])
 |uF b d c e=>grind
 |rc j S k b d c e v l=>grind
def Pl.DM(h:Pl n m0 ro cl G size st sm){r s a:Nat}(b:ro 0=.st r s)(c:2<=a/\a<=6)(d:s<=4↔a<=4):Pl n m0 (upd ro 0 (.st r a)) cl G size st sm:=
 h.zero (h.OJ b c) dt cK (h.mode.zero h.pos (by grind [pend]))
def Pl.DN(h:Pl n m0 ro cl G size st sm){r s:Nat}(i:ro 0=.st r s):ro (m0+n)=.none/\r<n/\size=m0+(n-(r+1)):=by
 cases h.lay with
 |st e f a g j b c d k=>grind
 |uF a b c d=>grind
 |rc e S f a b c d l g=>grind
def Pl.IE(h:Pl n m0 ro cl G size st sm){r s':Nat}(c:ro 0=.st r 5)(g:s'=4\/s'=3):st=((V n m0 ro:Nat):Int)*KK/\sm=0/\Pl n m0 (upd ro 0 (.st r s')) cl G size (((V n m0 ro:Nat)+1:Int)*KK) 0:=by
 have b:=(h.DN c).1;have j:=h.pos;cases s:h.mode with
 |opn a k l=>
  rw[c];refine⟨by simp[pend],rfl,h.zero (h.OJ c cL) dt (by simp[c]) ?_⟩;have d:upd ro 0 (eQ.st r s') (m0+n)=ro (m0+n):=upd_ne ro _ cL;have m:∀i,upd ro 0 (eQ.st r s') (m0+i)=ro (m0+i):=λi=>upd_ne ro _ cL;have e:V n m0 (upd ro 0 (eQ.st r s'))=V n m0 ro:=qL (.inl j) _;have:=Mode.opn (n:=n) (m0:=m0) (ro:=upd ro 0 (eQ.st r s')) (by rw[d];omega) (λi o=>by rw[m];exact k i o) (λp f=>by rw[e];rw[d]at f;exact l p f);rw[e,upd_same]at this;have q:pend (eQ.st r s')=1:=by obtain rfl|rfl:=g<;>rfl
  rw[q]at this;simpa using this
 |reg a _ _=>rw[b]at a;exact a.elim
 |last L a _ _ _=>rw[b]at a;exact a.elim
 |sema a _=>grind
 |fin a _=>rw[b]at a;exact a.elim
def qh:Nat->eQ
 |0=>.uF
 |r+1=>.st r 6
def Pl.spawn{G':Gh}(h:Pl n m0 ro cl G size st sm){r:Nat}(j:ro 0=.st r 2)(E:∀k,G'.user k↔G.user k\/k=size)(q:G'.sayer=G.sayer)(F:G'.done=G.done):Pl n m0 (upd (upd ro size (.wk (n-(r+1)) 9)) 0 (qh r)) cl G' (size+1) st sm/\meas n m0 (upd (upd ro size (.wk (n-(r+1)) 9)) 0 (qh r))<meas n m0 ro:=by
 have t:=h.pos;cases h.lay with
 |uF d c u o=>rw[j]at d;cases d
 |rc H S I d c u o N J=>rw[j]at d;cases d
 |st H I d J O c u o B=>
 rw[j]at d;cases d;generalize l:qh r=x;have v:∀i s,x≠ .wk i s:=by subst l;cases r<;>simp[qh]
 subst u;have w:n-(r+1)<n:=cL;have A:ro (m0+(n-(r+1)))=.none:=B _ (dg _) w;have b:∀i,upd (upd ro (m0+(n-(r+1))) (eQ.wk (n-(r+1)) 9)) 0 x (m0+i)=if i=n-(r+1)then eQ.wk (n-(r+1)) 9 else ro (m0+i):=by intro i;rw[upd_ne _ _ cL,ug];rfl
 have f:upd (upd ro (m0+(n-(r+1))) (eQ.wk (n-(r+1)) 9)) 0 x (m0+n)=.none:=by rw[b,cR cL];exact c
 have C:V n m0 (upd (upd ro (m0+(n-(r+1))) (eQ.wk (n-(r+1)) 9)) 0 x)=V n m0 ro+1:=by rw[qL (.inl t)];have:=OG (ro:=ro) (m0:=m0) (n-(r+1)) w (.wk (n-(r+1)) 9);rw[A]at this;simpa[kL,cnt]using this
 have K:Sg n m0 (upd (upd ro (m0+(n-(r+1))) (eQ.wk (n-(r+1)) 9)) 0 x)=Sg n m0 ro+9:=by rw[sZ (.inl t)];have:=Uh (ro:=ro) (m0:=m0) (n-(r+1)) w (.wk (n-(r+1)) 9);rw[A]at this;simpa[kL]using this
 refine⟨⟨t,?_,λk a m=>by rw[upd_ne _ _ cL,upd_ne _ _ cL];exact h.old k a m,?_,?_,λk=>?_,?_,λk=>?_⟩,?_⟩;cases r with
 |zero=>
  subst l;refine .uF (upd_same _ _ _) f cL λi g=>?_;rw[b];split;rename_i e;subst e;exact⟨9,rfl,.inl rfl⟩;exact o i cL
 |succ r=>
  subst l;refine .st r 6 (upd_same _ _ _) cL cL f cL (λi g=>?_) λi a m=>?_;rw[b];split;rename_i e;subst e;exact⟨9,rfl,.inl rfl⟩;exact o i cL;rw[b,cR cL];exact B i cL m
 rw[f,h.clq,c];cases P:h.mode with
 |opn a m Q=>
  have:=Mode.opn (n:=n) (m0:=m0) (ro:=upd (upd ro (m0+(n-(r+1))) (eQ.wk (n-(r+1)) 9)) 0 x) (by rw[f];trivial) (λi g=>by rw[b];split;exact .inr (.inl (by simp[kL]));exact m i g) (λR D=>by rw[f]at D;cases D);rw[C,upd_same]at this;have M:pend x=0:=by subst l;cases r<;>rfl
  have p:pend (ro 0)=1:=by rw[j];rfl
  rw[M]at this;rw[p];simpa using this
 |reg a _ _=>rw[c]at a;exact a.elim
 |last L a _ _ _=>rw[c]at a;exact a.elim
 |sema a _=>rw[c]at a;obtain a|a:=a<;>cases a
 |fin a _=>rw[c]at a;exact a.elim
 rw[E,h.usr];omega;rw[f,q,h.say,c];rw[F,h.done];refine or_congr qF ?_;by_cases e:k=0;subst e;rw[upd_same,j];exact⟨λ⟨i,s,y,_⟩=>(nomatch y),λ⟨i,s,y,_⟩=>absurd y (v i s)⟩;rw[upd_ne _ _ e];by_cases p:k=m0+(n-(r+1));subst p;rw[upd_same,A];exact⟨λ⟨i,s,y,_⟩=>(nomatch y),λ⟨i,s,y,z⟩=>by cases y;omega⟩;rw[upd_ne _ _ p];unfold meas;rw[C,K,f,upd_same,c,j];subst l;cases r<;>simp[qh,u5,qf]<;>omega
end
section
variable{n m0:Nat}{ro:Nat->eQ}{cl:Bool}{G:Gh}{size:Nat}{st sm:Int}{r':eQ}
theorem u6:∀n,sumTo n (λ_=>0)=0
 |0=>rfl
 |n+1=>by simp[sumTo,u6 n]
theorem Cs:∀n,sumTo n (λ_=>1)=n
 |0=>rfl
 |n+1=>by simp[sumTo,Cs n]
theorem Kl{s:Nat}(h:5<=s):cnt s=1:=cT h
theorem DO{s:Nat}(h:¬5<=s):cnt s=0:=cR h
def Pl.U7{G':Gh}(h:Pl n m0 ro cl G size st sm)(r:ro 0=.uF)(s:∀k,G'.user k↔G.user k\/k=size)(c:G'.sayer=m0+n)(t:G'.done=G.done):
 size=m0+n/\Pl n m0 (upd (upd ro (m0+n) (.cl .kd)) 0 (.rc n (λ_=>false) 2)) cl G' (m0+n+1) st sm/\
  meas n m0 (upd (upd ro (m0+n) (.cl .kd)) 0 (.rc n (λ_=>false) 2))<meas n m0 ro:=by
 have d:=h.pos;cases h.lay with
 |st u v o w y b e p z=>grind
 |rc u S v o b e p A w=>grind
 |uF o b e p=>
 subst e;have f:∀i,i<n->upd (upd ro (m0+n) (eQ.cl .kd)) 0 (.rc n (λ_=>false) 2) (m0+i)=ro (m0+i):=by grind [upd_ne]
 have g:upd (upd ro (m0+n) (eQ.cl .kd)) 0 (.rc n (λ_=>false) 2) (m0+n)=.cl .kd:=by grind [upd_ne,upd_same]
 have x:V n m0 (upd (upd ro (m0+n) (eQ.cl .kd)) 0 (.rc n (λ_=>false) 2))=V n m0 ro:=by rw[qL (.inl d),qL (.inr (dg _))]
 have B:Sg n m0 (upd (upd ro (m0+n) (eQ.cl .kd)) 0 (.rc n (λ_=>false) 2))=Sg n m0 ro:=by rw[sZ (.inl d),sZ (.inr (dg _))]
 have q:cl=false:=by
  cases j:cl with
  |false=>rfl
  |true=>have:=h.clq.1 j;grind
 refine⟨rfl,⟨d,.rc n (λ_=>false) 2 (upd_same _ _ _) ⟨_,g⟩ rfl (λi l=>?_) (by grind [u6]) (.inl rfl),λk a m=>by rw[upd_ne _ _ cL,upd_ne _ _ cL];exact h.old k a m,cK,?_,λk=>by rw[s,h.usr];omega,by rw[g];exact c,λk=>?_⟩,?_⟩;grind;cases C:h.mode with
 |opn a m D=>
  have:=Mode.opn (n:=n) (m0:=m0) (ro:=upd (upd ro (m0+n) (eQ.cl .kd)) 0 (.rc n (λ_=>false) 2)) (by rw[g];trivial) (λi l=>by rw[f i l];exact m i l) (λE F=>XC);rw[x,upd_same]at this;rw[r];exact this
 |reg a _ _=>rw[b]at a;exact a.elim
 |last L a _ _ _=>rw[b]at a;exact a.elim
 |sema a _=>grind
 |fin a _=>rw[b]at a;exact a.elim
 rw[t,h.done];refine or_congr qF ?_;grind [upd_same,upd_ne];grind [upd_same,meas,u5,qf]
def Mode.counted(j:0<m0)(k:Mode n m0 ro st sm){i:Nat}(d:i<n)(l:5<=kL (ro (m0+i)))(m:5<=kL r'):Mode n m0 (upd ro (m0+i) r') st sm:=by
 have p:V n m0 (upd ro (m0+i) r')=V n m0 ro:=by have:=OG (ro:=ro) (m0:=m0) i d r';simp only[cnt,cT l,cT m]at this;omega
 have q:upd ro (m0+i) r' 0=ro 0:=upd_ne ro r' cL;have r:upd ro (m0+i) r' (m0+n)=ro (m0+n):=upd_ne ro r' cL;have f:OpenSt n m0 ro->OpenSt n m0 (upd ro (m0+i) r'):=λh a o=>by by_cases e:a=i;grind [upd_same];rw[upd_ne ro r' cL];exact h a o
 cases k with
 |opn c b g=>
  have:=Mode.opn (n:=n) (m0:=m0) (ro:=upd ro (m0+i) r') cK (f b) cK;grind
 |reg c b g=>
  have:=Mode.reg (n:=n) (m0:=m0) (ro:=upd ro (m0+i) r') cK (f b) cL;grind
 |last L c b g s=>
  grind
 |sema c b=>have:=b i d;omega
 |fin c b=>have:=b i d;omega
theorem VY.wk(h:VY n m0 ro cl size)(v:0<m0){i s b:Nat}(w:i<n)(e:ro (m0+i)=.wk i s)(A:(s=9/\b=8/\(∀r S,ro 0≠ .rc r S 1))\/(s<=7/\1<=b/\b<=7)):VY n m0 (upd ro (m0+i) (.wk i b)) cl size:=by
 have j:upd ro (m0+i) (eQ.wk i b) 0=ro 0:=upd_ne ro _ cL;have o:upd ro (m0+i) (eQ.wk i b) (m0+n)=ro (m0+n):=upd_ne ro _ cL;have q:∀a,upd ro (m0+i) (eQ.wk i b) (m0+a)=if a=i then .wk i b else ro (m0+a):=λa=>by rw[ug];rfl
 cases h with
 |st k l c m t f d p B=>
  refine .st k l (j.trans c) m t (o.trans f) d (λa g=>?_) λa g C=>?_
  ·grind
  grind
 |uF c f d p=>
  refine .uF (j.trans c) (o.trans f) d λa g=>?_;grind
 |rc k S l c f d p u m=>
  refine .rc k S l (j.trans c) cK d (λa g=>?_) u (m.imp id λ⟨x,y,z⟩=>⟨x,y,λa g=>?_⟩)
  ·grind
  grind [kL,absurd]
theorem Pl.wk(h:Pl n m0 ro cl G size st sm){i s a:Nat}(g:i<n)(e:ro (m0+i)=.wk i s)(j:(s=9/\a=8/\(∀r S,ro 0≠ .rc r S 1))\/(s<=7/\1<=a/\a<=7)){b c:Int}(l:Mode n m0 (upd ro (m0+i) (.wk i a)) b c):Pl n m0 (upd ro (m0+i) (.wk i a)) cl G size b c:=by have d:=h.pos;have f:upd ro (m0+i) (eQ.wk i a) (m0+n)=ro (m0+n):=upd_ne ro _ cL;refine⟨d,h.lay.wk d g e j,λk m o=>by rw[upd_ne ro _ cL];exact h.old k m o,by rw[f];exact h.clq,l,h.usr,by rw[f];exact h.say,λk=>?_⟩;rw[h.done];refine or_congr qF ?_;grind [upd_same,upd_ne]
def Pl.Wp(h:Pl n m0 ro cl G size st sm){i:Nat}(a:i<n)(e:ro (m0+i)=.wk i 9)(b:∀r S,ro 0≠ .rc r S 1):Pl n m0 (upd ro (m0+i) (.wk i 8)) cl G size st sm:=
 h.wk a e cK (h.mode.counted h.pos a (by grind [kL]) (by simp[kL]))
def Pl.Wq(h:Pl n m0 ro cl G size st sm){i s a:Nat}(c:i<n)(e:ro (m0+i)=.wk i s)(d:5<=s/\s<=7)(b:5<=a/\a<=7):Pl n m0 (upd ro (m0+i) (.wk i a)) cl G size st sm:=
 h.wk c e cK (h.mode.counted h.pos c (by rw[e];exact d.1) (by exact b.1))
def Pl.heard(h:Pl n m0 ro cl G size st sm){i s:Nat}(l:i<n)(e:ro (m0+i)=.wk i s)(m:s<=7):∃r S g,ro 0=.rc r S g/\S i=true/\size=m0+n+1:=by
 cases h.lay with
 |st a j b k o c d f p=>
  obtain x|x:=gu i (n-(a+1));grind;grind
 |uF b c d f=>
  grind
 |rc a S j b c d f q k=>
  grind
theorem Pl.hand{G':Gh}(h:Pl n m0 ro cl G size st sm){i s r C:Nat}{S:Nat->Bool}(p:i<n)(e:ro (m0+i)=.wk i s)(q:ro 0=.rc r S C)(K:s=9\/s=8) (D:G'.user=G.user)(t:G'.sayer=G.sayer)(E:∀k,G'.done k↔G.done k\/k=m0+i):S i=false/\∃r',r=r'+1/\Pl n m0 (upd (upd ro (m0+i) (.wk i 7)) 0 (.rc r' (upd S i true) 2)) cl G' size st sm/\meas n m0 (upd (upd ro (m0+i) (.wk i 7)) 0 (.rc r' (upd S i true) 2))<meas n m0 ro:=by
 have l:=h.pos;cases h.lay with
 |st F H o I L v u w M=>grind
 |uF o v u w=>grind
 |rc F N H o v u w O I=>
 rw[q]at o;cases o;have m:S i=false:=by grind
 have d:=sumTo_upd S true (λb=>if b then 1 else 0) p;rw[m]at d;simp only[iH,fj,ej,pC]at d;have J:sumTo n (λa=>if upd S i true a then 1 else 0)<=n:=by have:=sumTo_le (f:=λa=>if upd S i true a then 1 else 0) (c:=1) (j:=n) cK;omega
 obtain⟨g,rfl⟩:∃g,r=g+1:=⟨r-1,cL⟩;refine⟨m,g,rfl,?_,?_⟩;have x:∀k,k≠0->k≠m0+i->upd (upd ro (m0+i) (eQ.wk i 7)) 0 (.rc g (upd S i true) 2) k=ro k:=λk y z=>by grind [upd_ne]
 have P:upd (upd ro (m0+i) (eQ.wk i 7)) 0 (.rc g (upd S i true) 2) (m0+i)=.wk i 7:=by grind [upd_ne,upd_same]
 have A:=x (m0+n) cL cL;refine⟨l,.rc g (upd S i true) 2 (upd_same _ _ _) cK u (λa Q=>?_) cL (.inl rfl),λk y z=>by rw[x k cL cL];exact h.old k y z,by rw[A];exact h.clq,?_,by rw[D];exact h.usr,by rw[A,t];exact h.say,λk=>?_⟩;grind [upd_same,upd_ne];have B:=h.mode.counted l p (r':=.wk i 7) (by grind [kL]) (by simp[kL]);exact B.zero l (by rw[upd_ne _ _ cL,q];rfl);rw[E,h.done,or_assoc];refine or_congr qF ?_;grind [upd_same];have B:=n4 (n:=n) (ro:=ro) l p (r':=.wk i 7) (by grind [kL]);have R:=oK (n:=n) (ro:=upd ro (m0+i) (.wk i 7)) l (r':=.rc g (upd S i true) 2) (by rw[upd_ne _ _ cL,q];simp only[u5];omega);omega
def Pl.Wr(h:Pl n m0 ro cl G size st sm){r:Nat}{S:Nat->Bool}(d:ro 0=.rc r S 2)(g:cl=false)(q:∀i,i<n->kL (ro (m0+i))≠8):Pl n m0 (upd ro 0 (.rc r S 1)) cl G size st sm:=by
 have j:=h.pos;refine h.zero ?_ dt cK (h.mode.zero j (by rw[d];rfl));cases h.lay with
 |st k l b m s e c f t=>grind
 |uF b e c f=>grind
 |rc k u l b e c f o m=>
  rw[d]at b;cases b;exact .rc r S 1 (upd_same _ _ _) (by grind [upd_ne]) c (λa p=>by grind [upd_ne]) o (.inr ⟨rfl,g,λa p=>by grind [upd_ne]⟩)
def Pl.Zj(h:Pl n m0 ro cl G size st sm){r s:Nat}{S:Nat->Bool}(d:ro 0=.rc r S s):Pl n m0 (upd ro 0 (.rc r S 2)) cl G size st sm:=by
 have g:=h.pos;refine h.zero ?_ dt cK (h.mode.zero g (by rw[d];rfl));cases h.lay with
 |st i j b k m e c f o=>grind
 |uF b e c f=>grind
 |rc i p j b e c f l k=>
  rw[d]at b;cases b;exact .rc r S 2 (upd_same _ _ _) (by grind [upd_ne]) c (λa q=>by grind [upd_ne]) l (.inl rfl)
def others_uncounted{i:Nat}(b:i<n)(c:V n m0 ro=1)(d:5<=kL (ro (m0+i))):∀a,a<n->a≠i->¬5<=kL (ro (m0+a)):=by intro a f e g;have h:=OG (ro:=ro) (m0:=m0) i b .none;grind [OI,upd_ne,Kl,DO,upd,kL]
def Pl.d1(h:Pl n m0 ro cl G size st sm){i:Nat}(b:i<n)(e:ro (m0+i)=.wk i 5):∃v f:Nat,f<=1/\v<n/\st=((v:Int)+1)*KK+(f:Int)/\sm=0/\((v=0/\f=1)->Pl n m0 (upd ro (m0+i) (.wk i 4)) cl G size ((v:Int)*KK+(f:Int)) 0)/\(¬(v=0/\f=1)->Pl n m0 (upd ro (m0+i) (.wk i 1)) cl G size ((v:Int)*KK+(f:Int)) 0):=by
 have K:=h.pos;have⟨r,S,M,A,B,N⟩:=h.heard b e dt;have o:5<=kL (ro (m0+i)):=by grind [kL]
 have O:=OI b o;have C:=OH n m0 ro;have g:pend (ro 0)=0:=by rw[A];rfl
 have D:∀x,upd ro (m0+i) x 0=ro 0:=λx=>upd_ne ro x cL;have p:∀x,upd ro (m0+i) x (m0+n)=ro (m0+n):=λx=>upd_ne ro x cL;have q:OpenSt n m0 ro->OpenSt n m0 (upd ro (m0+i) (.wk i 1)):=λh a j=>by by_cases k:a=i;subst k;rw[upd_same];exact .inr (.inr rfl);rw[upd_ne ro _ cL];exact h a j
 have E:V n m0 (upd ro (m0+i) (.wk i 1))+1=V n m0 ro:=by grind [OG,wk,Kl,DO,kL]
 cases P:h.mode with
 |opn l c m=>
  refine⟨V n m0 ro-1,0,dt,cL,?_,rfl,λx=>cL,λ_=>h.wk b e (.inr cL) ?_⟩;rw[g];have:((V n m0 ro-1:Nat):Int)+1=((V n m0 ro:Nat):Int):=cL;rw[this];simp;have:=Mode.opn (n:=n) (m0:=m0) (ro:=upd ro (m0+i) (.wk i 1)) (by rw[p];omega) (q c) (λF x=>by rw[p]at x;have:=m F x;omega);rw[D,g,show V n m0 (upd ro (m0+i) (.wk i 1))=V n m0 ro-1 by omega]at this;simpa using this
 |reg l c m=>
  refine⟨V n m0 ro-1,1,dt,cL,?_,rfl,λx=>?_,λx=>?_⟩;grind;have d:V n m0 ro=1:=cL;refine h.wk b e cK ?_
  have s:∀a,a<n->a≠i->kL (ro (m0+a))=1:=λa j k=>by
   have Q:=others_uncounted b d o a j k;obtain y|y|y:=c a j
   ·exfalso;cases h.lay with
    |st H I t J R u w z T=>omega
    |uF t u w z=>omega
    |rc H U I t u w z W J=>
     grind [kL]
   omega;omega
  have:=Mode.last (n:=n) (m0:=m0) (ro:=upd ro (m0+i) (.wk i 4)) i cK b (by rw[upd_same];simp[kL]) (λa j k=>by grind [upd_ne]);rw[upd_same]at this;simp only[d,lK];grind [kL];refine h.wk b e cK ?_;have:=Mode.reg (n:=n) (m0:=m0) (ro:=upd ro (m0+i) (.wk i 1)) cK (q c) cL;grind
 |last L l c m X=>
  grind
 |sema l c=>have:=c i b;omega
 |fin l c=>have:=c i b;omega
def Pl.isLast(h:Pl n m0 ro cl G size st sm){i s:Nat}(c:i<n)(e:ro (m0+i)=.wk i s)(d:s=4\/s=3\/s=2):
 isW3 (ro (m0+n))/\(∀a,a<n->a≠i->kL (ro (m0+a))=1)/\st=(if s=2 then 0 else 1)/\sm=0:=by
 have f:kL (ro (m0+i))=s:=by rw[e];rfl
 cases g:h.mode with
 |opn _ b _=>have:=b i c;omega
 |reg _ b _=>have:=b i c;omega
 |last L j b k l=>
  grind
 |sema _ b=>have:=b i c;omega
 |fin _ b=>have:=b i c;omega
theorem Pl.last(h:Pl n m0 ro cl G size st sm){i s b:Nat}(c:i<n)(e:ro (m0+i)=.wk i s)(d:(s=4/\b=3)\/(s=3/\b=2)):
 Pl n m0 (upd ro (m0+i) (.wk i b)) cl G size (if b=2 then 0 else 1) 0:=by
 have f:=h.pos;have⟨g,j,_,_⟩:=h.isLast c e cL;refine h.wk c e cK ?_;have:=Mode.last (n:=n) (m0:=m0) (ro:=upd ro (m0+i) (.wk i b)) i (by grind [upd_ne]) c (by grind [upd_same,kL]) (λa k l=>by grind [upd_ne]);rw[upd_same]at this;exact this
def Pl.raise(h:Pl n m0 ro cl G size st sm){i:Nat}(c:i<n)(e:ro (m0+i)=.wk i 2)(d:ro (m0+n)≠ .cl .blk):Pl n m0 (upd ro (m0+i) (.wk i 1)) cl G size 0 1:=by have g:=h.pos;have⟨b,j,_,_⟩:=h.isLast c e dt;refine h.wk c e cK (.sema ?_ λa k=>?_);rw[upd_ne ro _ cL];revert b d;generalize ro (m0+n)=x;intro d b;unfold isW3 at b;grind;by_cases f:a=i;subst f;rw[upd_same];rfl;grind [upd_ne]
def Pl.VZ(h:Pl n m0 ro cl G size st sm){c d:CT}(s:ro (m0+n)=.cl c){b:Bool}(F:b=true↔d=.quit)(t:b=cl\/∀r S,ro 0≠ .rc r S 1){e f:Int}(u:Mode n m0 (upd ro (m0+n) (.cl d)) e f):Pl n m0 (upd ro (m0+n) (.cl d)) b G size e f:=by
 have v:=h.pos;have w:upd ro (m0+n) (eQ.cl d) 0=ro 0:=upd_ne ro _ cL;have H:∀i,i<n->upd ro (m0+n) (eQ.cl d) (m0+i)=ro (m0+i):=λi I=>upd_ne ro _ cL;refine⟨v,?_,λk A B=>by rw[upd_ne ro _ cL];exact h.old k A B,by grind [upd_same],u,h.usr,by rw[upd_same,h.say,s];rfl,λk=>?_⟩;cases h.lay with
 |st l m g o J p j q K=>grind
 |uF g p j q=>grind
 |rc l C m g p j q D o=>
  refine .rc l C m (w.trans g) ⟨_,upd_same _ _ _⟩ j (λa E=>cK) D (o.imp id λ⟨x,y,z⟩=>⟨x,?_,λa E=>cK⟩);grind
 rw[h.done];refine or_congr qF ?_;grind [upd_same,upd_ne]
def Pl.recv(h:Pl n m0 ro cl G size st sm){c:CT}(p:ro (m0+n)=.cl c):∃r S s,ro 0=.rc r S s/\size=m0+n+1/\pend (ro 0)=0/\∀i,i<n->1<=kL (ro (m0+i)):=by
 cases h.lay with
 |st e f a j q g b d t=>grind
 |uF a g b d=>grind
 |rc e k f a g b d u j=>
  refine⟨e,k,f,a,b,by rw[a];rfl,λi l=>?_⟩;have⟨v,m,o,_⟩:=d i l;rw[m];exact o
def Mode.zV(h:Mode n m0 ro st sm)(b:isOpen (ro (m0+n))):OpenSt n m0 ro/\(∀c,ro (m0+n)=.cl (.w2 c)->V n m0 ro<=c/\1<=c)/\st=((V n m0 ro+pend (ro 0):Nat):Int)*KK/\sm=0:=by
 cases h with
 |opn a d e=>grind
 |reg a _ _=>revert a b;generalize ro (m0+n)=x;unfold isW3 isOpen;grind
 |last L a _ _ _=>revert a b;generalize ro (m0+n)=x;unfold isW3 isOpen;grind
 |sema a _=>obtain a|a:=a<;>rw[a]at b<;>exact b.elim
 |fin a _=>revert a b;generalize ro (m0+n)=x;unfold isFin isOpen;grind
def Mode.zW(b:0<m0)(h:Mode n m0 ro st sm)(c:isOpen (ro (m0+n)))(d:isOpen r')(g:∀a,r'=.cl (.w2 a)->V n m0 ro<=a/\1<=a):Mode n m0 (upd ro (m0+n) r') st sm:=by obtain⟨e,_,rfl,rfl⟩:=h.zV c;have j:upd ro (m0+n) r' 0=ro 0:=upd_ne ro _ cL;have k:V n m0 (upd ro (m0+n) r')=V n m0 ro:=qL cL _;have:=Mode.opn (n:=n) (m0:=m0) (ro:=upd ro (m0+n) r') (by rw[upd_same];omega) (λi f=>by rw[upd_ne ro _ cL];exact e i f) (λa x=>by grind [upd_same]);grind
def Pl.U8(h:Pl n m0 ro cl G size st sm)(a:ro (m0+n)=.cl .w1)(e:V n m0 ro=0):st=0/\sm=0/\Pl n m0 (upd ro (m0+n) (.cl .ke)) cl G size 0 0:=by have j:=h.pos;have⟨r,S,s,k,l,b,m⟩:=h.recv a;have⟨f,_,c,d⟩:=h.mode.zV (by rw[a];trivial);rw[b,e]at c;refine⟨cL,d,h.VZ a ?_ (.inl rfl) (.fin (by rw[upd_same];trivial) λi g=>?_)⟩;have:=h.clq;grind;rw[upd_ne ro _ cL];obtain x|x|x:=f i g;grind;grind [OI];omega
theorem Pl.zW(h:Pl n m0 ro cl G size st sm){c b:CT}(e:ro (m0+n)=.cl c)(f:isOpen (.cl c))(a:isOpen (.cl b))(g:∀d,b=.w2 d->V n m0 ro<=d/\1<=d):Pl n m0 (upd ro (m0+n) (.cl b)) cl G size st sm:=by
 refine h.VZ e ?_ (.inl rfl) (h.mode.zW h.pos cK a cK);have:=h.clq;rw[e]at this;have i:c≠ .quit:=by rintro rfl;exact f
 have j:b≠ .quit:=by rintro rfl;exact a
 grind
def Pl.Zk(h:Pl n m0 ro cl G size st sm){a:Nat}(b:ro (m0+n)=.cl (.w2 a))(g:V n m0 ro=a):Pl n m0 (upd ro (m0+n) (.cl .sw)) cl G size ((a:Int)*KK+1) 0:=by have⟨c,d,_,_⟩:=h.mode.zV (by rw[b];trivial);have j:=h.pos;have e:=d a b;have k:V n m0 (upd ro (m0+n) (eQ.cl .sw))=V n m0 ro:=qL cL _;refine h.VZ b ?_ (.inl rfl) ?_;have:=h.clq;grind;have:=Mode.reg (n:=n) (m0:=m0) (ro:=upd ro (m0+n) (.cl .sw)) (by rw[upd_same];trivial) (λi f=>by rw[upd_ne ro _ cL];exact c i f) cL;grind
def Pl.Ws(h:Pl n m0 ro cl G size st sm){c c':CT}(b:ro (m0+n)=.cl c)(d:isW3 (.cl c))(f:isW3 (.cl c'))(j:c'=.blk->sm=0):Pl n m0 (upd ro (m0+n) (.cl c')) cl G size st sm:=by
 have k:=h.pos;have l:∀x,V n m0 (upd ro (m0+n) x)=V n m0 ro:=qL cL;have e:∀x i,i<n->upd ro (m0+n) x (m0+i)=ro (m0+i):=λx i a=>upd_ne ro _ cL;refine h.VZ b ?_ (.inl rfl) ?_;have:=h.clq;rw[b]at this;have m:c≠ .quit:=by rintro rfl;exact d
 have o:c'≠ .quit:=by rintro rfl;exact f
 grind;cases p:h.mode with
 |opn x _ _=>rw[b]at x;revert x d;cases c<;>simp[isOpen,isW3]
 |reg x y z=>
  have:=Mode.reg (n:=n) (m0:=m0) (ro:=upd ro (m0+n) (.cl c')) (by rw[upd_same];omega) (λi a=>by rw[e _ i a];exact y i a) cK;grind
 |last L x g y z=>
  have:=Mode.last (n:=n) (m0:=m0) (ro:=upd ro (m0+n) (.cl c')) L (by rw[upd_same];omega) g cK cK;grind
 |sema x y=>
  refine .sema ?_ λi a=>by rw[e _ i a];exact y i a
  grind [upd_same,isW3]
 |fin x _=>rw[b]at x;revert x d;cases c<;>simp[isFin,isW3]
def Pl.FK(h:Pl n m0 ro cl G size st sm)(a:ro (m0+n)=.cl .w3):sm=0\/(st=0/\sm=1/\Pl n m0 (upd ro (m0+n) (.cl .w4)) cl G size 0 0):=by
 have c:=h.pos;cases d:h.mode with
 |opn x _ _=>simp
 |reg x y z=>simp
 |last L x e y z=>simp
 |sema x y=>
  refine .inr ⟨rfl,rfl,h.VZ a ?_ (.inl rfl) (.fin (by rw[upd_same];trivial) λi b=>by rw[upd_ne ro _ cL];exact y i b)⟩;have:=h.clq;grind
 |fin x _=>simp
def Mode.ofFin(h:Mode n m0 ro st sm)(b:isFin (ro (m0+n))):AllQuit n m0 ro/\st=0/\sm=0:=by
 cases h with
 |opn a c d=>revert a b;generalize ro (m0+n)=x;unfold isOpen isFin;grind
 |reg a _ _=>revert a b;generalize ro (m0+n)=x;unfold isW3 isFin;grind
 |last L a _ _ _=>revert a b;generalize ro (m0+n)=x;unfold isW3 isFin;grind
 |sema a _=>obtain a|a:=a<;>rw[a]at b<;>exact b.elim
 |fin a c=>grind
def Pl.Km(h:Pl n m0 ro cl G size st sm){c c':CT}(b:ro (m0+n)=.cl c)(f:isFin (.cl c))(g:isFin (.cl c')){cl':Bool}(d:cl'=true↔c'=.quit)(a:cl'=cl\/∀r S,ro 0≠ .rc r S 1):Pl n m0 (upd ro (m0+n) (.cl c')) cl' G size st sm:=by obtain⟨x,rfl,rfl⟩:=h.mode.ofFin cK;have j:=h.pos;exact h.VZ b d a (.fin (by rw[upd_same];omega) λi e=>by rw[upd_ne ro _ cL];exact x i e)
def Pl.vX(h:Pl n m0 ro cl G size st sm){c:CT}(t:ro (m0+n)=.cl c)(u:isFin (.cl c)):∃S s,ro 0=.rc 0 S s/\(∀i,i<n->∃k,ro (m0+i)=.wk k 1)/\size=m0+n+1:=by
 have⟨x,_,_⟩:=h.mode.ofFin cK;cases h.lay with
 |st g j e m v l f b w=>grind
 |uF e l f b=>grind
 |rc g d j e l f b y m=>
  have o:∀i,i<n->d i=true:=λi a=>by have⟨p,q,z,A,B⟩:=b i a;have:=x i a;grind [kL]
  have C:sumTo n (λi=>if d i then 1 else 0)=n:=by have:sumTo n (λi=>if d i then 1 else 0)=sumTo n λ_=>1:=sumTo_congr cK;rw[this,Cs]
  have r:g=0:=cL;subst r;refine⟨d,j,e,λi a=>?_,f⟩;have⟨p,q,_⟩:=b i a;have:=x i a;grind [kL]
end
section
variable{G:Gh}{g d n m Wg:Nat}
def RZ:oI G g d n m #[]:=λj e h=>by simp at h
def rD{e:Event}(a:(MemAct.ofEvent e).touch?=none)(b:(MemAct.ofEvent e).low m):oI G g d n m #[e]:=by intro j x h;grind
def FL{w:Bool}(c:G.wg h.block)(e:G.user g)(f:g=G.sayer)(b:h.block<m):oI G g d n m #[mk (if w then .write h else .read h)]:=by
 intro j x i;have:x=mk (if w then .write h else .read h):=by grind
 subst this;cases w<;>refine⟨λt a _=>?_,b⟩<;>(simp[mk,MemAct.ofEvent,MemAct.touch?]at a;subst a;exact⟨h.block,rfl,cK⟩)
def rE{c:Array Event}(p:G.wg Wg)(q:G.user g)(i:Wg<m) (h:∀(j:Nat) (e:Event),c[j]? =some e->((MemAct.ofEvent e).touch?=none/\(MemAct.ofEvent e).low m)\/((∃a b,e=⟨.cell a,b,true⟩/\a.block=Wg)/\0<deafBehind d (c.extract 0 j))):oI G g d n m c:=by
 intro j e k;obtain⟨r,s⟩|⟨⟨a,b,rfl,l⟩,u⟩:=h j e k;grind;subst l;have o:MemAct.ofEvent ⟨.cell a,b,true⟩=.access ⟨.cell a,b,true⟩:=by cases b<;>rfl
 rw[o];refine⟨λt f _=>?_,i⟩;simp only[MemAct.touch?,iO]at f;subst f;exact⟨a.block,rfl,cK⟩
def zX(b:G.wg Wg)(c:G.user g)(f:Wg<m)(h:0<d):oI G g d n m #[ConcR.rd (stA Wg)]:=rE b c f λj e a=>.inr (by
 match j,a with
 |0,a=>simp at a;subst a;exact⟨⟨_,_,rfl,rfl⟩,by simpa[deafBehind]using h⟩
 |j+1,a=>grind)
def U9(b:G.wg Wg)(c:G.user g)(f:Wg<m)(h:0<d):oI G g d n m #[ConcR.wr (stA Wg)]:=rE b c f λj e a=>.inr (by
 match j,a with
 |0,a=>simp at a;subst a;exact⟨⟨_,_,rfl,rfl⟩,by simpa[deafBehind]using h⟩
 |j+1,a=>grind)
def te(c:G.wg Wg)(f:G.user g)(h:Wg<m)(b:0<d):oI G g d n m #[ConcR.rd (stA Wg),ConcR.wr (stA Wg)]:=rE c f h λj e a=>.inr (by
 match j,a with
 |0,a=>simp at a;subst a;exact⟨⟨_,_,rfl,rfl⟩,by simpa[deafBehind]using b⟩
 |1,a=>simp at a;subst a;exact⟨⟨_,_,rfl,rfl⟩,by simpa[deafBehind,ConcR.rd]using b⟩
 |j+2,a=>grind)
def Ko(b:G.wg Wg)(c:G.user g)(f:Wg<m):oI G g d n m (semEvents (smA Wg)):=rE b c f λj e a=>by
 match j,a with
 |0,a=>simp[semEvents]at a;subst a;exact .inl (by trivial)
 |1,a=>simp[semEvents]at a;subst a;exact .inr ⟨⟨_,_,rfl,rfl⟩,by simp[deafBehind,semEvents]⟩
 |2,a=>simp[semEvents]at a;subst a;exact .inr ⟨⟨_,_,rfl,rfl⟩,by simp[deafBehind,semEvents]⟩
 |3,a=>simp[semEvents]at a;subst a;exact .inl (by trivial)
 |j+4,a=>simp[semEvents]at a
def R2{o:Array Event}(i:G.Fits n)(b:n<=m)(h:∀e∈o,EvW (G.own g) (G.rd g) n m e):oI G g d n m o:=by
 intro j e p;obtain⟨a,c,rfl,k⟩|⟨r,c,rfl,k⟩|rfl:=h e (xY p);have l:MemAct.ofEvent ⟨.cell a,c,false⟩=.access ⟨.cell a,c,false⟩:=by cases c<;>rfl
 rw[l];refine⟨λt f _=>?_,?_⟩;simp only[MemAct.touch?,iO]at f;subst f;exact⟨a.block,rfl,cK⟩;show a.block<m;obtain h|⟨_,h⟩|h:=k;exact ep (i.own _ _ h) b;exact ep (i.rd _ _ h) b;grind;have l:MemAct.ofEvent ⟨.obj r,c,false⟩=.access ⟨.obj r,c,false⟩:=by cases c<;>rfl
 rw[l];refine⟨λt f _=>?_,?_⟩;simp only[MemAct.touch?,iO]at f;subst f;exact⟨r,rfl,cK⟩;show r<m;obtain h|h:=k;exact ep (i.own _ _ h) b;grind;exact⟨λt f=>by simp[MemAct.ofEvent,MemAct.touch?]at f,trivial⟩
def OK{b f:dn}{c:Array Event}(h:∀e∈c,EvW b f n m e)(d:Nat):deafBehind d c=d:=
 deafBehind_still (λe g=>by obtain⟨a,i,rfl,_⟩|⟨r,i,rfl,_⟩|rfl:=h e g<;>simp) d
def OL{a:Array Event}(h:∀e∈a,e.mute=true):oI G g d n m a:=λj e b=>⟨λt c=>by grind [touch_mute,Array.mem_of_getElem?],low_mute cK m⟩
end
section
variable(P:cU)(ty:cQ)(Wg Ch n:Nat)(rd0:Nat->Prop)(val:Nat->cJ->(Nat->Prop)->cI->Prop)(End:iT)(w0:cI)(B0 m0:Nat)
def zY(G:Gh)(cl:Bool)(t:Trace):Prop:=cl=true->∃p,t.act? p=some (.close Ch)/\t.heard p/\t.g? p=some (m0+n)/\∀i a,G.t0<=i->touchAt t i=some a->a.loc.isMemory=true->t.g? i=some (m0+n)->i<p
def fg(X:dn)(T0:Nat)(a:Mu)(m:Machine)(t:Trace):Prop:=
 ∃(gs:Array cP) (w:cI) (sl:Option (Nat×Nat)) (ro:Nat->eQ) (rk:Nat->WT) (dd:Nat->Nat) (G:Gh) (cl:Bool) (st sm:Int),m=crowd gs w sl/\Com P ty Wg Ch n rd0 val End w0 B0 ro rk dd G cl gs w t/\WgAt ty Wg w st sm/\Pl n m0 ro cl G gs.size st sm/\zY Ch n m0 G cl t/\G.x=X/\G.t0=T0/\a=⟨meas n m0 ro,gs.size,rk,ID (ro (m0+n))⟩
end
section
variable{P:cU}{ty:cQ}{Wg Ch n:Nat}{rd0:Nat->Prop}{val:Nat->cJ->(Nat->Prop)->cI->Prop}{End:iT}{w0:cI}{B0 m0:Nat}{X:Nat->Prop}{T0:Nat} {ro:Nat->eQ}{rk:Nat->WT}{dd:Nat->Nat}{G:Gh}{cl:Bool}{gs:Array cP}{w w':cI}{sl:Option (Nat×Nat)}{t:Trace}{st sm:Int}
theorem Pl.Zl{a:Gh}{size:Nat}(h:Pl n m0 ro cl G size st sm)(b:a.user=G.user)(c:a.sayer=G.sayer)(d:a.done=G.done):Pl n m0 ro cl a size st sm:=
 ⟨h.pos,h.lay,h.old,h.clq,h.mode,by rw[b];exact h.usr,by rw[c];exact h.say,by rw[d];exact h.done⟩
theorem zY.app{u:Trace}(h:zY Ch n m0 G cl t){c:Gh}(o:c.t0=G.t0)(q:cl=true->∀b∈u,b.g=m0+n->b.act.touch?=none):zY Ch n m0 c cl (t++u):=by intro d;have⟨p,e,f,r,s⟩:=h d;have j:=lt_of_act? e;refine⟨p,by grind [act?_old],(heard_old j).2 f,by grind [g?_old],λi a v k w x=>?_⟩;have⟨b,l,m⟩:=touch_of k;grind [getElem?_append_cases,touchAt_of,g?_old,Option.some.injEq,Trace.g?]
theorem Pl.IF{size:Nat}(h:Pl n m0 ro cl G size st sm)(a:size=gs.size)(b:cl=true){x:Nat}(k:x<gs.size):(∀r S,ro x≠ .rc r S 1)/\∀i,ro x≠ .wk i 8:=by
 have l:=h.clq.1 b;have⟨S,s,m,u,v⟩:=h.vX l trivial;subst a;obtain rfl|⟨o,p⟩|⟨i,s,w,rfl,e,_⟩|⟨rfl,c,e⟩:=h.lt_size k;rw[m];refine⟨λr y e=>?_,cK⟩;cases e;cases h.lay with
 |st q t d gs z f g j A=>grind
 |uF d f g j=>grind
 |rc q B t d f g j C gs=>
  grind
 rw[h.old x o p];grind;grind;grind
theorem fg.go(h:Com P ty Wg Ch n rd0 val End w0 B0 ro rk dd G cl gs w t)(v:Pl n m0 ro cl G gs.size st sm)(y:zY Ch n m0 G cl t)(E:G.x=X)(F:G.t0=T0) {k:Nat}{g b:cP}{u:Array Event}{r':eQ}{τ':WT}{st' sm':Int}(B:gs[k]? =some g)(z:stepG P (k==0) g w=.go b w' u) (H:zU Wg (G.own k) w w')(l:WgAt ty Wg w' st' sm')(A:oI G k (dd k) w.heap.size w'.heap.size u)(I:G.done k->w'.heap.size=w.heap.size) (J:mI P ty Wg Ch n rd0 val End r' τ' (deafBehind (dd k) u) ((G.grow k w.heap.size w'.heap.size).own k) (G.rd k) b w')
 (m:Pl n m0 (upd (λx=>nZ (jF P g b) (ro x)) k r') cl G gs.size st' sm')
 (K:cl=true->k=m0+n->∀e∈u,(MemAct.ofEvent e).touch?=none) (d:meas n m0 (upd (λx=>nZ (jF P g b) (ro x)) k r')<meas n m0 ro\/(meas n m0 (upd (λx=>nZ (jF P g b) (ro x)) k r')=meas n m0 ro/\WT.Sub τ' (rk k))):
 ∃c o p,runT P (crowd gs w sl) k=(.next c,o)/\Mu.Lt p ⟨meas n m0 ro,gs.size,rk,ID (ro (m0+n))⟩/\fg P ty Wg Ch n rd0 val End w0 B0 m0 X T0 p c (t++o):=by
 have q:=runT_crowd_go (P:=P) (sl:=sl) (i:=k) B z;have r:k<gs.size:=cK;have s:=h.go (r':=r') (τ':=τ') B (λC x L=>v.IF rfl C L) H ⟨_,_,l⟩ A I J;refine⟨_,_,⟨meas n m0 (upd (λx=>nZ (jF P g b) (ro x)) k r'),((gs.map (woken P g b w')).setIfInBounds k b).size,upd rk k τ',ID (upd (λx=>nZ (jF P g b) (ro x)) k r' (m0+n))⟩,q,?_,_,w',sl,_,_,_,_,cl,st',sm',rfl,s,l,?_,?_,E,F,rfl⟩;obtain d|⟨M,D⟩:=d;exact .a d;refine .f M dt ⟨k,r,by grind [upd_same],λj _ Q=>by grind [upd_ne]⟩;have:((gs.map (woken P g b w')).setIfInBounds k b).size=gs.size:=dt;rw[this];exact m.Zl rfl rfl rfl;refine y.app rfl λC R N O=>?_;grind [Go.Conc.mem_ofEvents]
end
def zU.zZ{Wg:Nat}{a:dn}{w w':cI}(h:Aside Wg w w'):zU Wg a w w':=⟨h.tape,h.os,h.output,by rw[h.size];exact dg _,λb _ _ c=>h.block b c⟩
section
variable{P:cU}{ty:cQ}{Wg Ch n:Nat}{rd0:Nat->Prop}{val:Nat->cJ->(Nat->Prop)->cI->Prop}{End:iT}{w0:cI}{B0 m0:Nat}{X:Nat->Prop}{T0:Nat} {ro:Nat->eQ}{rk:Nat->WT}{dd:Nat->Nat}{G:Gh}{cl:Bool}{gs:Array cP}{w w':cI}{sl:Option (Nat×Nat)}{t:Trace}{st sm:Int}
theorem Com.at(h:Com P ty Wg Ch n rd0 val End w0 B0 ro rk dd G cl gs w t)(d:Nat):Com P ty Wg Ch n rd0 val End w0 B0 ro rk dd G cl gs (w.at d) t:=
 {h with sit:=λk g a=>(h.sit k g a).rely (eP.at _ _ (λ_ _ x=>x) w d)}
def Goal(P:cU)(ty:cQ)(Wg Ch n:Nat)(rd0:dn)(val:Nat->cJ->(dn)->dB)(End:iT)(w0:cI)(B0 m0:Nat)(X:dn)(T0:Nat) (ro:Nat->eQ)(rk:Nat->WT)(gs:Array cP)(w:cI)(sl:Option (Nat×Nat))(t:Trace)(k:Nat):Prop:=
 ∃a b c,runT P (crowd gs w sl) k=(.next a,b)/\Mu.Lt c ⟨meas n m0 ro,gs.size,rk,ID (ro (m0+n))⟩/\fg P ty Wg Ch n rd0 val End w0 B0 m0 X T0 c a (t++b)
variable(dS:Com P ty Wg Ch n rd0 val End w0 B0 ro rk dd G cl gs w t)(fV:Pl n m0 ro cl G gs.size st sm)(kC:zY Ch n m0 G cl t)(hX:G.x=X)(hT:G.t0=T0)(ix:WgAt ty Wg w st sm)
include dS fV kC hX hT ix
theorem fg.Kp{k:Nat}{g:cP}{r:eQ}{S:iT}{j:WT}(B:gs[k]? =some g)(C:Way P (k==0) (G.rd k) (Lv ty Wg) S j (G.own k) g w)(p:rk k=j)(l:ro k=r)(D:r≠ .cl .blk)(E:r≠ .cl .quit)(q:¬G.done k) (s:∀j d g w,Way P (k==0) (G.rd k) (Lv ty Wg) S j d g w->mI P ty Wg Ch n rd0 val End r j (dd k) d (G.rd k) g w):(∀z,eP (G.own k) (G.rd k) (Lv ty Wg) w z->S (G.own k) g z)\/Goal P ty Wg Ch n rd0 val End w0 B0 m0 X T0 ro rk gs w sl t k:=by
 cases C with
 |here h=>exact .inl h
 | @step f d g _ M F H=>
  right;have⟨m,w',A,c,e,a⟩:=F w (.refl _ _ _ _);have u:=H w m w' A c (.refl _ _ _ _) e a;have I:c=(G.grow k w.lH w'.lH).own k:=by funext b;apply propext;rw[a.owns];exact⟨Or.imp id λx=>⟨rfl,x⟩,Or.imp id λx=>x.2⟩
  have v:deafBehind (dd k) A=dd k:=OK a.evs _
  have o:upd (λx=>nZ (jF P g m) (ro x)) k r=λx=>nZ (jF P g m) (ro x):=by
   have:nZ (jF P g m) (ro k)=r:=by rw[l];exact xk D
   have h:=qM (λx=>nZ (jF P g m) (ro x)) k;simp only[this]at h;exact h
  have i:w'.heap[Wg]? =w.heap[Wg]? :=a.same Wg dS.wglow λx=>dS.fits.ownwg _ _ x ((dS.wg _).2 (.inl rfl));refine fg.go dS fV kC hX hT (st':=st) (sm':=sm) (r':=r) (τ':=f w) B e ⟨a.tape,a.os,a.output,a.size,λb J K _=>a.same b J K⟩ (ix.of_block i) (R2 dS.fits a.size a.evs) (λx=>absurd x q) ?_ ?_ (λL y=>?_) (.inr ⟨?_,?_⟩);rw[v,<-I];exact s _ _ _ _ u;rw[o];exact fV.RY _;exfalso;have:=fV.clq.1 L;rw[<-y,l]at this;exact E this;rw[o];exact vW _;rw[p];exact .mk f w
theorem fg.idle{k:Nat}{g:cP}{r:eQ}{S:iT}{a:WT}(i:gs[k]? =some g)(j:Way P (k==0) (G.rd k) (Lv ty Wg) S a (G.own k) g w)(c:rk k=a)(d:ro k=r)(l:r≠ .cl .blk)(m:r≠ .cl .quit)(e:¬G.done k) (f:∀a b g w,Way P (k==0) (G.rd k) (Lv ty Wg) S a b g w->mI P ty Wg Ch n rd0 val End r a (dd k) b (G.rd k) g w):S (G.own k) g w\/Goal P ty Wg Ch n rd0 val End w0 B0 m0 X T0 ro rk gs w sl t k:=
 (fg.Kp dS fV kC hX hT ix i j c d l m e f).imp (λh=>h w (.refl _ _ _ _)) id
theorem fg.quiet{k m:Nat}{g:cP}{r:eQ}{S:cP->dB}(o:gs[k]? =some g)(c:k≠0)(p:Goes P false (eP dp dp (Lv ty Wg)) ConcR.DC0 S m g w)(d:rk k=.num m)(f:ro k=r)(q:r≠ .cl .blk) (i:∀m g w,Goes P false (eP dp dp (Lv ty Wg)) ConcR.DC0 S m g w->mI P ty Wg Ch n rd0 val End r (.num m) (dd k) (G.own k) (G.rd k) g w):S g w\/Goal P ty Wg Ch n rd0 val End w0 B0 m0 X T0 ro rk gs w sl t k:=by
 obtain h|⟨l,rfl,h⟩:=Goes.cases p;exact .inl (h w (.refl _ _ _ _));right;obtain⟨b,w',v,e,⟨rfl,rfl⟩,j⟩:=h w (.refl _ _ _ _)
 have a:upd (λx=>nZ (jF P g b) (ro x)) k r=λx=>nZ (jF P g b) (ro x):=by
  have:nZ (jF P g b) (ro k)=r:=by rw[f];exact xk q
  have h:=qM (λx=>nZ (jF P g b) (ro x)) k;simp only[this]at h;exact h
 have s:(k==0)=false:=eV c;refine fg.go dS fV kC hX hT (st':=st) (sm':=sm) (r':=r) (τ':=.num l) o (by rw[s];exact e) (zU.zZ (.refl Wg _)) ix RZ (λ_=>rfl) ?_ ?_ (λ_ _ e u=>by simp at u) (.inr ⟨?_,?_⟩);rw[Gh.uf];exact i _ _ _ j;rw[a];exact fV.RY _;rw[a];exact vW _;rw[d];exact WT.Kk l
theorem fg.book{k:Nat}{g b:cP}{f:Array Event}{r':eQ}{τ':WT}{st' sm':Int}(q:gs[k]? =some g)(h:stepG P (k==0) g w=.go b w' f)(m:Aside Wg w w')(c:WgAt ty Wg w' st' sm') (i:oI G k (dd k) w.heap.size w.heap.size f)(r:mI P ty Wg Ch n rd0 val End r' τ' (deafBehind (dd k) f) (G.own k) (G.rd k) b w') (s:ro k≠ .cl .quit) (d:∀a,Pl n m0 a cl G gs.size st sm->(∀x,ro x≠ .cl .blk->a x=ro x)->V n m0 a=V n m0 ro->(jF P g b=true->a (m0+n)≠ .cl .blk)->Pl n m0 (upd a k r') cl G gs.size st' sm'/\meas n m0 (upd a k r')<meas n m0 a):Goal P ty Wg Ch n rd0 val End w0 B0 m0 X T0 ro rk gs w sl t k:=by have j:=m.size;have⟨u,o⟩:=d (λx=>nZ (jF P g b) (ro x)) (fV.RY _) (λx v=>xk v) (Cq _) (λy e=>by obtain x|⟨_,_,x⟩:=rC (jF P g b) (ro (m0+n));have p:nZ (jF P g b) (ro (m0+n))=.cl .blk:=e;rw[x]at p;rw[p,y]at x;cases x;rw[x]at e;cases e);rw[vW]at o;refine fg.go dS fV kC hX hT (st':=st') (sm':=sm') (r':=r') (τ':=τ') q h (.zZ m) c (by rw[j];exact i) (λ_=>j) (by rw[j,Gh.uf];exact r) u (λz l=>?_) (.inl o);exfalso;have:=fV.clq.1 z;rw[<-l]at this;exact s this
theorem fg.slip{k q d:Nat}{g:cP}{r:eQ}(u:gs[k]? =some g)(j:k≠0)(v:r≠ .cl .blk)(s:QuitsD P q d g)(a:g.status=.running)(l:rk k=.num q)(m:dd k=d)(o:ro k=r) (p:∀q d g w,QuitsD P q d g->mI P ty Wg Ch n rd0 val End r (.num q) d (G.own k) (G.rd k) g w):Goal P ty Wg Ch n rd0 val End w0 B0 m0 X T0 ro rk gs w sl t k:=by
 cases q with
 |zero=>rw[s.1]at a;cases a
 |succ q=>
  obtain⟨y,_⟩|⟨_,i,C,b,c,z⟩:=s;rw[y]at a;cases a
  have f:upd (λx=>nZ (jF P g i) (ro x)) k r=λx=>nZ (jF P g i) (ro x):=by
   have:nZ (jF P g i) (ro k)=r:=by rw[o];exact xk v
   have h:=qM (λx=>nZ (jF P g i) (ro x)) k;simp only[this]at h;exact h
  have A:(k==0)=false:=eV j;refine fg.go dS fV kC hX hT (st':=st) (sm':=sm) (r':=r) (τ':=.num q) u (by rw[A];exact c w) (zU.zZ (.refl Wg _)) ix (OL b) (λ_=>rfl) ?_ ?_ (λ_ _ e B=>touch_mute (b e B)) (.inr ⟨?_,?_⟩);rw[Gh.uf,m];exact p _ _ _ _ z;rw[f];exact fV.RY _;rw[f];exact vW _;rw[l];exact WT.Kk q
end
section
variable{P:cU}{ty:cQ}{Wg Ch n:Nat}{rd0:Nat->Prop}{val:Nat->cJ->(Nat->Prop)->cI->Prop}{End:iT}{w0:cI}{B0 m0:Nat}{X:Nat->Prop}{T0:Nat} {ro:Nat->eQ}{rk:Nat->WT}{dd:Nat->Nat}{G:Gh}{cl:Bool}{gs:Array cP}{w w':cI}{sl:Option (Nat×Nat)}{t:Trace}{st sm:Int}
variable(dS:Com P ty Wg Ch n rd0 val End w0 B0 ro rk dd G cl gs w t)(fV:Pl n m0 ro cl G gs.size st sm)(kC:zY Ch n m0 G cl t)(hX:G.x=X)(hT:G.t0=T0)(ix:WgAt ty Wg w st sm)
include dS fV kC hX hT ix
theorem fg.R3(hn:n<2147483647){i s:Nat}{g:cP}(c:i<n)(j:gs[m0+i]? =some g)(e:ro (m0+i)=.wk i s)(hs:s<=7)(H:g.status=.running):Goal P ty Wg Ch n rd0 val End w0 B0 m0 X T0 ro rk gs w sl t (m0+i):=by
 have z:=fV.pos;have M:=dS.sit _ g j;have U:m0+i<gs.size:=cK;have f:G.user (m0+i):=(fV.usr _).2 cL;have I:=(dS.wg Wg).2 (.inl rfl);have p:=dS.wglow;have A:(m0+i==0)=false:=cK;have k:ro (m0+i)≠ .cl .quit:=cK;generalize l:rk (m0+i)=τ at M;generalize o:dd (m0+i)=d at M;rw[e]at M;cases M with
 |RR h=>omega
 |u4 h=>omega
 |r0 h=>
  obtain⟨_,D,x,m,b⟩|h:=fg.quiet (sl:=sl) dS fV kC hX hT ix j cL h l e dt (λm g w h=>by rw[o];exact .r0 h);refine fg.book (r':=.wk i 6) (τ':=.num m) dS fV kC hX hT ix j (by rw[A];omega) (.refl Wg w) ix (rD (e:=mk (.releaseMerge (stA Wg))) rfl p) (by rw[o];exact .k1 b) k λa r E F _=>?_;have u:a (m0+i)=.wk i 7:=cK;exact⟨r.Wq c u dt dt,n4 z c (by grind [kL])⟩;grind
 |k1 h=>
  obtain⟨_,D,x,m,b⟩|h:=fg.quiet (sl:=sl) dS fV kC hX hT ix j cL h l e dt (λm g w h=>by rw[o];exact .k1 h);refine fg.book (r':=.wk i 5) (τ':=.num m) dS fV kC hX hT ix j (by rw[A];omega) (.refl Wg w) ix (rD (e:=mk .disable) rfl trivial) (by rw[o];exact .d1 b) k λa r E F _=>?_;have u:a (m0+i)=.wk i 6:=cK;exact⟨r.Wq c u dt dt,n4 z c (by grind [kL])⟩;grind
 |d1 h=>
  obtain⟨_,J⟩|h:=fg.quiet (sl:=sl) dS fV kC hX hT ix j cL h l e dt (λm g w h=>by rw[o];exact .d1 h);have⟨v,N,k1,k2,y,B,_,_⟩:=fV.d1 c e;subst y B;have⟨D,x,V,W⟩:=J v N k1 cL ix;by_cases O:v=0/\N=1;have⟨m,b⟩:=V O;refine fg.book (r':=.wk i 4) (τ':=.num m) dS fV kC hX hT ix j (by rw[A];omega) (aside_setCell w (stA Wg) _) (ix.setSt _) (te I f p cL) (by rw[o];exact .d2 b) k λa r E F _=>?_;have u:a (m0+i)=.wk i 5:=cK;have⟨Q,C,Y,Z,j3,j4,S,T⟩:=r.d1 c u;have:Q=v/\C=N:=by grind [KK]
  obtain⟨rfl,rfl⟩:=this;exact⟨S O,n4 z c (by grind [kL])⟩;have⟨q,K⟩:=W O;refine fg.book (r':=.wk i 1) (τ':=.num q) dS fV kC hX hT ix j (by rw[A];omega) (aside_setCell w (stA Wg) _) (ix.setSt _) (te I f p cL) (by rw[o];exact .quit K) k λa r E F _=>?_;have u:a (m0+i)=.wk i 5:=cK;have⟨Q,C,Y,Z,j3,j4,S,T⟩:=r.d1 c u;have:Q=v/\C=N:=by grind [KK]
  obtain⟨rfl,rfl⟩:=this;exact⟨T O,n4 z c (by grind [kL])⟩;grind
 |d2 h=>
  obtain⟨_,L⟩|h:=fg.quiet (sl:=sl) dS fV kC hX hT ix j cL h l e dt (λm g w h=>by rw[o];exact .d2 h);have⟨_,_,y,B⟩:=fV.isLast c e dt;simp only[Nat.reduceEqDiff,fj]at y;subst y B;have⟨D,x,m,b⟩:=L ix;refine fg.book (r':=.wk i 3) (τ':=.num m) dS fV kC hX hT ix j (by rw[A];omega) (.refl Wg w) ix (zX I f p cL) (by rw[o];exact .d3 b) k λa r E F _=>?_;have u:a (m0+i)=.wk i 4:=cK;exact⟨r.last c u cL,n4 z c (by grind [kL])⟩;grind
 |d3 h=>
  obtain⟨_,L⟩|h:=fg.quiet (sl:=sl) dS fV kC hX hT ix j cL h l e dt (λm g w h=>by rw[o];exact .d3 h);have⟨_,_,y,B⟩:=fV.isLast c e dt;simp only[Nat.reduceEqDiff,fj]at y;subst y B;have⟨D,x,m,b⟩:=L ix;refine fg.book (r':=.wk i 2) (τ':=.num m) dS fV kC hX hT ix j (by rw[A];omega) (aside_setCell w (stA Wg) _) (ix.setSt 0) (U9 I f p cL) (by rw[o];exact .d4 b) k λa r E F _=>?_;have u:a (m0+i)=.wk i 3:=cK;exact⟨r.last c u cL,n4 z c (by grind [kL])⟩;grind
 |d4 h=>
  obtain⟨_,aa,L⟩|h:=fg.quiet (sl:=sl) dS fV kC hX hT ix j cL h l e dt (λm g w h=>by rw[o];exact .d4 h);have⟨_,_,y,B⟩:=fV.isLast c e dt;simp only[ej]at y;subst y B;have⟨D,x,q,K⟩:=L ix;have R:D.status=.running:=by
   cases q with
   |zero=>exact absurd K.2 cK
   |succ q=>exact K.elim cK cK
  refine fg.book (r':=.wk i 1) (τ':=.num q) dS fV kC hX hT ix j (by rw[A];omega) (aside_setCell w (smA Wg) _) (ix.setSm 1) (Ko I f p) (by rw[o];exact .quit (d:=deafBehind 1 (semEvents (smA Wg))) (by simpa[deafBehind,semEvents]using K)) k λa r E F h4=>?_;have u:a (m0+i)=.wk i 2:=cK;exact⟨r.raise c u (h4 (by grind [jF])),n4 z c (by grind [kL])⟩;grind
 |quit h=>exact fg.slip dS fV kC hX hT ix j cL dt h H l o e λ_ _ _ _ h=>.quit h
theorem fg.IG(hn:n<2147483647){c:CT}{g:cP}(o:gs[m0+n]? =some g)(e:ro (m0+n)=.cl c)(R:g.status=.running):Goal P ty Wg Ch n rd0 val End w0 B0 m0 X T0 ro rk gs w sl t (m0+n)\/(c=.cl/\VX P Ch (G.own (m0+n)) g w/\dd (m0+n)=0)\/(c=.w3/\stepG P false g w=.go {g with status:=.blocked} w #[]/\(∀w1,eP (G.own (m0+n)) (G.rd (m0+n)) (Lv ty Wg) w w1->Wn P ty Wg Ch (G.rd (m0+n)) (G.own (m0+n)) g w1)/\dd (m0+n)=1/\sm=0):=by
 have E:=fV.pos;have Q:=dS.sit _ g o;have af:m0+n<gs.size:=cK;have l:G.user (m0+n):=(fV.usr _).2 cL;have L:=(dS.wg Wg).2 (.inl rfl);have A:=dS.wglow;have j:(m0+n==0)=false:=cK;have u:¬G.done (m0+n):=λh=>by obtain x|⟨i,s,x,_⟩:=(fV.done _).1 h;omega;grind
 have T:m0+n=G.sayer:=by rw[fV.say,e];rfl
 generalize p:rk (m0+n)=H at Q;generalize q:dd (m0+n)=d at Q;generalize B:G.own (m0+n)=v at Q;generalize a:G.rd (m0+n)=rc at Q;rw[e]at Q;cases Q with
 |Ub F h=>
  obtain⟨_,J,y,ab,C⟩|h:=fg.idle (sl:=sl) dS fV kC hX hT ix (k:=m0+n) o (by rw[j,B,a];exact h) p e dt dt u (λH v g w h=>by rw[q,a];rw[j,a]at h;exact .Ub F h);have⟨τ',b⟩:=Way.bind C F.walk;refine .inl (fg.book (r':=.cl .w1) (τ':=τ') dS fV kC hX hT ix o (by rw[j];omega) (.refl Wg w) ix (rD (e:=mk .disable) rfl trivial) (by rw[q,a];exact .RS F b) cK λf m I D _=>?_);have z:f (m0+n)=.cl .kd:=cK;exact⟨m.zW z trivial trivial dt,nm E (by grind [OH,qf])⟩;grind
 |RS F h=>
  obtain⟨_,U⟩|h:=fg.idle (sl:=sl) dS fV kC hX hT ix (k:=m0+n) o (by rw[j,B,a];exact h) p e dt dt u (λH v g w h=>by rw[q,a];rw[j,a]at h;exact .RS F h);have⟨r,S,s,h0,hz,M,_⟩:=fV.recv e;have⟨_,_,N,W⟩:=fV.mode.zV (by rw[e];trivial);rw[M,pC]at N;subst N W;have ad:=OH n m0 ro;have⟨J,y,ha,Y⟩:=U (V n m0 ro) cL ix;by_cases K:V n m0 ro=0;have⟨τ',b⟩:=ha K;refine .inl (fg.book (r':=.cl .ke) (τ':=τ') dS fV kC hX hT ix o (by rw[j];omega) (.refl Wg w) ix (zX L l A cL) (by rw[q,a];exact .RX b) cK λf m I D _=>?_);have z:f (m0+n)=.cl .w1:=cK;have⟨j1,j2,j3⟩:=m.U8 z (D.trans K);refine⟨cK,nm E (by grind [qf])⟩;have⟨τ',b⟩:=Y K;refine .inl (fg.book (r':=.cl (.w2 (V n m0 ro))) (τ':=τ') dS fV kC hX hT ix o (by rw[j];omega) (.refl Wg w) ix (zX L l A cL) (by rw[q,a];exact .Uc F b) cK λf m I D _=>?_);have z:f (m0+n)=.cl .w1:=cK;refine⟨m.zW z trivial trivial cK,nm E (by grind [qf])⟩;grind
 | @Uc _ _ _ ae vs _ _ F h=>
  obtain⟨_,U⟩|h:=fg.idle (sl:=sl) dS fV kC hX hT ix (k:=m0+n) o (by rw[j,B,a];exact h) p e dt dt u (λH v g w h=>by rw[q,a];rw[j,a]at h;exact .Uc F h);have⟨r,S,s,h0,hz,M,_⟩:=fV.recv e;have⟨_,Z,N,W⟩:=fV.mode.zV (by rw[e];trivial);have Z:=Z _ e;rw[M,pC]at N;subst N W;have ad:=OH n m0 ro;have⟨ha,Y⟩:=U (V n m0 ro) cL ix;by_cases K:V n m0 ro=vs;have⟨J,y,τ',b⟩:=ha K;refine .inl (fg.book (r':=.cl .sw) (τ':=τ') dS fV kC hX hT ix o (by rw[j];omega) (aside_setCell w (stA Wg) _) (ix.setSt _) (te L l A cL) (by rw[q,a];exact .Ud b) cK λf m I D _=>?_);have z:f (m0+n)=.cl (.w2 vs):=cK;refine⟨by rw[K];exact m.Zk z (D.trans K),nm E (by grind [qf])⟩;have⟨J,y,ab,C⟩:=Y K;have⟨τ',b⟩:=Way.bind C F.walk;refine .inl (fg.book (r':=.cl .w1) (τ':=τ') dS fV kC hX hT ix o (by rw[j];omega) (.refl Wg w) ix (zX L l A cL) (by rw[q,a];exact .RS F b) cK λf m I D _=>?_);have z:f (m0+n)=.cl (.w2 vs):=cK;refine⟨m.zW z trivial trivial dt,nm E (by grind [qf])⟩;grind
 |Ud h=>
  obtain⟨_,J,y,τ',b⟩|h:=fg.idle (sl:=sl) dS fV kC hX hT ix (k:=m0+n) o (by rw[j,B,a];exact h) p e dt dt u (λH v g w h=>by rw[q,a];rw[j,a]at h;exact .Ud h);refine .inl (fg.book (r':=.cl .w3) (τ':=τ') dS fV kC hX hT ix o (by rw[j];exact y) (.refl Wg w) ix (FL (w:=true) L l T A) (by rw[q,a];exact .RU b) cK λf m I D _=>?_);have z:f (m0+n)=.cl .sw:=cK;exact⟨m.Ws z trivial trivial dt,nm E (by grind [qf])⟩;grind
 |RU h=>
  obtain aa|h:=fg.Kp (sl:=sl) dS fV kC hX hT ix (k:=m0+n) o (by rw[j,B,a];exact h) p e dt dt u (λH v g w h=>by rw[q,a];rw[j,a]at h;exact .RU h);have O:=aa w (.refl _ _ _ _);rw[B]at O;have⟨_,ag,ha,Y⟩:=O;obtain h0|⟨rfl,rfl,_⟩:=fV.FK e;grind;have⟨J,y,τ',b⟩:=Y ix;refine .inl (fg.book (r':=.cl .w4) (τ':=τ') dS fV kC hX hT ix o (by rw[j];omega) (aside_setCell w (smA Wg) _) (ix.setSm 0) (Ko L l A) (by rw[q,a,B];exact .Ue b) cK λf m I D _=>?_);have z:f (m0+n)=.cl .w3:=cK;obtain x|⟨_,_,x⟩:=m.FK z;grind;exact⟨x,nm E (by grind [qf])⟩;grind
 |RV h=>grind
 |Ue h=>
  obtain⟨_,U⟩|h:=fg.idle (sl:=sl) dS fV kC hX hT ix (k:=m0+n) o (by rw[j,B,a];exact h) p e dt dt u (λH v g w h=>by rw[q,a];rw[j,a]at h;exact .Ue h);have⟨_,N,W⟩:=fV.mode.ofFin (by rw[e];trivial);subst N W;have⟨J,y,τ',b⟩:=U ix;refine .inl (fg.book (r':=.cl .ke) (τ':=τ') dS fV kC hX hT ix o (by rw[j];omega) (.refl Wg w) ix (zX L l A cL) (by rw[q,a];exact .RX b) cK λf m I D _=>?_);have z:f (m0+n)=.cl .w4:=cK;exact⟨m.Km (c':=.ke) z trivial trivial (by have:=m.clq;grind) (.inl rfl),nm E (by grind [qf])⟩;grind
 |RX h=>
  obtain⟨_,J,y,τ',b⟩|h:=fg.idle (sl:=sl) dS fV kC hX hT ix (k:=m0+n) o (by rw[j,B,a];exact h) p e dt dt u (λH v g w h=>by rw[q,a];rw[j,a]at h;exact .RX h);refine .inl (fg.book (r':=.cl .ac) (τ':=τ') dS fV kC hX hT ix o (by rw[j];omega) (.refl Wg w) ix (rD (e:=mk .enable) rfl trivial) (by rw[q,a];exact .Uf b) cK λf m I D _=>?_);have z:f (m0+n)=.cl .ke:=cK;exact⟨m.Km (c':=.ac) z trivial trivial (by have:=m.clq;grind) (.inl rfl),nm E (by grind [qf])⟩;grind
 |Uf h=>
  obtain⟨_,J,y,τ',b⟩|h:=fg.idle (sl:=sl) dS fV kC hX hT ix (k:=m0+n) o (by rw[j,B,a];exact h) p e dt dt u (λH v g w h=>by rw[q,a];rw[j,a]at h;exact .Uf h);refine .inl (fg.book (r':=.cl .cl) (τ':=τ') dS fV kC hX hT ix o (by rw[j];omega) (.refl Wg w) ix (rD (e:=mk (.acquire (stA Wg))) rfl A) (by rw[q,a];exact .Ug b) cK λf m I D _=>?_);have z:f (m0+n)=.cl .ac:=cK;exact⟨m.Km (c':=.cl) z trivial trivial (by have:=m.clq;grind) (.inl rfl),nm E (by grind [qf])⟩;grind
 |Ug h=>
  obtain O|h:=fg.idle (sl:=sl) dS fV kC hX hT ix (k:=m0+n) o (by rw[j,B,a];exact h) p e dt dt u (λH v g w h=>by rw[q,a];rw[j,a]at h;exact .Ug h);grind;grind
 |Rw h=>exact .inl (fg.slip dS fV kC hX hT ix o cL dt h R p q e λ_ _ _ _ h=>.Rw h)
end
end Go.dz.Cr
namespace Go.dz.Kn
open Go.Conc Go.dz
def nC{t u:Trace}(f:∀b∈u,b.act.touch?=none){a:Touch}(c:touchAt (t++u) i=some a):i<t.size/\touchAt t i=some a:=by have⟨b,d,e⟩:=touch_of c;grind [getElem?_append_cases,touchAt_of]
def Gh.child(G:Gh)(k c:Nat)(a:dn):Gh where
 own:=λx b=>if x=0 then G.own 0 b/\¬a b else if x=k then False else G.own x b
 rd:=λx b=>if x=k then G.rd 0 b\/a b else G.rd x b
 wg:=G.wg
 user:=λx=>G.user x\/x=k
 sayer:=c
 x:=G.x
 done:=G.done
 t0:=G.t0
theorem Gh.Fits.child{G:Gh}(h:G.Fits m)(t:k≠0)(r:¬G.done k)(j:i=G.sayer\/i=k)(l:∀b,A b->G.own 0 b):(G.child k i A).Fits m:=by
 have f:∀x b,(G.child k i A).own x b->G.own x b/\(x=0->¬A b)/\x≠k:=by intro x b a;grind [Gh.child,absurd]
 have n:∀x b,(G.child k i A).rd x b->(x≠k/\G.rd x b)\/(x=k/\(G.rd 0 b\/A b)):=by intro x b a;grind [Gh.child]
 refine⟨λx b a=>h.own x b (f x b a).1,λx b a=>?_,h.wg,λx y b d c=>h.one x y b (f x b d).1 (f y b c).1,λx y b d c=>?_,λx b d c=>h.ownwg x b (f x b d).1 c,λx b d c=>?_,λx o=>?_⟩;obtain⟨_,a⟩|⟨_,a|a⟩:=n x b a;exact h.rd x b a;exact h.rd 0 b a;exact h.own 0 b (l b a);have⟨g,p,q⟩:=f x b d;obtain⟨_,a⟩|⟨_,a|a⟩:=n y b c;exact h.still x y b g a;exact h.still x 0 b g a;have:=h.one x 0 b g (l b a);grind;obtain⟨_,a⟩|⟨_,a|a⟩:=n x b d;exact h.rdwg x b a c;exact h.rdwg 0 b a c;exact h.ownwg 0 b (l b a) c;have s:x≠k:=λe=>r (e▸o);have⟨g,p,q,u⟩:=h.done x o;refine⟨g,?_,λb a=>q b (f x b a).1,λb a=>?_⟩;obtain e|e:=j;exact e▸p;show i≠x;omega;grind
theorem gG.child{G:Gh}{t:Trace}{x y:MemOp}(h:gG G m t)(s:x.g=0/\x.act=.go k)(u:y.g=k/\y.act=.start)(H:Deaf t 0=0)(I:Deaf t k=0)(J:G.user 0) (v:i=G.sayer\/(i=k/\G.sayer=0))(K:∀b,A b->G.own 0 b)(L:k≠0):gG (G.child k i A) m (t++#[x,y]):=by
 have n:∀o∈#[x,y],o=x\/o=y:=by grind
 have w:∀o∈#[x,y],o.act.touch?=none:=by
  intro o p;obtain rfl|rfl:=n o p
  ·rw[s.2];rfl
  ·rw[u.2];rfl
 have r:gG G m (t++#[x,y]):=h.Kj w λo p=>by
  obtain rfl|rfl:=n o p
  ·rw[s.2];trivial
  ·rw[u.2];trivial
 have D:∀{f},Knows t 0 f->Knows (t++#[x,y]) k f:=λM=>FI s u H I M;refine r.FH (λz b d f a j c=>?_) (λz b d f a j c E=>?_) (λb d f a j c=>?_) rfl λz f q a j B C=>?_
 ·simp only[Gh.child]at d;split at d
  ·next e=>subst e;exact r.own f a 0 b j c d.1
  ·split at d
   ·grind
   ·exact r.own f a z b j c d
 ·simp only[Gh.child]at d;split at d
  ·next e=>
   subst e;have⟨_,l⟩:=nC w j;obtain d|d:=d
   ·exact D (h.rd f a 0 b l c d E)
   ·exact D (h.own f a 0 b l c (K b d))
  ·exact r.rd f a z b j c d E
 ·have⟨_,l⟩:=nC w j;obtain e|⟨e,N⟩|e:=h.wg f a b l c d
  ·grind
  ·refine .inr (.inl ⟨e,?_⟩);show Knows _ i f;obtain F|⟨F,O⟩:=v
   ·rw[F];exact N.app _
   grind
  ·refine .inr (.inr λz q=>?_);obtain q|q:=q
   ·exact(e z q).app _
   grind
 ·exact r.told f a z j B C q
def Gh.hand(G:Gh)(j:Nat):Gh where
 own:=λx b=>if x=0 then G.own 0 b\/G.own j b else if x=j then False else G.own x b
 rd:=λx b=>if x=j then False else G.rd x b
 wg:=G.wg
 user:=G.user
 sayer:=G.sayer
 x:=G.x
 done:=λx=>G.done x\/x=j
 t0:=G.t0
theorem Gh.Fits.hand{G:Gh}(h:G.Fits m)(p:j≠0)(l:G.sayer≠j):(G.hand j).Fits m:=by
 have g:∀x b,(G.hand j).own x b->(x=0/\(G.own 0 b\/G.own j b))\/(x≠0/\x≠j/\G.own x b):=by intro x b f;grind [Gh.hand]
 have i:∀x b,(G.hand j).rd x b->G.rd x b/\x≠j:=by intro x b f;grind [Gh.hand]
 refine⟨λx b f=>?_,λx b f=>h.rd x b (i x b f).1,h.wg,λx y b a c=>?_,λx y b a c=>?_,λx b a c=>?_,λx b a c=>h.rdwg x b (i x b a).1 c,λx d=>?_⟩;obtain⟨_,a|a⟩|⟨_,_,a⟩:=g x b f;exact h.own 0 b a;exact h.own j b a;exact h.own x b a;obtain⟨rfl,a|a⟩|⟨q,n,a⟩:=g x b a<;>obtain⟨rfl,c|c⟩|⟨r,o,c⟩:=g y b c;rfl;rfl;exact h.one _ _ _ a c;rfl;rfl;exact absurd (h.one _ _ _ a c).symm o;exact h.one _ _ _ a c;exact absurd (h.one _ _ _ a c) n;exact h.one _ _ _ a c;obtain⟨_,a|a⟩|⟨_,_,a⟩:=g x b a;exact h.still 0 y b a (i y b c).1;exact h.still j y b a (i y b c).1;exact h.still x y b a (i y b c).1;obtain⟨_,a|a⟩|⟨_,_,a⟩:=g x b a;exact h.ownwg _ _ a c;exact h.ownwg _ _ a c;exact h.ownwg _ _ a c;have k:x≠0:=by obtain d|rfl:=d;exact(h.done x d).1;grind
 refine⟨k,?_,λb f=>?_,λb f=>?_⟩;obtain d|rfl:=d;exact(h.done x d).2.1;exact l;obtain⟨e,_⟩|⟨_,e,f⟩:=g x b f;grind;obtain d|d:=d;exact(h.done x d).2.2.1 b f;grind;have⟨f,e⟩:=i x b f;obtain d|d:=d;exact(h.done x d).2.2.2 b f;grind
theorem gG.hand{G:Gh}{n j c s cap:Nat}{t:Trace}{p q r u:MemOp}(h:gG G n t)(B:p.g=j/\p.act=.send c s)(C:q.g=0/\q.act=.recv c s cap)(D:r.g=j/\r.act=.sendDone c s)(E:u.g=0/\u.act=.recvDone c s) (J:Deaf t j=0)(F:Deaf t 0=0)(A:c<n):gG (G.hand j) n (t++#[p,q,r,u]):=by
 have v:∀k∈#[p,q,r,u],k=p\/k=q\/k=r\/k=u:=by simp
 have H:∀k∈#[p,q,r,u],k.act.touch?=none:=by
  intro k m;obtain rfl|rfl|rfl|rfl:=v k m
  ·rw[B.2];rfl
  ·rw[C.2];rfl
  ·rw[D.2];rfl
  ·rw[E.2];rfl
 have w:gG G n (t++#[p,q,r,u]):=h.Kj H λk m=>by
  obtain rfl|rfl|rfl|rfl:=v k m
  ·rw[B.2];exact A
  ·rw[C.2];exact A
  ·rw[D.2];exact A
  ·rw[E.2];exact A
 have K:∀{i},Knows t j i->Knows (t++#[p,q,r,u]) 0 i:=λI=>DK B C D E J F I;refine w.FH (λz b d i a l f=>?_) (λz b d i a l f L=>?_) (λb d i a l f=>w.wg i a b l f d) rfl λz i x a l y o=>?_
 ·simp only[Gh.hand]at d;split at d
  ·next e=>
   subst e;obtain d|d:=d
   ·exact w.own i a 0 b l f d
   ·exact K (h.own i a j b (nC H l).2 f d)
  ·split at d
   ·grind
   ·exact w.own i a z b l f d
 ·simp only[Gh.hand]at d;split at d
  ·grind
  ·exact w.rd i a z b l f d L
 ·obtain(x|rfl)|x:=x
  ·exact w.told i a z l y o (.inl x)
  ·have⟨I,M⟩:=nC H l;rw[g?_old I]at o;have⟨k,m,N⟩:=iC.1 o;grind [knows_own]
  ·exact w.told i a z l y o (.inr x)
theorem qN{t:Trace}(k:Nat):∀(l:List MemOp),(∀a∈l,a.act≠ .mark .disable/\a.act≠ .mark .enable)->Deaf (t++l.toArray) k=Deaf t k:=by
 intro l b;rw[Deaf_append];generalize Deaf t k=d;induction l with
 |nil=>rfl
 |cons y l c=>
  grind [deafStep,absurd]
def gG.shut{G:Gh}{t:Trace}{y:MemOp}(h:gG G m t)(J:t.act? p=some (.close k))(K:t.heard p)(A:t.g? p=some i)(B:∀c a,G.t0<=c->touchAt t c=some a->a.loc.isMemory=true->t.g? c=some i->c<p)
 (C:y.g=0/\y.act=.recvClosed k)(L:Deaf t 0=0)(M:k<m)(H:∀c g,G.t0<=c->t.g? c=some g->g=0\/G.done g\/g=i):Past (pE λb=>G.wg b\/G.x b) m (t++#[y]):=by
 have I:∀j∈#[y],j.act.touch?=none:=by intro j e;have:j=y:=cK;subst this;rw[C.2];rfl
 have o:gG G m (t++#[y]):=h.Kj I λj e=>by have:j=y:=cK;subst this;rw[C.2];exact M
 let N:Gh:={own:=λ_ _=>False,rd:=λ_ _=>False,wg:=G.wg,user:=λ_=>False,sayer:=G.sayer,x:=G.x,done:=λx=>G.done x\/x=i,t0:=G.t0};have O:gG N m (t++#[y]):=o.FH (λ_ _ q=>q.elim) (λ_ _ q=>q.elim) (λb q c a n D=>(o.wg c a b n D q).imp id (Or.imp id λ_ _ l=>l.elim)) rfl λz c l a n f d=>by obtain(l|rfl)|l:=l;exact o.told c a z n f d (.inl l);obtain r|r:=gu c G.t0;exact o.told c a z n f d (.inr r);have⟨s,E⟩:=nC I n;rw[g?_old s]at d;have F:=B c a r E f d;have⟨j,e,u⟩:=iC.1 d;have⟨P,v,w⟩:=iC.1 A;exact .inl (DL J K (.inr (hb_po F e v (u.trans w.symm))) C L);exact o.told c a z n f d (.inr l)
 have Q:Deaf (t++#[y]) 0=0:=by grind [qN]
 refine O.past (λc g R=>?_) Q;obtain r|r:=gu c G.t0;grind;obtain s|S:=gu c t.size;grind [g?_old];have⟨j,e,u⟩:=iC.1 R;grind
end Go.dz.Kn
namespace Go.dz.Cr
open Go.Conc Go.dz Go.dz.Kn
open Go.ConcR (KK wgBlock WgAt stA smA mk)
open Go.ConcN (sumTo upd sumTo_upd upd_ne upd_same sumTo_congr le_sumTo sumTo_le)
section
variable{P:cU}{ty:cQ}{Wg Ch n:Nat}{rd0:Nat->Prop}{val:Nat->cJ->(Nat->Prop)->cI->Prop}{End:iT}{w0:cI}{B0 m0:Nat}{X:Nat->Prop}{T0:Nat} {ro:Nat->eQ}{rk:Nat->WT}{dd:Nat->Nat}{G:Gh}{cl:Bool}{gs:Array cP}{w w':cI}{sl:Option (Nat×Nat)}{t:Trace}{st sm:Int}
theorem Gh.IH(G:Gh){k c:Nat}{a:dn}:(G.child k c a).own 0=λb=>G.own 0 b/\¬a b:=by grind [Gh.child]
theorem Gh.II(G:Gh){k b:Nat}{a:dn}(c:k≠0):(G.child k b a).own k=dp:=by grind [Gh.child]
theorem Gh.L8(G:Gh){k b x:Nat}{a:dn}(c:x≠0)(d:x≠k):(G.child k b a).own x=G.own x:=by grind [Gh.child]
theorem Gh.L9(G:Gh){k c:Nat}{a:dn}:(G.child k c a).rd k=λb=>G.rd 0 b\/a b:=by grind [Gh.child]
theorem Gh.FM(G:Gh){k b x:Nat}{a:dn}(c:x≠k):(G.child k b a).rd x=G.rd x:=by grind [Gh.child]
theorem Com.spawn(h:Com P ty Wg Ch n rd0 val End w0 B0 ro rk dd G cl gs w t){g z child:cP}{r0' rc':eQ}{τ0 τc:WT}{sy:Nat}{give:dn}{fn fn':dY}{pos pos':String}(I:gs[0]? =some g)(f:dd 0=0) (A:∀b,give b->G.own 0 b)(p:sy=G.sayer\/(sy=gs.size/\G.sayer=0))(q:G.user 0)(r:¬G.done gs.size)
 (D:mI P ty Wg Ch n rd0 val End r0' τ0 0 (λb=>G.own 0 b/\¬give b) (G.rd 0) z w)(E:mI P ty Wg Ch n rd0 val End rc' τc 0 dp (λb=>G.rd 0 b\/give b) child w):
 Com P ty Wg Ch n rd0 val End w0 B0 (upd (upd ro gs.size rc') 0 r0') (upd (upd rk gs.size τc) 0 τ0) dd (G.child gs.size sy give) cl ((gs.setIfInBounds 0 z).push child) w (t++#[{g:=0,fn,pos,act:=.go gs.size},{g:=gs.size,fn:=fn',pos:=pos',act:=.start}]):=by
 have j:0<gs.size:=cK;have c:gs.size≠0:=cL;have u:dd gs.size=0:=h.above _ (dg _);refine⟨λx o d=>?_,?_,?_,λx=>?_,λx B=>?_,h.wg,λx b a=>?_,h.wgch,h.wglow,λi x F B=>?_,λx b a=>?_,h.base,h.grown,h.world,h.live,h.ch⟩
 ·rw[sg]at d;split at d
  ·grind [Option.some.inj,upd_ne,upd_same,Gh.II,Gh.L9]
  ·next e=>
   have m:x≠gs.size:=cK;by_cases k:x=0
   ·subst k;rw[oz j]at d;obtain rfl:=dQ d;rw[upd_same,upd_same,Gh.IH,Gh.FM _ (jc c),f];grind
   ·rw[fZ (jc k)]at d;rw[upd_ne _ _ k,upd_ne _ _ m,upd_ne _ _ k,upd_ne _ _ m,Gh.L8 _ k m,Gh.FM _ m];exact h.sit x o d
 ·exact h.kn.child ⟨rfl,rfl⟩ ⟨rfl,rfl⟩ (by rw[h.deaf,f]) (by rw[h.deaf,u]) q p A c
 ·exact h.fits.child c r cL A
 ·have:=qN (t:=t) x [{g:=0,fn,pos,act:=.go gs.size},{g:=gs.size,fn:=fn',pos:=pos',act:=.start}] dt;exact this.trans (h.deaf x)
 ·have H:gs.size+1<=x:=cK;exact h.above x cL
 ·have J:Ch<w.lH:=by have⟨s,K⟩:=h.ch;grind
  obtain a|a:=a
  ·refine h.off x b (.inl ?_);grind [Gh.child]
  ·simp only[Gh.child]at a;split at a
   ·obtain a|a:=a
    ·exact h.off 0 b (.inr a)
    ·exact h.off 0 b cK
   ·exact h.off x b (.inr a)
 ·have⟨L,v,y⟩:=iC.1 B;obtain⟨_,l⟩|⟨_,C⟩:=getElem?_append_cases v
  ·have:=h.gsz i x F (by simp[Trace.g?,l,y]);grind
  grind
 ·simp only[Gh.child]at a;split at a
  ·next e=>exact h.new 0 b a.1
  ·split at a
   ·grind
   ·exact h.new x b a
theorem Gh.Ma(G:Gh){j:Nat}:(G.hand j).own 0=λb=>G.own 0 b\/G.own j b:=by grind [Gh.hand]
theorem Gh.OM(G:Gh){j x:Nat}(a:x≠0)(b:x≠j):(G.hand j).own x=G.own x:=by grind [Gh.hand]
theorem Gh.Kq(G:Gh){j x:Nat}(a:x≠j):(G.hand j).rd x=G.rd x:=by grind [Gh.hand]
structure tf(Ch:Nat)(w w':cI):Prop where
 tape:w'.tape=w.tape
 os:w'.os=w.os
 output:w'.output=w.output
 size:w'.heap.size=w.heap.size
 same:∀b,b≠Ch->w'.heap[b]? =w.heap[b]?
theorem tf.set(w:cI)(d a:Nat)(c:eF)(cl:Bool)(s r:Nat)(e:Bool):tf Ch w ((w.at d).setChan Ch a c cl s r e):=by refine⟨rfl,rfl,rfl,by simp[World.setChan,World.at],λb f=>?_⟩;simp[World.setChan,World.at,fZ (jc f)]
theorem setChan_at(w:cI)(d a:Nat)(b:eF)(cl:Bool)(s r:Nat)(c:Bool)(h:Ch<w.heap.size):((w.at d).setChan Ch a b cl s r c).heap[Ch]? =some (.chan a b cl s r c):=by simp[World.setChan,World.at,h]
theorem tf.rely(h:tf Ch w w'){own rd:dn}(a:∀b,own b\/rd b->b≠Ch)(c:Wg≠Ch):eP own rd (Lv ty Wg) w w':=
 ⟨h.tape,h.os,h.output,by rw[h.size];grind,λb _ d=>h.same b (a b d),λ⟨st,sm,e⟩=>⟨st,sm,e.of_block (h.same Wg c)⟩⟩
theorem Com.hand(h:Com P ty Wg Ch n rd0 val End w0 B0 ro rk dd G cl gs w t){j:Nat}{d:Array cP}{a b:cP}{r0' rj':eQ}{τ0 τj:WT}{s cap:Nat}{fn fn' fn2 fn3:dY}{pos pos' pos2 pos3:String} (f:j≠0)(J:j<gs.size)(E:0<gs.size)(k:dd 0=0)(v:dd j=0)(l:G.sayer≠j) (y:d.size=gs.size)(K:d[0]? =some a)(c:d[j]? =some b)(m:∀x,x≠0->x≠j->d[x]? =gs[x]?)(e:tf Ch w w')(z:∃s,w'.heap[Ch]? =some (.chan 0 #[] cl s s false))
 (L:mI P ty Wg Ch n rd0 val End r0' τ0 0 (λx=>G.own 0 x\/G.own j x) (G.rd 0) a w')(M:∀A N,mI P ty Wg Ch n rd0 val End rj' τj 0 A N b w'):
 Com P ty Wg Ch n rd0 val End w0 B0 (upd (upd ro j rj') 0 r0') (upd (upd rk j τj) 0 τ0) dd (G.hand j) cl d w' (t++#[{g:=j,fn,pos,act:=.send Ch s},{g:=0,fn:=fn',pos:=pos',act:=.recv Ch s cap},{g:=j,fn:=fn2,pos:=pos2,act:=.sendDone Ch s},{g:=0,fn:=fn3,pos:=pos3,act:=.recvDone Ch s}]):=by
 have B:Ch<w.lH:=by have⟨s,S⟩:=h.ch;grind
 refine⟨λx o u=>?_,?_,?_,λx=>?_,λx F=>h.above x cK,h.wg,λx b c=>?_,h.wgch,by rw[e.size];exact h.wglow,λi x O F=>?_,λx b c=>?_,λb c Q H=>(e.same b H).trans (h.base b c Q H),by rw[e.size];exact h.grown,
  ⟨e.tape.trans h.world.1,e.os.trans h.world.2.1,e.output.trans h.world.2.2⟩,?_,z⟩
 by_cases p:x=0;subst p;rw[K]at u;obtain rfl:=dQ u;rw[upd_same,upd_same,Gh.Ma,Gh.Kq _ (jc f),k];grind;by_cases q:x=j;grind [Option.some.inj,upd_ne,upd_same];rw[m x p q]at u;rw[upd_ne _ _ p,upd_ne _ _ q,upd_ne _ _ p,upd_ne _ _ q,Gh.OM _ p q,Gh.Kq _ q];exact(h.sit x o u).rely (e.rely (h.off x) h.wgch);rw[e.size];exact h.kn.hand ⟨rfl,rfl⟩ ⟨rfl,rfl⟩ ⟨rfl,rfl⟩ ⟨rfl,rfl⟩ (by rw[h.deaf,v]) (by rw[h.deaf,k]) B;rw[e.size];exact h.fits.hand f l;have:=qN (t:=t) x [{g:=j,fn,pos,act:=.send Ch s},{g:=0,fn:=fn',pos:=pos',act:=.recv Ch s cap},{g:=j,fn:=fn2,pos:=pos2,act:=.sendDone Ch s},{g:=0,fn:=fn3,pos:=pos3,act:=.recvDone Ch s}] dt;exact this.trans (h.deaf x);obtain c|c:=c;simp only[Gh.hand]at c;split at c;obtain c|c:=c;exact h.off _ b (.inl c);exact h.off _ b (.inl c);split at c;grind;exact h.off x b (.inl c);simp only[Gh.hand]at c;split at c;grind;exact h.off x b (.inr c);rw[y];have⟨T,C,D⟩:=iC.1 F;obtain⟨_,r⟩|⟨_,I⟩:=getElem?_append_cases C;exact h.gsz i x O (by simp[Trace.g?,r,D]);grind;simp only[Gh.hand]at c;split at c;obtain c|c:=c;exact h.new _ b c;exact h.new _ b c;split at c;grind;exact h.new x b c;have⟨st,sm,R⟩:=h.live;exact⟨st,sm,R.of_block (e.same Wg h.wgch)⟩
theorem Com.u4(h:Com P ty Wg Ch n rd0 val End w0 B0 ro rk dd G cl gs w t){k:Nat}{g':cP}{r':eQ}{τ':WT}(c:k<gs.size)(f:mI P ty Wg Ch n rd0 val End r' τ' (dd k) (G.own k) (G.rd k) g' w):Com P ty Wg Ch n rd0 val End w0 B0 (upd ro k r') (upd rk k τ') dd G cl (gs.setIfInBounds k g') w t:=
 {h with
  sit:=λx o a=>by by_cases e:x=k;subst e;rw[oz c]at a;grind [Option.some.inj,upd_same];rw[fZ (jc e)]at a;rw[upd_ne _ _ e,upd_ne _ _ e];exact h.sit x o a
  above:=λx b=>h.above x cK
  gsz:=λi x d b=>eV (h.gsz i x d b)}
end
section
variable{P:cU}{ty:cQ}{Wg Ch n:Nat}{rd0:Nat->Prop}{val:Nat->cJ->(Nat->Prop)->cI->Prop}{End:iT}{w0:cI}{B0 m0:Nat}{X:Nat->Prop}{T0:Nat} {ro:Nat->eQ}{rk:Nat->WT}{dd:Nat->Nat}{G:Gh}{cl:Bool}{gs:Array cP}{w w':cI}{sl:Option (Nat×Nat)}{t:Trace}{st sm:Int}
theorem mI.R4{r:eQ}{c:WT}{d:Nat}{a e:dn}{g:cP}(h:mI P ty Wg Ch n rd0 val End r c d a e g w):offersAt g Ch true=[]\/∃i v z b,r=.wk i 8/\d=0/\g=parked b #[scase Ch v z] .send/\AtSend P ty Wg Ch val i v z a b w:=by
 obtain f|⟨_,f⟩:=h.running;grind [offersAt_of_not_blocked];cases h with
 |u4 h=>exact .inr ⟨_,_,_,_,rfl,rfl,rfl,h w (.refl _ _ _ _)⟩
 |N7 h=>exact .inl (offersAt_parked_recv' _ _ _ _ _)
 |RV h=>
  have j:=h w (.refl _ _ _ _);left;unfold offersAt;simp only[j.2.1]
 |old h=>exact .inl (offersAt_of_not_blocked (by obtain x|x:=h.status<;>rw[x]<;>simp) _ _)
 |quit h=>exact .inl (offersAt_of_not_blocked (by obtain x|x:=h.status<;>rw[x]<;>simp) _ _)
 |Rw h=>exact .inl (offersAt_of_not_blocked (by obtain x|x:=h.status<;>rw[x]<;>simp) _ _)
 |skd _ h=>exact .inl (offersAt_of_not_blocked (by rw[Way.running (λ_ _ _ x=>x.1) h];simp) _ _)
 |sa1 _ h=>exact .inl (offersAt_of_not_blocked (by rw[Way.running (λ_ _ _ x=>x.1) h];simp) _ _)
 |Ua _ h=>exact .inl (offersAt_of_not_blocked (by rw[Way.running (λ_ _ _ x=>x.1) h];simp) _ _)
 |ske _ h=>exact .inl (offersAt_of_not_blocked (by rw[Way.running (λ_ _ _ x=>x.1) h];simp) _ _)
 |sgo _ h=>exact .inl (offersAt_of_not_blocked (by rw[Way.running (λ_ _ _ x=>x.1) h];simp) _ _)
 |RQ h=>exact .inl (offersAt_of_not_blocked (by rw[Way.running (λ_ _ _ x=>x.1) h];simp) _ _)
 |src h=>grind [offersAt_of_not_blocked,Way.running,j8]
 |sup h=>grind
 |RR h=>exact .inl (offersAt_of_not_blocked (by rw[Way.running (λ_ _ _ ⟨_,_,x⟩=>x.1) h];simp) _ _)
 |r0 h=>exact .inl (offersAt_of_not_blocked (by rw[Goes.running (λ_ _ x=>x.1) w (.refl _ _ _ _) h];simp) _ _)
 |k1 h=>exact .inl (offersAt_of_not_blocked (by rw[Goes.running (λ_ _ x=>x.1) w (.refl _ _ _ _) h];simp) _ _)
 |d1 h=>exact .inl (offersAt_of_not_blocked (by rw[Goes.running (λ_ _ x=>x.1) w (.refl _ _ _ _) h];simp) _ _)
 |d2 h=>exact .inl (offersAt_of_not_blocked (by rw[Goes.running (λ_ _ x=>x.1) w (.refl _ _ _ _) h];simp) _ _)
 |d3 h=>exact .inl (offersAt_of_not_blocked (by rw[Goes.running (λ_ _ x=>x.1) w (.refl _ _ _ _) h];simp) _ _)
 |d4 h=>exact .inl (offersAt_of_not_blocked (by rw[Goes.running (λ_ _ x=>x.1) w (.refl _ _ _ _) h];simp) _ _)
 |Ub _ h=>exact .inl (offersAt_of_not_blocked (by rw[Way.running (λ_ _ _ x=>x.1) h];simp) _ _)
 |RS _ h=>exact .inl (offersAt_of_not_blocked (by rw[Way.running (λ_ _ _ x=>x.1) h];simp) _ _)
 |Uc _ h=>exact .inl (offersAt_of_not_blocked (by rw[Way.running (λ_ _ _ x=>x.1) h];simp) _ _)
 |Ud h=>exact .inl (offersAt_of_not_blocked (by rw[Way.running (λ_ _ _ x=>x.1) h];simp) _ _)
 |RU h=>exact .inl (offersAt_of_not_blocked (by rw[Way.running (λ_ _ _ x=>x.1) h];simp) _ _)
 |Ue h=>exact .inl (offersAt_of_not_blocked (by rw[Way.running (λ_ _ _ x=>x.1) h];simp) _ _)
 |RX h=>exact .inl (offersAt_of_not_blocked (by rw[Way.running (λ_ _ _ x=>x.1) h];simp) _ _)
 |Uf h=>exact .inl (offersAt_of_not_blocked (by rw[Way.running (λ_ _ _ x=>x.1) h];simp) _ _)
 |Ug h=>exact .inl (offersAt_of_not_blocked (by rw[Way.running (λ_ _ _ x=>x.1) h];simp) _ _)
theorem mI.Kr{r:eQ}{e:WT}{d:Nat}{b f:dn}{g:cP}(h:mI P ty Wg Ch n rd0 val End r e d b f g w):offersAt g Ch false=[]\/∃q S z c,r=.rc q S 1/\d=0/\g=parked c #[rcase Ch z] (.recv true)/\pF P ty Wg Ch n rd0 val End z q S b c w:=by
 by_cases a:g.status=.blocked;cases h with
 |u4 h=>exact .inl (offersAt_parked_send' _ _ _ _ _ _)
 |N7 h=>exact .inr ⟨_,_,_,_,rfl,rfl,rfl,h w (.refl _ _ _ _)⟩
 |RV h=>
  have i:=h w (.refl _ _ _ _);left;unfold offersAt;simp only[i.2.1]
 |old h=>obtain x|x:=h.status<;>rw[x]at a<;>cases a
 |quit h=>obtain x|x:=h.status<;>rw[x]at a<;>cases a
 |Rw h=>obtain x|x:=h.status<;>rw[x]at a<;>cases a
 |skd _ h=>rw[Way.running (λ_ _ _ x=>x.1) h]at a;grind
 |sa1 _ h=>rw[Way.running (λ_ _ _ x=>x.1) h]at a;grind
 |Ua _ h=>rw[Way.running (λ_ _ _ x=>x.1) h]at a;grind
 |ske _ h=>rw[Way.running (λ_ _ _ x=>x.1) h]at a;grind
 |sgo _ h=>rw[Way.running (λ_ _ _ x=>x.1) h]at a;grind
 |RQ h=>rw[Way.running (λ_ _ _ x=>x.1) h]at a;grind
 |src h=>grind [Way.running,j8]
 |sup h=>grind
 |RR h=>rw[Way.running (λ_ _ _ ⟨_,_,x⟩=>x.1) h]at a;grind
 |r0 h=>rw[Goes.running (λ_ _ x=>x.1) w (.refl _ _ _ _) h]at a;grind
 |k1 h=>rw[Goes.running (λ_ _ x=>x.1) w (.refl _ _ _ _) h]at a;grind
 |d1 h=>rw[Goes.running (λ_ _ x=>x.1) w (.refl _ _ _ _) h]at a;grind
 |d2 h=>rw[Goes.running (λ_ _ x=>x.1) w (.refl _ _ _ _) h]at a;grind
 |d3 h=>rw[Goes.running (λ_ _ x=>x.1) w (.refl _ _ _ _) h]at a;grind
 |d4 h=>rw[Goes.running (λ_ _ x=>x.1) w (.refl _ _ _ _) h]at a;grind
 |Ub _ h=>rw[Way.running (λ_ _ _ x=>x.1) h]at a;grind
 |RS _ h=>rw[Way.running (λ_ _ _ x=>x.1) h]at a;grind
 |Uc _ h=>rw[Way.running (λ_ _ _ x=>x.1) h]at a;grind
 |Ud h=>rw[Way.running (λ_ _ _ x=>x.1) h]at a;grind
 |RU h=>rw[Way.running (λ_ _ _ x=>x.1) h]at a;grind
 |Ue h=>rw[Way.running (λ_ _ _ x=>x.1) h]at a;grind
 |RX h=>rw[Way.running (λ_ _ _ x=>x.1) h]at a;grind
 |Uf h=>rw[Way.running (λ_ _ _ x=>x.1) h]at a;grind
 |Ug h=>rw[Way.running (λ_ _ _ x=>x.1) h]at a;grind
 exact .inl (offersAt_of_not_blocked a _ _)
def ON(P:cU)(Wg Ch:Nat)(End:iT)(w0:cI)(B0:Nat)(X:dn)(m:Machine)(t:Trace):Prop:=
 ∃(gs:Array cP) (w:cI) (sl:Option (Nat×Nat)) (a:cP) (q:Nat->Nat) (c:dn),
  m=crowd gs w sl/\gs[0]? =some a/\End c a w/\Leavers P t gs q/\Past (pE λb=>b=Wg\/b=Ch\/X b) w.heap.size t/\(∀b,c b->B0<=b/\b<w.heap.size/\b≠Wg/\b≠Ch)/\
   (∀b,b<B0->b≠Wg->b≠Ch->w.heap[b]? =w0.heap[b]?)/\B0<=w.heap.size/\(w.tape=w0.tape/\w.os=w0.os/\w.output=w0.output)/\Wg<w.heap.size
variable(dS:Com P ty Wg Ch n rd0 val End w0 B0 ro rk dd G cl gs w t)(fV:Pl n m0 ro cl G gs.size st sm)(kC:zY Ch n m0 G cl t)(hX:G.x=X)(hT:G.t0=T0)(ix:WgAt ty Wg w st sm)
include dS fV kC hX hT ix
omit kC hX hT ix in
theorem open_of {i s:Nat} (hi:i<n) (e:ro (m0+i)=.wk i s) (hs:s≠1):cl=false:=by
 cases hc:cl with
 |false=>rfl
 |true=>
  have hq:=fV.clq.1 hc;obtain⟨S,s',_,hw,_⟩:=fV.vX hq trivial;grind
theorem fg.meet{i s:Nat}{r:Nat}{S:Nat->Bool}{R:Nat}{z v T:cJ}{a M:cP}{k:Nat}{h:Array cP}{c:Nat}{w':cI}{fn fn' fn2 fn3:dY}{pos pos' pos2 pos3:String}(N:i<n)(e:ro (m0+i)=.wk i s)(U:s=9\/s=8)(V:ro 0=.rc r S R)(C:dd 0=0)(D:dd (m0+i)=0) (o:0<gs.size)(p:m0+i<gs.size)(E:G.rd 0=rd0) (W:pF P ty Wg Ch n rd0 val End z r S (G.own 0) a w)(O:AtSend P ty Wg Ch val i v T (G.own (m0+i)) M w)(Y:w.heap[Ch]? =some (.chan 0 #[] cl c c false)) (F:h.size=gs.size)(Z:h[0]? =some (Conc.served a (.tuple #[v,.bool true])))(j:h[m0+i]? =some (Conc.served M undef))(q:∀x,x≠0->x≠m0+i->h[x]? =gs[x]?) (H:∃d,w'=(w.at d).setChan Ch 0 #[] cl (c+1) (c+1) false) (u:runT P (crowd gs w sl) k=(.next (crowd h w' sl),#[{g:=m0+i,fn,pos,act:=.send Ch c},{g:=0,fn:=fn',pos:=pos',act:=.recv Ch c 0},{g:=m0+i,fn:=fn2,pos:=pos2,act:=.sendDone Ch c},{g:=0,fn:=fn3,pos:=pos3,act:=.recvDone Ch c}])):Goal P ty Wg Ch n rd0 val End w0 B0 m0 X T0 ro rk gs w sl t k:=by
 obtain⟨d,rfl⟩:=H;have hp:=fV.pos;have I:=lt_of_heap Y;have f:tf Ch w ((w.at d).setChan Ch 0 #[] cl (c+1) (c+1) false):=.set w d _ _ _ _ _ _;obtain⟨J,r',rfl,Q,A⟩:=fV.hand (G':=G.hand (m0+i)) N e V U rfl rfl (λk=>qF);have B:G.sayer≠m0+i:=by rw[fV.say];obtain x|x|⟨i2,s2,x,_⟩|⟨x,_⟩:=fV.lt_size p;omega;omega;unfold sayOf;grind;grind
 have⟨aa,ab,K⟩:=W;have⟨τ0,L⟩:=K i v (G.own (m0+i)) N J O.2.2.1 λb j ho=>by have:=dS.fits.one _ _ _ j ho;omega
 have⟨m,hm⟩:=O.2.2.2;have l:=dS.hand (r0':=.rc r' (upd S i true) 2) (rj':=.wk i 7) (τ0:=τ0) (τj:=.num m) (s:=c) (cap:=0) (fn:=fn) (fn':=fn') (fn2:=fn2) (fn3:=fn3) (pos:=pos) (pos':=pos') (pos2:=pos2) (pos3:=pos3) cL p o C D B F Z j q f ⟨c+1,setChan_at w d _ _ _ _ _ _ I⟩ (by
   rw[E];refine .src (z:=z) (L.rely (f.rely (λb j=>?_) dS.wgch));obtain(j|j)|j:=j;exact dS.off _ b (.inl j);exact dS.off _ b (.inl j);exact dS.off 0 b cK)
  (λ_ _=>.r0 (Goes.rely (λ_ _ _ x y=>x.trans y) hm (f.rely cK dS.wgch)))
 refine⟨_,_,⟨_,h.size,_,_⟩,u,.a A,_,_,sl,_,_,_,_,cl,st,sm,rfl,l,ix.of_block (f.same Wg dS.wgch),?_,?_,hX,hT,rfl⟩;grind;exact kC.app rfl cK
end
section
variable{P:cU}{ty:cQ}{Wg Ch n:Nat}{rd0:Nat->Prop}{val:Nat->cJ->(Nat->Prop)->cI->Prop}{End:iT}{w0:cI}{B0 m0:Nat}{X:Nat->Prop}{T0:Nat} {ro:Nat->eQ}{rk:Nat->WT}{dd:Nat->Nat}{G:Gh}{cl:Bool}{gs:Array cP}{w w':cI}{sl:Option (Nat×Nat)}{t:Trace}{st sm:Int}
theorem Goal.mk{k:Nat}{a:Array cP}{w':cI}{j:Option (Nat×Nat)}{ro':Nat->eQ}{rk':Nat->WT}{dd':Nat->Nat}{G':Gh}{cl':Bool}{d e:Int}{b:Array MemOp}(f:runT P (crowd gs w sl) k=(.next (crowd a w' j),b)) (c:Com P ty Wg Ch n rd0 val End w0 B0 ro' rk' dd' G' cl' a w' (t++b))(g:WgAt ty Wg w' d e)(h:Pl n m0 ro' cl' G' a.size d e)(i:zY Ch n m0 G' cl' (t++b))(l:G'.x=X)(m:G'.t0=T0) (o:Mu.Lt ⟨meas n m0 ro',a.size,rk',ID (ro' (m0+n))⟩ ⟨meas n m0 ro,gs.size,rk,ID (ro (m0+n))⟩):Goal P ty Wg Ch n rd0 val End w0 B0 m0 X T0 ro rk gs w sl t k:=
 ⟨_,_,_,f,o,_,_,_,_,_,_,_,_,_,_,rfl,c,g,h,i,l,m,rfl⟩
variable(dS:Com P ty Wg Ch n rd0 val End w0 B0 ro rk dd G cl gs w t)(fV:Pl n m0 ro cl G gs.size st sm)(kC:zY Ch n m0 G cl t)(hX:G.x=X)(hT:G.t0=T0)(ix:WgAt ty Wg w st sm)
include dS fV kC hX hT ix
theorem fg.OO{i:Nat}{g:cP}(O:i<n)(Q:gs[m0+i]? =some g)(e:ro (m0+i)=.wk i 9)(A:0<gs.size):Goal P ty Wg Ch n rd0 val End w0 B0 m0 X T0 ro rk gs w sl t (m0+i):=by
 have hp:=fV.pos;have E:=dS.sit _ g Q;have F:m0+i<gs.size:=cK;have T:(m0+i==0)=false:=cK;have U:¬G.done (m0+i):=λh=>by obtain x|⟨i,s,x,_⟩:=(fV.done _).1 h;omega;grind
 have H:cl=false:=open_of dS fV O e dt;generalize V:rk (m0+i)=τ at E;generalize W:dd (m0+i)=d at E;generalize ho:G.own (m0+i)=Y at E;generalize y:G.rd (m0+i)=rc at E;rw[e]at E;cases E with
 |RR h=>
  obtain B|h:=fg.Kp (sl:=sl) dS fV kC hX hT ix (k:=m0+i) Q (by rw[T,ho,y];exact h) V e dt dt U (λτ Y g w h=>by rw[W,y];rw[T,y]at h;exact .RR h);have⟨v,z,Z⟩:=B w (.refl _ _ _ _);have⟨c,hc⟩:=dS.ch;rw[H]at hc;have m:stepG P (m0+i==0) g w=.comm g #[scase Ch v z] true .send w #[]:=by rw[T];exact Z.2.1 w
  have I:=λx (o:cP) (C:gs[x]? =some o)=>(dS.sit x o C).Kr;by_cases aa:∃r S,ro 0=.rc r S 1;have⟨r,S,R⟩:=aa;have⟨ga,J⟩:∃ga,gs[0]? =some ga:=cK;have b:=dS.sit 0 ga J;obtain C|⟨q,S2,z2,K,L,ab,rfl,hL⟩:=b.Kr
  ·exfalso;rw[R]at b;generalize dd 0=d0 at b;generalize G.rd 0=x0 at b;cases b with
   |N7 h=>simp[offersAt_parked_recv]at C
  have M:=L;rw[R]at M;cases M;have f:partners (gs.setIfInBounds (m0+i) ph) Ch false=[(0,0)]:=by rw[partners_one (j:=0) (g:=parked K #[rcase Ch z2] (.recv true)) cK λx o ae C=>?_];simp[offersAt_parked_recv];obtain⟨_,rfl⟩|⟨_,p⟩:=getElem?_stand gs (m0+i) x o C;rfl;obtain h|⟨_,_,_,_,L,_⟩:=I x o p;grind;exfalso;obtain k0|⟨k1,D⟩|⟨_,_,_,_,D,_⟩|⟨_,_,D⟩:=fV.lt_size (iS.1 p).1;grind;rw[fV.old x k1 D]at L;grind;grind;grind
  have l:=crowd_send_meets (sl:=sl) Q m hc cL J f;have N:G.rd 0=rd0:=by
   generalize hq:G.rd 0=x at b;rw[R]at b;generalize dd 0=d0 at b;generalize parked K #[rcase Ch z2] (.recv true)=gg at b;cases b with
   |N7 h=>rfl
  refine fg.meet (w':=w.setChan Ch 0 #[] cl (c+1) (c+1) false) dS fV kC hX hT ix O e (.inl rfl) R ab W A F N hL Z cK ?_ ?_ ?_ ?_ ⟨w.drawn,rfl⟩ (by simp only[MemOp.ofEvents,H]at l⊢;simpa using l);simp;rw[fZ cL,oz A];rw[finishComm_recv];rfl;rw[oz cK];rw[finishComm_send];grind;have f:partners (gs.setIfInBounds (m0+i) ph) Ch false=[]:=partners_nil λx o C=>by obtain⟨_,rfl⟩|⟨_,p⟩:=getElem?_stand gs (m0+i) x o C;rfl;obtain h|⟨q,S,_,_,L,_⟩:=I x o p;grind;exfalso;obtain k0|⟨k1,D⟩|⟨_,_,_,_,D,_⟩|⟨_,_,D⟩:=fV.lt_size (iS.1 p).1;grind;rw[fV.old x k1 D]at L;grind;grind;grind
  have l:=crowd_waits (sl:=sl) Q m λcc af=>by have:cc=scase Ch v z:=cK;subst this;exact ways_send_none hc (gi _) f
  have ad:=fV.Wp O e cK;have u:=dS.u4 (r':=.wk i 8) (τ':=rk (m0+i)) F (g':=parked g #[scase Ch v z] .send) (by rw[W,ho,y];refine .u4 λw1 ag=>?_;have⟨v1,z1,ac⟩:=B w1 cK;have:=(ac.2.1 w).symm.trans (Z.2.1 w);simp only[GStep.comm.injEq,V9,Ce,scase,CommCase.mk.injEq,iO,and_true,true_and]at this;grind);rw[qM]at u;refine Goal.mk l (ro':=upd ro (m0+i) (.wk i 8)) (by simpa[MemOp.ofEvents]using u) ix cK (by simpa[MemOp.ofEvents]using kC) hX hT (.a (n4 hp O (r':=.wk i 8) (by grind [kL])));grind
theorem fg.Mb{g:cP}(k:gs[m0+n]? =some g)(e:ro (m0+n)=.cl .w3)(l:stepG P false g w=.go {g with status:=.blocked} w #[])(m:∀h,eP (G.own (m0+n)) (G.rd (m0+n)) (Lv ty Wg) w h->Wn P ty Wg Ch (G.rd (m0+n)) (G.own (m0+n)) g h)(o:dd (m0+n)=1)(p:sm=0):Goal P ty Wg Ch n rd0 val End w0 B0 m0 X T0 ro rk gs w sl t (m0+n):=by
 have s:=fV.pos;have f:m0+n<gs.size:=cK;have q:(m0+n==0)=false:=cK;have c:=runT_crowd_go (P:=P) (sl:=sl) (i:=m0+n) k (by rw[q];omega);have d:gs.map (woken P g {g with status:=.blocked} w)=gs:=by grind [Array.map_id,woken,blocked,id]
 rw[d]at c;have j:=fV.Ws (c':=.blk) e trivial trivial cK;have r:meas n m0 (upd ro (m0+n) (.cl .blk))=meas n m0 ro:=by unfold meas;rw[qL cL,sZ cL,upd_same,upd_ne _ _ cL,e];rfl
 have a:=dS.u4 (r':=.cl .blk) (τ':=rk (m0+n)) f (g':={g with status:=.blocked}) (by rw[o];exact .RV m);rw[qM]at a;refine Goal.mk c (ro':=upd ro (m0+n) (.cl .blk)) (by simpa[MemOp.ofEvents]using a) ix cK (by simpa[MemOp.ofEvents]using kC) hX hT (.b r dt rfl ?_);grind [upd_same,ID,upd,blk]
theorem fg.Mc{g:cP}(hk:gs[m0+n]? =some g)(e:ro (m0+n)=.cl .cl)(ai:0<gs.size)(hC:VX P Ch (G.own (m0+n)) g w)(D:dd (m0+n)=0):Goal P ty Wg Ch n rd0 val End w0 B0 m0 X T0 ro rk gs w sl t (m0+n):=by
 have hp:=fV.pos;have U:m0+n<gs.size:=(iS.1 hk).1;have e0:(m0+n==0)=false:=cK;have⟨S,s0,V,hw,hz⟩:=fV.vX e trivial;have E:cl=false:=by
  cases hc:cl with
  |false=>rfl
  |true=>have:=fV.clq.1 hc;grind
 have⟨c,u⟩:=dS.ch;rw[E]at u;have v:=lt_of_heap u;have⟨_,al,W,Y,Z,q,hq⟩:=hC;have am:=Z c c u;have F:=runT_crowd_go (P:=P) (sl:=sl) (i:=m0+n) hk (by rw[e0];omega);have aa:jF P g W=true:=by grind [jF]
 have d:tf Ch w (w.setChan Ch 0 #[] true c c false):=tf.set w w.drawn _ _ _ _ _ _;have m:(w.setChan Ch 0 #[] true c c false).heap[Ch]? =some (.chan 0 #[] true c c false):=setChan_at w w.drawn _ _ _ _ _ _ v;have H:MemOp.ofEvents (m0+n) g.frame.fn g.frame.place #[⟨.obj Ch,false,true⟩,⟨.obj Ch,true,true⟩]=MemOp.ofEvents (m0+n) g.frame.fn g.frame.place #[⟨.obj Ch,false,true⟩]++MemOp.ofEvents (m0+n) g.frame.fn g.frame.place #[⟨.obj Ch,true,true⟩]:=by simp[MemOp.ofEvents]
 have ab:¬G.done (m0+n):=by intro D;obtain⟨_,x⟩|⟨i,s,x,_⟩:=(fV.done _).1 D;omega;grind
 have ac:Kn.oI G (m0+n) (Deaf t (m0+n)) w.lH w.lH #[⟨.obj Ch,false,true⟩]:=by
  intro j ev I;match j,I with
  |0,I=>
   simp at I;subst I;refine⟨λx z _=>?_,v⟩;simp only[MemAct.ofEvent,MemAct.touch?,iO]at z;subst z;exact⟨Ch,rfl,.inr (.inl ⟨rfl,(dS.wg Ch).2 (.inr rfl),(fV.usr _).2 (.inr ⟨dt,U⟩),λD=>absurd D ab⟩)⟩
  |j+1,I=>grind
 have ad:∀k∈MemOp.ofEvents (m0+n) g.frame.fn g.frame.place #[⟨.obj Ch,false,true⟩,⟨.obj Ch,true,true⟩],k.g=m0+n/\k.act≠ .mark .disable/\k.act≠ .mark .enable:=by intro k f;obtain⟨x,z,rfl⟩:=Go.Conc.mem_ofEvents f;have:x=⟨.obj Ch,false,true⟩\/x=⟨.obj Ch,true,true⟩:=cK;obtain rfl|rfl:=this;exact⟨rfl,by simp[MemAct.ofEvent],by simp[MemAct.ofEvent]⟩;exact⟨rfl,by simp[MemAct.ofEvent],by simp[MemAct.ofEvent]⟩
 have hu:∀k∈MemOp.ofEvents (m0+n) g.frame.fn g.frame.place #[⟨.obj Ch,true,true⟩],k.g=m0+n/\k.act=.close Ch:=by intro k f;obtain⟨x,z,rfl⟩:=Go.Conc.mem_ofEvents f;have:x=⟨.obj Ch,true,true⟩:=cK;subst this;exact⟨rfl,rfl⟩
 have ae:∀k∈MemOp.ofEvents (m0+n) g.frame.fn g.frame.place #[⟨.obj Ch,true,true⟩],k.act.touch?=none:=λk f=>by rw[(hu k f).2];rfl
 have J:Pl n m0 (upd ro 0 (.rc 0 S 2)) cl G gs.size st sm:=fV.Zj V;have aj:=J.Km (c:=.cl) (c':=.quit) (cl':=true) (by grind [upd_ne]) trivial trivial dt (.inr λr S' x=>by grind [upd_same]);have A:Com P ty Wg Ch n rd0 val End w0 B0 (upd (upd ro 0 (.rc 0 S 2)) (m0+n) (.cl .quit)) (upd rk (m0+n) (.num q)) dd G true ((gs.map (woken P g W (w.setChan Ch 0 #[] true c c false))).setIfInBounds (m0+n) W) (w.setChan Ch 0 #[] true c c false)
  (t++MemOp.ofEvents (m0+n) g.frame.fn g.frame.place #[⟨.obj Ch,false,true⟩,⟨.obj Ch,true,true⟩]):=by
  refine⟨λx o Q=>?_,?_,by rw[d.size];exact dS.fits,λx=>?_,λx z=>dS.above x cK,dS.wg,dS.off,dS.wgch,by rw[d.size];exact dS.wglow,λi x hi z=>?_,dS.new,λb hb h1 h2=>(d.same b h2).trans (dS.base b hb h1 h2),by rw[d.size];exact dS.grown,
   dS.world,⟨st,sm,ix.of_block (d.same Wg dS.wgch)⟩,⟨c,m⟩⟩
  by_cases R:x=m0+n;subst R;rw[oz cK]at Q;obtain rfl:=dQ Q;rw[upd_same,upd_same,D];exact .Rw hq;rw[fZ (jc R),vP]at Q;obtain⟨y,hy,rfl⟩:=iC.1 Q;rw[upd_ne _ _ R,upd_ne _ _ R,FJ,aa];simp only[ej];have B:=(dS.sit x y hy).rely (d.rely (dS.off x) dS.wgch);by_cases K:x=0;subst K;rw[upd_same];rw[V]at B;generalize rk 0=an at B⊢;generalize dd 0=d0 at B⊢;generalize G.own 0=o0 at B⊢;generalize G.rd 0=r0 at B⊢;cases B with
  |src h=>
   rw[again_running _ (.inl (Way.running (λ_ _ _ x=>(j8 x).1) h))];exact .src h
  |N7 h=>
   rw[again_recv_closed m];exact .sup h
  |sup h=>
   rw[again_running _ (.inl rfl)];exact .sup h
  rw[upd_ne _ _ K];have L:=(iS.1 hy).1;have T:=B.again true m λ_=>?_;obtain k0|⟨k1,p⟩|⟨_,_,_,_,p,_⟩|⟨p,_⟩:=fV.lt_size L;grind;rw[fV.old x k1 p]at T⊢;exact T;rw[p]at T⊢;exact T;grind;obtain k0|⟨k1,p⟩|⟨i,_,hi,rfl,p,_⟩|⟨p,_⟩:=fV.lt_size L;grind;rw[fV.old x k1 p];grind;grind;grind;rw[d.size];rw[H,<-Array.append_assoc];have M:=dS.kn.step (fn:=g.frame.fn) (pos:=g.frame.place) dS.fits (dg _) (λ_=>rfl) ac;rw[Kn.Gh.uf]at M;exact M.Kj ae λk f=>by rw[(hu k f).2];exact v
  have:=qN (t:=t) x (MemOp.ofEvents (m0+n) g.frame.fn g.frame.place #[⟨.obj Ch,false,true⟩,⟨.obj Ch,true,true⟩]).toList (λk f=>(ad k (Array.mem_toList_iff.1 f)).2);rw[<-dS.deaf x,<-this];have⟨k,f,af⟩:=iC.1 z;obtain⟨_,N⟩|⟨_,ak⟩:=getElem?_append_cases f;have:=dS.gsz i x hi (by simp[Trace.g?,N,af]);grind;grind
 have C:meas n m0 (upd (upd ro 0 (.rc 0 S 2)) (m0+n) (.cl .quit))<meas n m0 ro:=by unfold meas;rw[qL (.inr (dg _)),qL (.inl hp),sZ (.inr (dg _)),sZ (.inl hp),upd_same,upd_ne _ _ cL,upd_same,V,e];grind [u5,qf]
 refine Goal.mk F A (ix.of_block (d.same Wg dS.wgch)) cK ?_ hX hT (.a C);intro _;have l:(t++MemOp.ofEvents (m0+n) g.frame.fn g.frame.place #[⟨.obj Ch,false,true⟩,⟨.obj Ch,true,true⟩])[t.size+1]? =some {g:=m0+n,fn:=g.frame.fn,pos:=g.frame.place,act:=.close Ch}:=by rw[Dz dt,ofEvents_eq];simp[MemAct.ofEvent]
 have ag:(t++MemOp.ofEvents (m0+n) g.frame.fn g.frame.place #[⟨.obj Ch,false,true⟩,⟨.obj Ch,true,true⟩]).size=t.size+2:=by simp[MemOp.ofEvents]
 refine⟨t.size+1,by rw[act?_of l],⟨m0+n,by simp only[Trace.g?,l,mn],?_⟩,by simp only[Trace.g?,l,mn],λi a _ ha _ _=>?_⟩;rw[deaf_inside _ _ _ _ _ 1 dt,dS.deaf (m0+n),D];simp[deafBehind];have⟨k,f,ah⟩:=touch_of ha;have O:=(iS.1 f).1;rw[ag]at O;obtain h|h:=gu i (t.size+1);grind;have:i=t.size+1:=cL;subst this;rw[l]at f;cases f;cases ah
end
section
variable{P:cU}{ty:cQ}{Wg Ch n:Nat}{rd0:Nat->Prop}{val:Nat->cJ->(Nat->Prop)->cI->Prop}{End:iT}{w0:cI}{B0 m0:Nat}{X:Nat->Prop}{T0:Nat} {ro:Nat->eQ}{rk:Nat->WT}{dd:Nat->Nat}{G:Gh}{cl:Bool}{gs:Array cP}{w w':cI}{sl:Option (Nat×Nat)}{t:Trace}{st sm:Int}
variable(dS:Com P ty Wg Ch n rd0 val End w0 B0 ro rk dd G cl gs w t)(fV:Pl n m0 ro cl G gs.size st sm)(kC:zY Ch n m0 G cl t)(hX:G.x=X)(hT:G.t0=T0)(ix:WgAt ty Wg w st sm)
include dS fV kC hX hT ix
theorem fg.FN{r:Nat}{S:Nat->Bool}{z:cJ}{g a:cP}(O:gs[0]? =some g)(h0:ro 0=.rc r S 2)(hL:∀w1,eP (G.own 0) rd0 (Lv ty Wg) w w1->pF P ty Wg Ch n rd0 val End z r S (G.own 0) a w1)(U:G.rd 0=rd0)(V:dd 0=0) (af:∀w,stepG P true g w=.comm a #[rcase Ch z] true (.recv true) w #[]):(∃H W,runT P (crowd gs w sl) 0=(.next H,W)/\ON P Wg Ch End w0 B0 X H (t++W))\/Goal P ty Wg Ch n rd0 val End w0 B0 m0 X T0 ro rk gs w sl t 0:=by
 have hp:=fV.pos;have A:0<gs.size:=cK;have⟨c,Q⟩:=dS.ch;have ag:=lt_of_heap Q;have l:stepG P (0==0) g w=.comm a #[rcase Ch z] true (.recv true) w #[]:=af w;have Y:=λx (o:cP) (m:gs[x]? =some o)=>(dS.sit x o m).R4;have Z:=hL w (.refl _ _ _ _);by_cases ah:∃i,i<n/\ro (m0+i)=.wk i 8
 ·right;have ai:partners (gs.setIfInBounds 0 ph) Ch true≠[]:=by
   have⟨i,J,e⟩:=ah;have B:m0+i<gs.size:=by
    cases fV.lay with
    |st r2 s2 g0 gs gr gc gz gw gn=>grind
    |uF g0 gc gz gw=>omega
    |rc r2 S2 s2 g0 gc gz gw gS gs=>omega
   intro ar;have m:gs[m0+i]? =some gs[m0+i]:=nw B;have F:=dS.sit _ _ m;have au:(m0+i,0)∈partners (gs.setIfInBounds 0 ph) Ch true:=by
    refine mem_partners.2 ⟨gs[m0+i],cK,?_⟩;rw[e]at F;generalize gs[m0+i]=o at F⊢;generalize dd (m0+i)=d0 at F;cases F with
    |u4 h=>simp[offersAt_parked_send]
   grind
  have aa:∀j k,(j,k)∈partners (gs.setIfInBounds 0 ph) Ch true->k=0/\j≠0/\∃gj R T K,gs[j]? =some (parked gj #[scase Ch R T] K):=by intro j k aj;have⟨o,ho,ak⟩:=mem_partners.1 aj;obtain⟨_,rfl⟩|⟨al,m⟩:=getElem?_stand gs 0 j o ho;cases ak;grind [offersAt_parked_send]
  have⟨j,gj,R,T,K,d,al,L,f⟩:=crowd_recv_meets_some (sl:=sl) O l Q ai aa;obtain h|⟨i,v,z2,ab,hr,am,he,hA⟩:=Y j _ L;simp[offersAt_parked_send]at h;have J:i<n/\j=m0+i:=by obtain k0|⟨I,s⟩|⟨M,_,C,rfl,s,_⟩|⟨_,_,s⟩:=fV.lt_size (iS.1 L).1;omega;rw[fV.old j I s]at hr;grind;grind;grind
  obtain⟨J,rfl⟩:=J;have e1:(R=v/\T=z2)/\K=.send:=by have:=dE Goroutine.offers he;simpa[parked,scase]using this
  obtain⟨⟨rfl,rfl⟩,rfl⟩:=e1;have e2:gj.finishComm P #[scase Ch R T] .send 0 gT false=Conc.served ab gT:=by rw[<-finishComm_parked P gj #[scase Ch R T] #[scase Ch R T] .send .send,he,finishComm_parked,finishComm_send]
  have e3:gj.frame=ab.frame:=by have:=dE Goroutine.frame he;grind [parked]
  have B:=(iS.1 L).1;refine fg.meet (w':=(w.at d).setChan Ch 0 #[] cl (c+1) (c+1) false) dS fV kC hX hT ix J hr (.inr rfl) h0 V am A B U Z hA Q ?_ ?_ ?_ ?_ ⟨d,rfl⟩ (by simp only[MemOp.ofEvents]at f⊢;simpa using f);simp;rw[oz cK,finishComm_recv];rfl;grind;grind
 have N:partners (gs.setIfInBounds 0 ph) Ch true=[]:=partners_nil λx o m=>by obtain⟨_,rfl⟩|⟨aw,ac⟩:=getElem?_stand gs 0 x o m;rfl;obtain h|⟨i,_,_,_,hr,_⟩:=Y x o ac;omega;exfalso;obtain k0|⟨I,s⟩|⟨M,_,C,rfl,s,_⟩|⟨_,_,s⟩:=fV.lt_size (iS.1 ac).1;omega;rw[fV.old x I s]at hr;grind;grind;grind
 cases D:cl with
 |false=>
  right;rw[D]at Q;have f:=crowd_waits (sl:=sl) O l λcc ax=>by grind [ways_recv_none]
  have av:=fV.Wr h0 D λi J h8=>by
   cases fV.lay with
   |st r2 s2 g0 gs gr gc gz gw gn=>grind
   |uF g0 gc gz gw=>grind
   |rc r2 S2 s2 g0 gc gz gw gS gs=>
    grind [kL]
  have E:=dS.u4 (r':=.rc r S 1) (τ':=rk 0) A (g':=parked a #[rcase Ch z] (.recv true)) (by rw[V,U];exact .N7 hL);rw[qM]at E;exact Goal.mk f (ro':=upd ro 0 (.rc r S 1)) (by simpa[MemOp.ofEvents]using E) ix cK (by simpa[MemOp.ofEvents]using kC) hX hT (.a (oK hp (by grind [u5])))
 |true=>
  left;rw[D]at Q;have hq:=fV.clq.1 D;have⟨S2,s2,ad,hw,hz⟩:=fV.vX hq trivial;rw[h0]at ad;cases ad;have f:=crowd_recv_closed (sl:=sl) O l Q N;have⟨p,I,s,k3,k4⟩:=kC D;have an:=dS.kn.shut (y:={g:=0,fn:=a.frame.fn,pos:=a.frame.place,act:=.recvClosed Ch}) I s k3 k4 ⟨rfl,rfl⟩ (by rw[dS.deaf];omega) ag λi x J m=>by have B:=dS.gsz i x J m;obtain k0|⟨I,s⟩|⟨M,_,C,rfl,s,_⟩|⟨s,_⟩:=fV.lt_size B;omega;exact .inr (.inl ((fV.done _).2 cK));refine .inr (.inl ?_);have⟨k,O⟩:=hw M C;exact(fV.done _).2 cK;omega
  have ao:∀j x,0<j->gs[j]? =some x->∃q,QuitsD P q (dd j) x:=λj x L m=>by
   have u:=dS.sit j x m;obtain k0|⟨I,s⟩|⟨M,_,C,rfl,_⟩|⟨rfl,_⟩:=fV.lt_size (iS.1 m).1;omega;rw[fV.old j I s]at u;generalize rk j=τ at u;generalize dd j=d at u⊢;cases u with
   |old h=>grind
   have⟨k,O⟩:=hw M C;rw[O]at u;generalize rk (m0+M)=τ at u;generalize dd (m0+M)=d at u⊢;cases u with
   |quit h=>grind
   rw[hq]at u;generalize rk (m0+n)=τ at u;generalize dd (m0+n)=d at u⊢;cases u with
   |Rw h=>grind
  have ap:∀j,Deaf (t++#[({g:=0,fn:=a.frame.fn,pos:=a.frame.place,act:=.recvClosed Ch}:MemOp)]) j=dd j:=λj=>by have:=qN (t:=t) j [({g:=0,fn:=a.frame.fn,pos:=a.frame.place,act:=.recvClosed Ch}:MemOp)] dt;exact this.trans (dS.deaf j)
  refine⟨_,_,f,gs.setIfInBounds 0 (a.finishComm P #[rcase Ch z] (.recv true) 0 z false),w,sl,_,(λj=>open Classical in if h:∃q,∀x,gs[j]? =some x->QuitsD P q (dd j) x then Classical.choose h else 0),G.own 0,rfl,oz A,?_,⟨λj x L m=>?_,λj L=>?_⟩,?_,λb hb=>?_,dS.base,dS.grown,dS.world,dS.wglow⟩;rw[finishComm_recv];exact Z.2.2;rw[fZ cL]at m;have⟨q,ay⟩:=ao j x L m;have ae:∃q,∀x,gs[j]? =some x->QuitsD P q (dd j) x:=⟨q,cK⟩;simp only[dif_pos ae];have:=jB ae x m;show QuitsD P _ (Deaf (t++(#[]++#[_])) j) x;grind;have aq:gs.size<=j:=cK;have:=dS.above j aq;show Deaf (t++(#[]++#[_])) j=0;grind;have e:(λb=>b=Wg\/b=Ch\/X b)=λb=>G.wg b\/G.x b:=by funext b;rw[hX];exact propext (or_assoc.symm.trans (or_congr (dS.wg b).symm qF))
  grind [MemOp.ofEvents];exact⟨dS.new 0 b hb,dS.fits.own 0 b hb,λe=>dS.fits.ownwg 0 b hb ((dS.wg b).2 (.inl e)),dS.off 0 b (.inl hb)⟩
theorem fg.OP(hn:n<2147483647){g:cP}(o:gs[0]? =some g)(u:g.status=.running):(∃L aa,runT P (crowd gs w sl) 0=(.next L,aa)/\ON P Wg Ch End w0 B0 X L (t++aa))\/Goal P ty Wg Ch n rd0 val End w0 B0 m0 X T0 ro rk gs w sl t 0:=by
 have hp:=fV.pos;have ah:0<gs.size:=cK;have hS:=dS.sit 0 g o;have v:G.user 0:=(fV.usr _).2 (.inl rfl);have hw:=(dS.wg Wg).2 (.inl rfl);have R:=dS.wglow;have C:¬G.done 0:=λh=>(dS.fits.done 0 h).1 rfl;generalize D:rk 0=A at hS;generalize B:dd 0=d at hS;generalize E:G.own 0=f at hS;generalize c:G.rd 0=rc at hS;generalize y:ro 0=r at hS;cases hS with
 | @skd r A f g w j h=>
  right;obtain⟨_,g',m,τ',l⟩|h:=fg.idle (sl:=sl) dS fV kC hX hT ix (k:=0) o (by rw[E,c];exact h) D y dt dt C (λA f g w h=>by rw[B,c];rw[c]at h;exact .skd j h);refine fg.book (r':=.st r 5) (τ':=τ') dS fV kC hX hT ix o m (.refl Wg w) ix (rD (e:=mk .disable) rfl trivial) (by rw[B,c];exact .sa1 j l) cK λp J h2 h3 _=>?_;have K:p 0=.st r 6:=cK;exact⟨J.DM K dt dt,oK hp (by grind [u5])⟩;omega
 | @sa1 r A f g w j h=>
  right;obtain⟨_,hx⟩|h:=fg.idle (sl:=sl) dS fV kC hX hT ix (k:=0) o (by rw[E,c];exact h) D y dt dt C (λA f g w h=>by rw[B,c];rw[c]at h;exact .sa1 j h);have⟨k1,k2,_⟩:=fV.IE (s':=4) y (.inl rfl);subst k1 k2;have ak:=OH n m0 ro;have⟨g',m,ha,hb⟩:=hx (V n m0 ro) cL ix;by_cases hV:V n m0 ro=0;have⟨τ',l⟩:=ha hV;refine fg.book (r':=.st r 4) (τ':=τ') dS fV kC hX hT ix o m (aside_setCell w (stA Wg) _) (ix.setSt _) (te hw v R cL) (by rw[B,c,E];exact .Ua j cK) cK λp J h2 h3 _=>?_;have K:p 0=.st r 5:=cK;have:=(J.IE (s':=4) K (.inl rfl)).2.2;rw[h3]at this;exact⟨this,oK hp (by grind [u5])⟩;have⟨τ',l⟩:=hb hV;refine fg.book (r':=.st r 3) (τ':=τ') dS fV kC hX hT ix o m (aside_setCell w (stA Wg) _) (ix.setSt _) (te hw v R cL) (by rw[B,c,E];exact .ske j cK) cK λp J h2 h3 _=>?_;have K:p 0=.st r 5:=cK;have:=(J.IE (s':=3) K (.inr rfl)).2.2;rw[h3]at this;exact⟨this,oK hp (by grind [u5])⟩;omega
 | @Ua r A f g w j h=>
  right;obtain⟨_,g',m,τ',l⟩|h:=fg.idle (sl:=sl) dS fV kC hX hT ix (k:=0) o (by rw[E,c];exact h) D y dt dt C (λA f g w h=>by rw[B,c];rw[c]at h;exact .Ua j h);refine fg.book (r':=.st r 3) (τ':=τ') dS fV kC hX hT ix o m (.refl Wg w) ix (FL (w:=false) hw v (by rw[fV.say,(fV.DN y).1];rfl) R) (by rw[B,c];exact .ske j l) cK λp J h2 h3 _=>?_;have K:p 0=.st r 4:=cK;exact⟨J.DM K dt dt,oK hp (by grind [u5])⟩;omega
 | @ske r A f g w j h=>
  right;obtain⟨_,g',m,τ',l⟩|h:=fg.idle (sl:=sl) dS fV kC hX hT ix (k:=0) o (by rw[E,c];exact h) D y dt dt C (λA f g w h=>by rw[B,c];rw[c]at h;exact .ske j h);refine fg.book (r':=.st r 2) (τ':=τ') dS fV kC hX hT ix o m (.refl Wg w) ix (rD (e:=mk .enable) rfl trivial) (by rw[B,c];exact .sgo j l) cK λp J h2 h3 _=>?_;have K:p 0=.st r 3:=cK;exact⟨J.DM K dt dt,oK hp (by grind [u5])⟩;omega
 | @sgo r A f g w j h=>
  right;obtain⟨_,g',child,give,m,ae,T,⟨τc,U⟩,l⟩|h:=fg.idle (sl:=sl) dS fV kC hX hT ix (k:=0) o (by rw[E,c];exact h) D y dt dt C (λA f g w h=>by rw[B,c];rw[c]at h;exact .sgo j h);rw[E]at T l;have u:=runT_crowd_spawn (P:=P) (sl:=sl) (i:=0) o m;have W:=(fV.DN y).2.2;have⟨ab,Y⟩:=fV.spawn (G':=G.child gs.size G.sayer give) y (λk=>qF) rfl rfl
  have H:¬G.done gs.size:=λh=>by
   obtain x|⟨i,s,x,_⟩:=(fV.done _).1 h;omega;cases fV.lay with
   |st r2 s2 F I gr M N O gn=>
    grind
   |uF F M N O=>omega
   |rc r2 S2 s2 F M N O gS I=>omega
  have⟨τ0,af⟩:∃τ0,mI P ty Wg Ch n rd0 val End (qh r) τ0 0 (λb=>G.own 0 b/\¬give b) (G.rd 0) g' w:=by
   rw[E,c];cases r with
   |zero=>
    have⟨τ0,hx⟩:=l;exact⟨τ0,.RQ hx⟩
   |succ r=>
    have⟨τ0,hx⟩:=l;exact⟨τ0,.skd cL hx⟩
  have q:=dS.spawn (r0':=qh r) (rc':=.wk (n-(r+1)) 9) (τ0:=τ0) (τc:=τc) (sy:=G.sayer) (give:=give) (fn:=g.frame.fn) (fn':=child.frame.fn) (pos:=g.frame.place) (pos':=g.frame.place) o B cK (.inl rfl) v H af (by rw[c];exact .RR U);refine Goal.mk (G':=G.child gs.size G.sayer give) (rk':=upd (upd rk gs.size τc) 0 τ0) (dd':=dd) (cl':=cl) u (by simpa[MemOp.ofEvents]using q) ix cK ?_ hX hT (.a Y);refine kC.app rfl λ_ op Z _=>?_;have Q:op={g:=0,fn:=g.frame.fn,pos:=g.frame.place,act:=.go gs.size}\/op={g:=gs.size,fn:=child.frame.fn,pos:=g.frame.place,act:=.start}:=by simpa[MemOp.ofEvents]using Z
  grind;omega
 | @RQ A f g w h=>
  right;obtain⟨_,g',child,give,z,m,ae,T,⟨ai,hA,τc,U⟩,⟨τ0,l⟩⟩|h:=fg.idle (sl:=sl) dS fV kC hX hT ix (k:=0) o (by rw[E,c];exact h) D y dt dt C (λA f g w h=>by rw[B,c];rw[c]at h;exact .RQ h);rw[E]at T l;have u:=runT_crowd_spawn (P:=P) (sl:=sl) (i:=0) o m;have⟨W,ab,Y⟩:=fV.U7 (G':=G.child gs.size (m0+n) give) y (λk=>qF) rfl rfl;have ag:ro (m0+n)=.none:=by
   cases fV.lay with
   |st r2 s2 F I gr M N O gn=>omega
   |uF F M N O=>omega
   |rc r2 S2 s2 F M N O gS I=>omega
  have H:¬G.done gs.size:=λh=>by obtain x|⟨i,s,x,_⟩:=(fV.done _).1 h;omega;grind
  have aj:G.sayer=0:=by rw[fV.say,ag];rfl
  have q:=dS.spawn (r0':=.rc n (λ_=>false) 2) (rc':=.cl .kd) (τ0:=τ0) (τc:=τc) (sy:=m0+n) (give:=give) (fn:=g.frame.fn) (fn':=child.frame.fn) (pos:=g.frame.place) (pos':=g.frame.place) o B cK cL v H (by rw[E,c];exact .src l) (by rw[c];exact .Ub hA U);rw[W]at q;refine Goal.mk (G':=G.child gs.size (m0+n) give) (rk':=upd (upd rk (m0+n) τc) 0 τ0) (dd':=dd) (cl':=cl) u (by simpa[MemOp.ofEvents,W]using q) ix cK ?_ hX hT (.a Y);refine kC.app rfl λ_ op Z _=>?_;have Q:op={g:=0,fn:=g.frame.fn,pos:=g.frame.place,act:=.go gs.size}\/op={g:=gs.size,fn:=child.frame.fn,pos:=g.frame.place,act:=.start}:=by simpa[MemOp.ofEvents]using Z
  obtain rfl|rfl:=Q<;>rfl;omega
 | @src r S z A f g w h=>
  obtain ac|h:=fg.Kp (sl:=sl) dS fV kC hX hT ix (k:=0) o (by rw[E,c];exact h) D y dt dt C (λA f g w h=>by rw[B,c];rw[c]at h;exact .src h);refine fg.FN dS fV kC hX hT ix o y cK c B (j8 (ac w (.refl _ _ _ _))).2;grind
 | @N7 r S z A f g w h=>cases u
 | @sup S z A f g w h=>
  have hx:=j8 (h w (.refl _ _ _ _));refine fg.FN (a:=g) dS fV kC hX hT ix o y (λw1 ad=>by rw[E]at ad⊢;exact h w1 ad) c B λw1=>?_;rw[stepG_tries];have e:({g with status:=.running}:cP)=g:=by have⟨fr,cl,s,dy,of⟩:=g;grind
  grind
 |_=>
  exfalso;cases fV.lay with
  |st r2 s2 F I gr M N O gn=>rw[y]at F;cases F
  |uF F M N O=>rw[y]at F;cases F
  |rc r2 S2 s2 F M N O gS I=>rw[y]at F;cases F
end
section
variable{P:cU}{ty:cQ}{Wg Ch n:Nat}{rd0:Nat->Prop}{val:Nat->cJ->(Nat->Prop)->cI->Prop}{End:iT}{w0:cI}{B0 m0:Nat}{X:Nat->Prop}{T0:Nat} {ro:Nat->eQ}{rk:Nat->WT}{dd:Nat->Nat}{G:Gh}{cl:Bool}{gs:Array cP}{w w':cI}{sl:Option (Nat×Nat)}{t:Trace}{st sm:Int}
theorem Wt:∀{n:Nat},1<=V n m0 ro->∃i,i<n/\5<=kL (ro (m0+i))
 |0,h=>by grind [V,sumTo]
 |n+1,h=>by
  by_cases a:5<=kL (ro (m0+n));grind;have:1<=V n m0 ro:=by grind [DO,V,sumTo]
  have⟨i,b,c⟩:=Wt this;grind
theorem R5(o:Com P ty Wg Ch n rd0 val End w0 B0 ro rk dd G cl gs w t)(j:Pl n m0 ro cl G gs.size st sm)(b:0<gs.size):∃(i:Nat) (g:cP),gs[i]? =some g/\g.status=.running:=by
 have x:∀i,i<gs.size->∃g,gs[i]? =some g:=λi d=>⟨gs[i],nw d⟩;have a:∀i,i<gs.size->¬(ro i).idle->∃(i:Nat) (g:cP),gs[i]? =some g/\g.status=.running:=λi d k=>by have⟨g,B⟩:=x i d;obtain h|⟨h,_⟩:=(o.sit i g B).running;grind;grind
 cases j.lay with
 |st r s p _ _ _ _ _ _=>exact a 0 b (by rw[p];exactλh=>h)
 |uF p _ _ _=>exact a 0 b (by rw[p];exactλh=>h)
 |rc r S s p l I y J C=>
  obtain rfl|⟨rfl,z,D⟩:=C;exact a 0 b (by rw[p];exactλh=>h)
  ·by_cases E:∃i,i<n/\kL (ro (m0+i))=9;have⟨i,d,e⟩:=E;have⟨s,f,_⟩:=y i d;rw[f]at e;simp only[kL]at e;subst e;exact a (m0+i) cL (by rw[f];exactλh=>h);have⟨c,l⟩:=l;by_cases k:(ro (m0+n)).idle;have F:c=.blk:=by
    rw[l]at k;cases c<;>first|rfl|exact k.elim|skip
    exfalso;have:=j.clq.2 l;grind
   subst F;cases K:j.mode with
   |opn m _ _=>rw[l]at m;exact m.elim
   |reg _ _ q=>
    have⟨i,d,A⟩:=Wt q;have⟨s,f,M,N,_⟩:=y i d;have u:=D i d;have v:kL (ro (m0+i))≠9:=cK;rw[f]at A u v;simp only[kL]at A u v;refine a (m0+i) cL ?_;rw[f];obtain rfl|rfl|rfl:s=5\/s=6\/s=7:=cL;all_goals exactλh=>h
   |last L _ H q _=>
    have⟨s,f,_⟩:=y L H;rw[f]at q;simp only[kL]at q;refine a (m0+L) cL ?_;rw[f];obtain rfl|rfl|rfl:=q;all_goals exactλh=>h
   |sema m _=>grind
   |fin m _=>rw[l]at m;exact m.elim
   grind
theorem OQ(a:Com P ty Wg Ch n rd0 val End w0 B0 ro rk dd G cl gs w t):∀g∈gs,awake g:=by intro g b d;have⟨i,c⟩:=Array.mem_iff_getElem?.1 b;obtain h|⟨_,h|h⟩:=(a.sit i g c).running<;>rw[h]<;>simp
theorem fg.step(C:n<2147483647){J:Mu}{m:Machine}(h:fg P ty Wg Ch n rd0 val End w0 B0 m0 X T0 J m t):(∃j q,stepT P m=(.next j,q)/\ON P Wg Ch End w0 B0 X j (t++q))\/∃j q B,stepT P m=(.next j,q)/\Mu.Lt B J/\fg P ty Wg Ch n rd0 val End w0 B0 m0 X T0 B j (t++q):=by
 obtain⟨gs,w,sl,ro,rk,dd,G,cl,st,sm,rfl,u,D,b,o,z,A,rfl⟩:=h;have v:0<gs.size:=by
  cases b.lay with
  |st r s K E hr L M N C=>grind
  |uF K L M N=>grind
  |rc r S s K L M N x E=>omega
 have⟨k,g,d,p,y,l,F⟩:=crowd_pick (P:=P) (w:=w) (sl:=sl) (OQ u) (R5 u b v);rw[F];have a:=u.at d;have f:WgAt ty Wg (w.at d) st sm:=D;obtain rfl|⟨O,Q⟩|⟨i,s,R,rfl,e,_,_⟩|⟨rfl,c,e⟩:=b.lt_size (iS.1 y).1;exact fg.OP (sl:=p) a b o z A f C y l;right;have x:=a.sit k g y;rw[b.old k O Q]at x;generalize H:rk k=τ at x;generalize I:dd k=T at x;generalize ho:G.own k=U at x;generalize V:G.rd k=rc at x;cases x with
 |old h=>exact fg.slip (sl:=p) a b o z A f y cL dt h l H I (b.old k O Q) λ_ _ _ _ h=>.old h
 right;by_cases E:s<=7;exact fg.R3 (sl:=p) a b o z A f C R y e E l;obtain rfl|rfl:=(show s=9\/s=8 by omega);exact fg.OO (sl:=p) a b o z A f R y e v;have x:=a.sit _ g y;rw[e]at x;generalize dd (m0+i)=T at x;cases x with
 |u4 h=>cases l
 right;obtain h|⟨rfl,h,I⟩|⟨rfl,W,Y,Z,h4⟩:=fg.IG (sl:=p) a b o z A f C y e l;exact h;exact fg.Mc (sl:=p) a b o z A f y e v h I;exact fg.Mb (sl:=p) a b o z A f y e W Y Z h4
theorem fg.runs(k:n<2147483647):∀(d:Mu) (m:Machine) (t:Trace),fg P ty Wg Ch n rd0 val End w0 B0 m0 X T0 d m t->∃N e f,runNT P N m t=(.next e,f)/\ON P Wg Ch End w0 B0 X e f:=by
 intro d;induction d using Mu.wf.induction with
 |_ d l=>
  intro m t h;obtain⟨a,b,c,g⟩|⟨a,b,i,c,j,o⟩:=h.step k;exact⟨1,a,t++b,lV c,g⟩;have⟨N,e,f,p,g⟩:=l i j a (t++b) o;exact⟨1+N,e,f,Go.dz.runNT_add (lV c) p,g⟩
theorem phase(hn:n<2147483647){q:Nat->Nat}{a:cP}(Z:gs[0]? =some a)(hL:Leavers P t gs q)(E:Past (pE X) w.heap.size t)(j:∀b,rd0 b->b<w.heap.size/\¬X b/\b≠Wg/\b≠Ch) (F:Wg≠Ch)(H:¬X Wg)(I:¬X Ch)(l:WgAt ty Wg w 0 0){c:Nat}(z:w.heap[Ch]? =some (.chan 0 #[] false c c false))(hS:qe P ty Wg Ch n rd0 val End n dp a w):∃N m' t',runNT P N (crowd gs w sl) t=(.next m',t')/\ON P Wg Ch End w w.heap.size X m' t':=by
 have A:0<gs.size:=(iS.1 Z).1;let G:Gh:={own:=λ_ _=>False,rd:=λg b=>g=0/\rd0 b,wg:=λb=>b=Wg\/b=Ch,user:=λg=>g=0,sayer:=0,x:=X,done:=λg=>g≠0/\g<gs.size,t0:=t.size};have J:Kn.gG G w.lH t:=by
  have f:=gG.begin (m0:=gs.size) E (rd0:=rd0) λb f=>(j b f).2.1;refine f.FH (λ_ _ h=>h.elim) (λg b h i a B m hw=>f.rd i a g b B m h hw) (λb h i a B m=>?_) rfl λg i hz a B hm K=>?_;refine .inr (.inr λg K=>?_);have L:g=0:=K;subst L;obtain x|⟨x,_⟩:=E.known i a B (oJ m);exact x;exfalso;have o:b=Wg\/b=Ch:=h;have M:¬X b:=by obtain rfl|rfl:=o;exact H;exact I
  clear h o;apply M;revert m x;cases a.loc<;>simp_all[blk,pE]<;>(intro x e;subst e;exact x);obtain x|⟨x,⟨b,O,Q⟩,y⟩:=f.told i a g B hm K hz;exact .inl x;exact .inr ⟨x,⟨b,O,Q.imp (λh=>h.elim) id⟩,y⟩
 have p:G.Fits w.lH:=by refine⟨λ_ _ h=>h.elim,λg b h=>(j b h.2).1,λb h=>?_,λ_ _ _ h=>h.elim,λ_ _ _ h=>h.elim,λ_ _ h=>h.elim,λg b h h2=>h2.elim (j b h.2).2.2.1 (j b h.2).2.2.2,λg h=>⟨h.1,jc h.1,λb h=>h.elim,λb f=>h.1 f.1⟩⟩;have o:b=Wg\/b=Ch:=h;obtain rfl|rfl:=o;exact lt_of_heap l;exact lt_of_heap z
 let ro:Nat->eQ:=λk=>if k=0 then qh n else if k<gs.size then .old else .none
 have⟨u,R⟩:∃u,mI P ty Wg Ch n rd0 val End (qh n) u 0 dp rd0 a w:=by
  cases n with
  |zero=>
   have⟨u,S⟩:=hS;exact⟨u,.RQ S⟩
  |succ r=>
   have⟨u,S⟩:=hS;exact⟨u,.skd cL S⟩
 let rk:Nat->WT:=λk=>if k=0 then u else .num (q k)
 have C:Com P ty Wg Ch n rd0 val End w w.lH ro rk (Deaf t) G false gs w t:=by
  refine⟨λk g v=>?_,J,p,λ_=>rfl,hL.above,λb=>qF,λk b f=>?_,F,lt_of_heap l,λi k D v=>?_,λ_ _ h=>h.elim,λ_ _ _ _=>rfl,dg _,⟨rfl,rfl,rfl⟩,⟨_,_,l⟩,⟨c,z⟩⟩;by_cases e:k=0;subst e;rw[Z]at v;obtain rfl:=dQ v;have e1:G.own 0=dp:=rfl;have e2:G.rd 0=rd0:=by funext b;simp[G]
  simp only[ro,rk,ej];rw[E.hears,e1,e2];exact R;have T:=(iS.1 v).1;simp only[ro,rk,cR e,cT T];exact .old (hL.old k g cL v);obtain f|f:=f;exact f.elim;exact(j b f.2).2.2.2;exfalso;have:t.size<=i:=D;have⟨op,U,_⟩:=iC.1 v;have:=lt_size_of_getElem? U;omega
 have hV:V n gs.size ro=0:=by
  have:V n gs.size ro=sumTo n λ_=>0:=sumTo_congr λi D=>by simp only[ro];rw[cR cL,cR cL];rfl
  rw[this,u6]
 have d:∀i,ro (gs.size+i)=.none:=λi=>by simp only[ro];rw[cR cL,cR cL]
 have W:Pl n gs.size ro false G gs.size 0 0:=by
  refine⟨A,?_,λk k1 k2=>?_,?_,?_,λk=>?_,?_,λk=>?_⟩;cases n with
  |zero=>exact .uF rfl (d 0) cL λi D=>cL
  |succ r=>exact .st r 6 rfl cL cL (d _) cL (λi D=>cL) λi _ _=>d i
  simp only[ro];rw[cR cL,cT k2];rw[d];simp;have:=Mode.opn (n:=n) (m0:=gs.size) (ro:=ro) (by rw[d];trivial) (λi D=>.inl (by rw[d];rfl)) (λvs hv=>by rw[d]at hv;cases hv);have Y:pend (ro 0)=0:=by simp only[ro,ej];cases n<;>rfl
  rw[hV,Y]at this;simpa using this;show k=0↔_;omega;rw[d];rfl;show(k≠0/\k<gs.size)↔_;constructor;exactλh=>.inl ⟨cL,h.2⟩;rintro(h|⟨i,s,e,_⟩);exact⟨cL,h.2⟩;simp only[ro]at e;split at e;revert e;cases n<;>simp[qh];split at e<;>cases e
 exact fg.runs hn _ _ _ ⟨gs,w,sl,ro,rk,Deaf t,G,false,0,0,rfl,C,l,W,(λh=>(nomatch h)),rfl,rfl,rfl⟩
end
end Go.dz.Cr
namespace Go.dz.Wg
open Go.Conc Go.ConcN Go.RowKit Go.Conc.Lib Go.ConcR.Gen Go.ConcN.Gen
open Go.ConcR (KK wgBlock WgAt stA smA mk Payload DC0)
variable{L:WgLink}
section
variable(P:cU)(main:Bool)(R:cI->cI->Prop)(Wg:Nat)
def z0(m:Mark)(a:cP->dB)(g:cP)(w:cI):Prop:=g.status=.running/\∃b,stepG P main g w=.go b w #[mk m]/\∃k,Goes P main R DC0 a k b w
def YH(b:cQ)(Fin:cP->dB)(g:cP)(w:cI):Prop:=g.status=.running/\∀v:Nat,v<2147483647->WgAt b Wg w (v*KK) 0->∃a,stepG P main g w=.go a (w.setCell (stA Wg) (.int .u64 ((v+1)*KK))) #[ConcR.rd (stA Wg),ConcR.wr (stA Wg)]/\(v=0->∃k,Goes P main R DC0 (z0 P main R (.read (smA Wg)) (z0 P main R .enable Fin)) k a (w.setCell (stA Wg) (.int .u64 ((v+1)*KK))))/\(v≠0->∃k,Goes P main R DC0 (z0 P main R .enable Fin) k a (w.setCell (stA Wg) (.int .u64 ((v+1)*KK))))
end
section
variable{R:cI->cI->Prop}{Wg:Nat}{F:cI->Prop}{main:Bool}{Fin:cP->cI->Prop} {b₀:Frame}{a₀:Act}{ops₀:Array Oper}{i₀:Nat}{rest₀:List Nat}{k₀:List Item}{cs:List Frame}
def XP{P:cU}(H:WgLib P L)(b:∀{w e},F w/\WgLive L.tWg Wg w->R w e->F e/\WgLive L.tWg Wg e)(q:∀w x,F w->F (w.setCell (stA Wg) x))
 (r:Fin=λg w=>g=G (b₀.at (a₀.put ((ops₀[i₀]?).bind (·.dst)) (.tuple #[])) (.inRegion ops₀ rest₀::k₀)) cs/\F w/\WgLive L.tWg Wg w)
 (w:cI)(a:F w/\WgLive L.tWg Wg w):∃k,Goes P main R DC0 (z0 P main R .disable (YH P main R Wg L.tWg Fin)) k (G ((base L.add).at ⟨#[.pointer (some ⟨Wg,0,none⟩),.int .i64 1]++Array.replicate ((addFn L).ntmps-2) undef,[]⟩ [.code (body_add L)]) (b₀.at a₀ (.inRegion ops₀ (i₀::rest₀)::k₀)::cs)) w:=by
 lib_facts;refine⟨60,?_⟩;simp only[body_add,addFn,kG,Nat.reduceSub,Array.replicate,List.replicate];u_c dk b a;u_cond true b a;iterate 2 u_c dk b a
 u_reg b a;iterate 2 u_op b a
 u_c cY b a;u_cond false b a;u_c fx b a;u_c dk b a;u_reg b a;refine jC (λe l=>?_);replace a:=b a l;clear l;refine⟨rfl,_,stepG_mark0 .disable dt rfl rfl (by k_ne) rfl H.f_disable (x_disable_n L) (x_disable_b L) (x_disable_x L) (x_disable_f L),100,?_⟩;walk_nrm;u_c cY b a;u_reg b a;u_defer b a;u_c cY b a;u_c dk b a;u_reg b a;u_op b a;u_c cY b a;iterate 2 u_c dk b a
 u_reg b a;u_bub b a;u_c cY b a;u_cond false b a;u_c fx b a;u_c dk b a;u_reg b a;iterate 6 u_op b a
 u_call H.f_uAdd (nm_uAdd L) uAddFn b a;u_c dk b a;u_reg b a;u_op b a;u_c cY b a;u_c dk b a;u_reg b a;iterate 4 u_op b a
 refine jC (λc m=>?_);replace a:=b a m;clear m;refine⟨rfl,λv D j=>?_⟩;obtain rfl|y:=mM v
 ·replace j:WgAt L.tWg Wg c 0 0:=cK;have z:(((0:Nat):Int)+1)*KK=KK:=dt;rw[z];have A:IntKind.u64.wrap (0+4294967296)=KK:=kA;refine⟨_,(stepG_add_atomic rfl rfl (by k_ne) rfl H.f_addU64 (x_addU64_n L) (x_addU64_b L) (x_addU64_x L) .u64 (x_addU64_f L) rfl rfl j.cellSt (j.thaw 0)).trans (by rw[A];rfl),λ_=>⟨100,?_⟩,λh=>absurd rfl h⟩;replace a:F (c.setCell (stA Wg) (.int .u64 KK))/\WgLive L.tWg Wg (c.setCell (stA Wg) (.int .u64 KK)):=⟨q _ _ a.1,⟨_,_,j.setSt _⟩⟩;clear j;simp only[KK]at a⊢;walk_nrm;u_op b a;u_c cY b a;u_c stepG_ret' b a;u_leave1 H.f_uAdd b a;u_op b a;u_c cY b a;iterate 2 u_c dk b a
  u_reg b a;iterate 4 u_op b a
  iterate 2 u_skip b a
  u_op b a;u_c cY b a;u_cond false b a;u_c fx b a;u_c dk b a;u_reg b a;iterate 4 u_op b a
  u_c cY b a;u_c dk b a;u_reg b a;iterate 4 u_op b a
  u_c cY b a;iterate 2 u_c dk b a
  u_reg b a;iterate 10 u_op b a
  u_c cY b a;u_cond true b a;u_reg b a;iterate 3 u_op b a
  u_conv H.underlying_tPU32 H.room_tU32 (WgLive.cell1 a.2).choose_spec b a;refine jC (λs n=>?_);replace a:=b a n;clear n;refine⟨rfl,_,stepG_markAt .read dt rfl rfl (by k_ne) rfl H.f_raceRead (x_raceRead_n L) (x_raceRead_b L) (x_raceRead_x L) (x_raceRead_f L) (ad:=(dq Wg 1)) (by simp[Act.eval]),100,?_⟩;walk_nrm;u_c cY b a;iterate 2 u_c dk b a
  u_reg b a;iterate 2 u_op b a
  u_c cY b a;u_cond false b a;u_c fx b a;iterate 2 u_c dk b a
  u_reg b a;iterate 3 u_op b a
  iterate 2 u_skip b a
  iterate 2 u_op b a
  iterate 4 u_skip b a
  u_op b a;u_c cY b a;u_cond false b a;u_c fx b a;iterate 2 u_c dk b a
  u_reg b a;iterate 3 u_op b a
  iterate 2 u_skip b a
  u_op b a;u_c cY b a;u_cond true b a;u_c stepG_ret' b a;refine jC (λo d=>?_);replace a:=b a d;clear d;refine⟨rfl,_,stepG_unwind_entry (v:=.tuple #[]) (evs:=#[mk .enable]) rfl H.f_enable (x_enable_n L) (x_enable_b L) (x_enable_x L) (x_enable_f L) (by simp[Extern.Race.none_]) (by simp[mk]) (by simp[mk]),10,?_⟩;u_leave0 H.f_add b a;subst r;exact jC λp i=>⟨rfl,b a i⟩
 ·obtain⟨S,f⟩:∃S:Int,S=((v:Int)+1)*KK:=⟨_,rfl⟩;obtain⟨V,t⟩:∃V:Int,V=(v:Int)+1:=⟨_,rfl⟩;have u:IntKind.u64.wrap ((v:Int)*KK+4294967296)=S:=by rw[IntKind.wrap_u64,f];simp only[KK];omega
  rw[<-f];have E:S/4294967296=V:=by rw[f,t];simp only[KK];omega
  have I:bits .and .u64 S 2147483648=0:=by rw[f];have:=st_flag (v+1) 0 cL cL;simpa[KK]using this
  have J:bits .and .u64 S 2147483647=0:=by rw[f];have:=st_waiters (v+1) 0 cL cL;simpa[KK]using this
  have K:IntKind.i32.wrap V=V:=by rw[IntKind.wrap_i32];omega
  have B:1<V:=cL;have C:V<2147483648:=cL;have M:(V==1)=false:=pY;have N:decide (V=1)=false:=lL cL;have O:decide (V<0)=false:=lL cL;have Q:decide (0<V)=true:=decide_eq_true cL;have T:(V==0)=false:=pY;have U:decide (V=0)=false:=lL cL;refine⟨_,(stepG_add_atomic rfl rfl (by k_ne) rfl H.f_addU64 (x_addU64_n L) (x_addU64_b L) (x_addU64_x L) .u64 (x_addU64_f L) rfl rfl j.cellSt (j.thaw 0)).trans (by rw[u];rfl),λh=>absurd h cL,λ_=>⟨110,?_⟩⟩;replace a:F (c.setCell (stA Wg) (.int .u64 S))/\WgLive L.tWg Wg (c.setCell (stA Wg) (.int .u64 S)):=⟨q _ _ a.1,⟨_,_,j.setSt _⟩⟩;clear j f t u;walk_nrm;u_op b a;u_c cY b a;u_c stepG_ret' b a;u_leave1 H.f_uAdd b a;u_op b a;u_c cY b a;iterate 2 u_c dk b a
  u_reg b a;iterate 4 u_op b a
  iterate 2 u_skip b a
  u_op b a;u_c cY b a;u_cond false b a;u_c fx b a;u_c dk b a;u_reg b a;iterate 4 u_op b a
  u_c cY b a;u_c dk b a;u_reg b a;iterate 4 u_op b a
  u_c cY b a;iterate 2 u_c dk b a
  u_reg b a;iterate 10 u_op b a
  u_c cY b a;u_cond false b a;u_c fx b a;iterate 2 u_c dk b a
  u_reg b a;iterate 2 u_op b a
  u_c cY b a;u_cond false b a;u_c fx b a;iterate 2 u_c dk b a
  u_reg b a;iterate 3 u_op b a
  iterate 2 u_skip b a
  iterate 2 u_op b a
  iterate 4 u_skip b a
  u_op b a;u_c cY b a;u_cond false b a;u_c fx b a;iterate 2 u_c dk b a
  u_reg b a;iterate 3 u_op b a
  iterate 2 u_skip b a
  u_op b a;u_c cY b a;u_cond true b a;u_c stepG_ret' b a;refine jC (λo d=>?_);replace a:=b a d;clear d;refine⟨rfl,_,stepG_unwind_entry (v:=.tuple #[]) (evs:=#[mk .enable]) rfl H.f_enable (x_enable_n L) (x_enable_b L) (x_enable_x L) (x_enable_f L) (by simp[Extern.Race.none_]) (by simp[mk]) (by simp[mk]),10,?_⟩;u_leave0 H.f_add b a;subst r;exact jC λp i=>⟨rfl,b a i⟩
end
variable{L:WgLink}
section
variable(P:cU)(main:Bool)(R:cI->cI->Prop)(Wg:Nat)
def Ct(m:Mark)(a:cP->dB)(g:cP)(w:cI):Prop:=g.status=.running/\∃b,stepG P main g w=.go b w #[mk m]/\∃k,Goes P main R DC0 a k b w
def XQ(Fin:cP->dB):cP->dB:=Ct P main R .enable (Ct P main R (.acquire (stA Wg)) Fin)
def Zm(b:cQ)(Fin:cP->dB)(g:cP)(w:cI):Prop:=g.status=.running/\(WgAt b Wg w 0 0->∃a,stepG P main g w=.go a w #[ConcR.rd (stA Wg)]/\∃k,Goes P main R DC0 (XQ P main R Wg Fin) k a w)
def Zn(a:cQ)(Fin:cP->dB)(g:cP)(w:cI):Prop:=g.status=.running/\g.offers=none/\((∃c,WgAt a Wg w c 0)->stepG P main g w=.go {g with status:=.blocked} w #[])/\
 (WgAt a Wg w 0 1->∃b,stepG P main g w=.go b (w.setCell (smA Wg) (.int .u32 0)) (semEvents (smA Wg))/\∃k,Goes P main R DC0 (Zm P main R Wg a Fin) k b (w.setCell (smA Wg) (.int .u32 0)))
def Zo(c:cQ)(a Fin:cP->dB)(d:Nat)(g:cP)(w:cI):Prop:=g.status=.running/\∀v:Nat,v<2147483648->WgAt c Wg w (v*KK) 0->(v=d->∃b,stepG P main g w=.go b (w.setCell (stA Wg) (.int .u64 (v*KK+1))) #[ConcR.rd (stA Wg),ConcR.wr (stA Wg)]/\∃k,Goes P main R DC0 (Ct P main R (.write (smA Wg)) (Zn P main R Wg c Fin)) k b (w.setCell (stA Wg) (.int .u64 (v*KK+1))))/\(v≠d->∃b,stepG P main g w=.go b w #[ConcR.rd (stA Wg)]/\∃k,Goes P main R DC0 a k b w)
def YI(c:cQ)(a Fin:cP->dB)(g:cP)(w:cI):Prop:=g.status=.running/\∀v:Nat,v<2147483648->WgAt c Wg w (v*KK) 0->∃b,stepG P main g w=.go b w #[ConcR.rd (stA Wg)]/\(v=0->∃k,Goes P main R DC0 (XQ P main R Wg Fin) k b w)/\(v≠0->∃k,Goes P main R DC0 (Zo P main R Wg c a Fin v) k b w)
end
section
variable{R:cI->cI->Prop}{Wg:Nat}{F:cI->Prop}{main:Bool}{Fin:cP->cI->Prop} {b₀:Frame}{a₀:Act}{ops₀:Array Oper}{i₀:Nat}{rest₀:List Nat}{k₀:List Item}{cs:List Frame}
def IJ{P:cU}(H:WgLib P L)(c:∀{w a},F w/\WgLive L.tWg Wg w->R w a->F a/\WgLive L.tWg Wg a)(w:cI)(b:F w/\WgLive L.tWg Wg w):∃k,Goes P main R DC0 (Ct P main R .disable (AnchWN L F Wg (b₀.at a₀ (.inRegion ops₀ (i₀::rest₀)::k₀)) cs)) k (G ((base L.wait).at ⟨#[.pointer (some ⟨Wg,0,none⟩)]++Array.replicate ((waitFn L).ntmps-1) undef,[]⟩ [.code (body_wait L)]) (b₀.at a₀ (.inRegion ops₀ (i₀::rest₀)::k₀)::cs)) w:=by lib_facts;refine⟨30,?_⟩;simp only[body_wait,waitFn,kG,Nat.reduceSub,Array.replicate,List.replicate];u_c dk c b;u_cond true c b;u_reg c b;refine jC (λa d=>?_);replace b:=c b d;clear d;refine⟨rfl,_,stepG_mark0 .disable dt rfl rfl (by k_ne) rfl H.f_disable (x_disable_n L) (x_disable_b L) (x_disable_x L) (x_disable_f L),3,?_⟩;walk_nrm;u_c cY c b;u_c sQ c b;u_c stepG_loop c b;exact jC (λf e=>⟨_,rfl,dt,dt,c b e⟩)
def IK{P:cU}(H:WgLib P L)(b:∀{w d},F w/\WgLive L.tWg Wg w->R w d->F d/\WgLive L.tWg Wg d)(K:∀w x,F w->F (w.setCell (stA Wg) x))(E:∀w x,F w->F (w.setCell (smA Wg) x))
 (o:Fin=λg w=>g=G (b₀.at (a₀.put ((ops₀[i₀]?).bind (·.dst)) (.tuple #[])) (.inRegion ops₀ rest₀::k₀)) cs/\F w/\WgLive L.tWg Wg w)
 (g:cP)(w:cI)(h:AnchWN L F Wg (b₀.at a₀ (.inRegion ops₀ (i₀::rest₀)::k₀)) cs g w):∃k,Goes P main R DC0 (YI P main R Wg L.tWg (AnchWN L F Wg (b₀.at a₀ (.inRegion ops₀ (i₀::rest₀)::k₀)) cs) Fin) k g w:=by
 lib_facts;obtain⟨T,rfl,y,I,a⟩:=h;obtain⟨v0,v1,v2,v3,v4,v5,v6,v7,v8,v9,M,N,O,Q,U,V,W,X,Y,Z,aa,ab,ac,ae,af,ag,ah,ai,aj,ak,al,am,an,ao,ap,aq,ar,au,av,aw,ax,ay,az,aA,aB,aC,aD,aE,aF,aG,aH,aI,aJ,aK,aL,aM,aN,aO,aP,aQ,aR,aS,aT,aU,aV,aW,aX,aY,aZ,a0,a2,a3,a4,a5,a6,a7,a8,a9,ba,bb,bc,bd,be,bf,rfl⟩:=array84 T y;simp only[Fs,Kc,iO]at I;subst I;refine⟨40,?_⟩;simp only[L7,body_wait,waitFn,kG];u_c sQ b a;u_c dk b a;u_reg b a;iterate 3 u_op b a
 u_call H.f_uLoad (nm_uLoad L) uLoadFn b a;u_c dk b a;u_reg b a;u_op b a;u_c cY b a;u_c dk b a;u_reg b a;iterate 3 u_op b a
 refine jC (λd p=>?_);replace a:=b a p;clear p;refine⟨rfl,λv hv c=>?_⟩;obtain rfl|bg:=mM v
 ·replace c:WgAt L.tWg Wg d 0 0:=cK;refine⟨_,stepG_load_atomic (v:=0) rfl rfl (by k_ne) rfl H.f_loadU64 (x_loadU64_n L) (x_loadU64_b L) (x_loadU64_x L) .u64 (x_loadU64_f L) rfl c.cellSt,λ_=>⟨80,?_⟩,λh=>absurd rfl h⟩;clear c;walk_nrm;u_op b a;u_c cY b a;u_c stepG_ret' b a;u_leave1 H.f_uLoad b a;u_op b a;u_c cY b a;u_c dk b a;u_reg b a;iterate 4 u_op b a
  u_c cY b a;u_c dk b a;u_reg b a;iterate 4 u_op b a
  u_c cY b a;iterate 2 u_c dk b a
  u_reg b a;iterate 2 u_op b a
  u_c cY b a;u_cond true b a;u_c dk b a;u_cond true b a;u_c dk b a;u_reg b a;refine jC (λz f=>?_);replace a:=b a f;clear f;refine⟨rfl,_,stepG_mark0 .enable dt rfl rfl (by k_ne) rfl H.f_enable (x_enable_n L) (x_enable_b L) (x_enable_x L) (x_enable_f L),20,?_⟩;walk_nrm;u_c cY b a;u_reg b a;u_op b a;u_conv H.underlying_tWgP H.room_tWg (WgLive.cell0 a.2).choose_spec b a;refine jC (λA i=>?_);replace a:=b a i;clear i;refine⟨rfl,_,stepG_markAt .acquire dt rfl rfl (by k_ne) rfl H.f_acquire (x_acquire_n L) (x_acquire_b L) (x_acquire_x L) (x_acquire_f L) (by simp[Act.eval,stA]),40,?_⟩;walk_nrm;u_c cY b a;iterate 2 u_c dk b a
  u_reg b a;iterate 8 u_op b a
  iterate 2 u_skip b a
  u_op b a;u_c cY b a;u_cond false b a;u_c fx b a;u_c stepG_ret' b a;u_leave0 H.f_wait b a;subst o;exact jC λB m=>⟨rfl,b a m⟩
 ·have⟨S,j⟩:∃S:Int,(v:Int)*KK=S:=⟨_,rfl⟩;have a1:S/4294967296=(v:Int):=by rw[<-j];simp only[KK];simp
  have b1:bits .and .u64 S 2147483648=0:=by rw[<-j];have:=st_flag v 0 cL dt;grind [KK]
  have b2:bits .and .u64 S 2147483647=0:=by rw[<-j];have:=st_waiters v 0 cL dt;grind [KK]
  have c1:IntKind.i32.wrap (v:Int)=(v:Int):=by rw[IntKind.wrap_i32];omega
  have w1:IntKind.u64.wrap (S+1)=S+1:=by rw[IntKind.wrap_u64,<-j];simp only[KK];omega
  have q3:decide ((v:Int)<0)=false:=lL cL;have q4:decide (0<(v:Int))=true:=decide_eq_true cL;have q5:((v:Int)==0)=false:=pY;have q6:decide ((v:Int)=0)=false:=lL cL;rw[j]at c;refine⟨_,stepG_load_atomic (v:=S) rfl rfl (by k_ne) rfl H.f_loadU64 (x_loadU64_n L) (x_loadU64_b L) (x_loadU64_x L) .u64 (x_loadU64_f L) rfl c.cellSt,λh0=>absurd h0 cL,λ_=>⟨80,?_⟩⟩;clear c;walk_nrm;u_op b a;u_c cY b a;u_c stepG_ret' b a;u_leave1 H.f_uLoad b a;u_op b a;u_c cY b a;u_c dk b a;u_reg b a;iterate 4 u_op b a
  u_c cY b a;u_c dk b a;u_reg b a;iterate 4 u_op b a
  u_c cY b a;iterate 2 u_c dk b a
  u_reg b a;iterate 2 u_op b a
  u_c cY b a;u_cond false b a;u_c fx b a;u_c dk b a;u_reg b a;iterate 6 u_op b a
  u_call H.f_uCas (nm_uCas L) uCasFn b a;u_c dk b a;u_reg b a;u_op b a;u_c cY b a;u_c dk b a;u_reg b a;iterate 5 u_op b a
  refine jC (λq r=>?_);replace a:=b a r;clear r;refine⟨rfl,λv' bh c=>⟨λe=>?_,λe=>?_⟩⟩
  ·subst e;rw[j]at c⊢;refine⟨_,(stepG_cas_hit (v:=S) (n:=S+1) rfl rfl (by k_ne) rfl H.f_casU64 (x_casU64_n L) (x_casU64_b L) (x_casU64_x L) .u64 (x_casU64_f L) rfl rfl rfl c.cellSt (c.thaw 0)).trans (by rfl),80,?_⟩;replace a:F (q.setCell (stA Wg) (.int .u64 (S+1)))/\WgLive L.tWg Wg (q.setCell (stA Wg) (.int .u64 (S+1))):=⟨K _ _ a.1,⟨_,_,c.setSt _⟩⟩;clear c;walk_nrm;u_op b a;u_c cY b a;u_c stepG_ret' b a;u_leave1 H.f_uCas b a;u_c cY b a;u_cond true b a;iterate 2 u_c dk b a
   u_reg b a;iterate 4 u_op b a
   u_c cY b a;u_cond true b a;u_reg b a;iterate 3 u_op b a
   u_conv H.underlying_tPU32 H.room_tU32 (WgLive.cell1 a.2).choose_spec b a;refine jC (λC l=>?_);replace a:=b a l;clear l;refine⟨rfl,_,stepG_markAt .write dt rfl rfl (by k_ne) rfl H.f_raceWrite (x_raceWrite_n L) (x_raceWrite_b L) (x_raceWrite_x L) (x_raceWrite_f L) (ad:=(dq Wg 1)) (by simp[Act.eval]),60,?_⟩;walk_nrm;u_c cY b a;u_c dk b a;u_reg b a;u_op b a;u_c cY b a;iterate 2 u_c dk b a
   u_reg b a;iterate 4 u_op b a
   u_skip b a;u_op b a;u_c cY b a;u_cond false b a;u_c fx b a;u_c dk b a;u_reg b a;iterate 4 u_op b a
   refine jC (λs t=>?_);replace a:=b a t;clear t;refine⟨rfl,rfl,λ⟨st,c⟩=>stepG_semacquire_wait rfl rfl rfl H.f_semacquire (x_semacquire_n L) (x_semacquire_b L) (x_semacquire_x L) (x_semacquire_f L) (by simp[Act.eval,smA]) c.cellSm,λD=>?_⟩;refine⟨_,(stepG_semacquire (n:=1) rfl rfl (by k_ne) rfl H.f_semacquire (x_semacquire_n L) (x_semacquire_b L) (x_semacquire_x L) (x_semacquire_f L) (by simp[Act.eval,smA]) D.cellSm (by k_ne) (D.thaw 1)).trans (by rfl),50,?_⟩;replace a:F (s.setCell (smA Wg) (.int .u32 0))/\WgLive L.tWg Wg (s.setCell (smA Wg) (.int .u32 0)):=⟨E _ _ a.1,⟨_,_,D.setSm 0⟩⟩;clear D;walk_nrm;u_c cY b a;u_c dk b a;u_reg b a;iterate 3 u_op b a
   u_call H.f_uLoad (nm_uLoad L) uLoadFn b a;u_c dk b a;u_reg b a;u_op b a;u_c cY b a;u_c dk b a;u_reg b a;iterate 3 u_op b a
   refine jC (λJ u=>?_);replace a:=b a u;clear u;refine⟨rfl,λc=>⟨_,stepG_load_atomic (v:=0) rfl rfl (by k_ne) rfl H.f_loadU64 (x_loadU64_n L) (x_loadU64_b L) (x_loadU64_x L) .u64 (x_loadU64_f L) rfl c.cellSt,50,?_⟩⟩;clear c;walk_nrm;u_op b a;u_c cY b a;u_c stepG_ret' b a;u_leave1 H.f_uLoad b a;iterate 2 u_op b a
   u_c cY b a;u_c dk b a;u_cond true b a;u_c dk b a;u_reg b a;refine jC (λz f=>?_);replace a:=b a f;clear f;refine⟨rfl,_,stepG_mark0 .enable dt rfl rfl (by k_ne) rfl H.f_enable (x_enable_n L) (x_enable_b L) (x_enable_x L) (x_enable_f L),20,?_⟩;walk_nrm;u_c cY b a;u_reg b a;u_op b a;u_conv H.underlying_tWgP H.room_tWg (WgLive.cell0 a.2).choose_spec b a;refine jC (λA i=>?_);replace a:=b a i;clear i;refine⟨rfl,_,stepG_markAt .acquire dt rfl rfl (by k_ne) rfl H.f_acquire (x_acquire_n L) (x_acquire_b L) (x_acquire_x L) (x_acquire_f L) (by simp[Act.eval,stA]),40,?_⟩;walk_nrm;u_c cY b a;iterate 2 u_c dk b a
   u_reg b a;u_op b a;u_c cY b a;u_cond false b a;u_c fx b a;u_c stepG_ret' b a;u_leave0 H.f_wait b a;subst o;exact jC λB m=>⟨rfl,b a m⟩
  ·refine⟨_,stepG_cas_miss (v:=(v':Int)*KK) (old:=S) (n:=S+1) rfl rfl (by k_ne) rfl H.f_casU64 (x_casU64_n L) (x_casU64_b L) (x_casU64_x L) .u64 (x_casU64_f L) rfl rfl rfl c.cellSt (c.thaw 0) (by rw[<-j];simp only[KK];omega),12,?_⟩;clear c;walk_nrm;u_op b a;u_c cY b a;u_c stepG_ret' b a;u_leave1 H.f_uCas b a;u_c cY b a;u_cond false b a;u_c fx b a;u_c stepG_inBlock b a;u_c stepG_inLoop b a;refine jC (λC l=>?_);replace a:=b a l;exact⟨_,rfl,dt,dt,a⟩
end
end Go.dz.Wg
namespace Go.dz.Cr
open Go.Conc Go.dz Go.dz.Kn Go.dz.Wg
open Go.ConcR (KK wgBlock WgAt stA smA mk DC0)
open Go.ConcN (sumTo upd)
section
variable{P:cU}{main:Bool}{own rd:Nat->Prop}{L:cI->Prop}
theorem yg{D:cI->cI->Array Event->Prop}{S:cP->dB}{j:iT}(k:∀w d e,D w d e->N5 own rd w d e own)(f:∀g w,S g w->j own g w):∀{m:Nat} {g:cP} {w:cI},Goes P main (eP own rd L) D S m g w->∃i,Way P main rd L j i own g w
 |0,g,w,h=>⟨.leaf,.here λa b=>f _ _ (h a b)⟩
 |m+1,g,w,h=>by
  obtain h|⟨l,h⟩:=h;exact⟨.leaf,.here λa b=>f _ _ (h a b)⟩;refine Way.mk l λa b=>?_;have c:=h a b;revert c;cases n:stepG P main g a with
  |go o d e=>
   intro c;have⟨p,q⟩:=c;have⟨i,r⟩:=yg k f q;exact⟨o,d,e,own,i,rfl,k _ _ _ p,r⟩
  |_=>exactλc=>c.elim
def z7{w:cI}{a:Array Event}(h:∀e∈a,EvW own rd w.heap.size w.heap.size e):N5 own rd w w a own:=
 ⟨rfl,rfl,rfl,dg _,λb=>⟨.inl,λh=>h.elim id λh=>cL⟩,λ_ _ _=>rfl,h⟩
def R7(w a:cI)(b:Array Event)(h:DC0 w a b):N5 own rd w a b own:=by obtain⟨rfl,rfl⟩:=h;exact z7 λe c=>by simp at c
variable{ty:cQ}{Wg Ch n:Nat}
def pH{S:iT}{w:cI}(h:∀a,eP own rd (Lv ty Wg) w a->S own Z a):Wy P ty Wg main rd S own Z w:=⟨.leaf,.here h⟩
def jR{S:cP->dB}{S':iT}{m:Nat}{w:cI}(h:Goes P main (eP own rd (Lv ty Wg)) DC0 S m Z w)(a:∀Z w,S Z w->S' own Z w):Wy P ty Wg main rd S' own Z w:=
 yg R7 a h
theorem Wy.bind{S a:iT}{g:cP}{w:cI}(h:Wy P ty Wg main rd S own g w)(b:∀own g w,S own g w->Wy P ty Wg main rd a own g w):Wy P ty Wg main rd a own g w:=by have⟨c,h⟩:=h;exact Way.bind h b
def vY{S:cP->dB}{S':iT}{m:Nat}{w:cI}(h:Goes P main (eP own rd (Lv ty Wg)) DC0 S m Z w)(a:∀Z w,S Z w->Wy P ty Wg main rd S' own Z w):Wy P ty Wg main rd S' own Z w:=
 (jR (S':=λo Z w=>o=own/\S Z w) h λ_ _ h=>⟨rfl,h⟩).bind λo Z w ⟨e,b⟩=>by subst e;exact a Z w b
def xl{m:Mark}{a:cP->dB}{N:iT}(b:∀{k:Nat} {Z:cP} {w:cI},Goes P main (eP own rd (Lv ty Wg)) DC0 a k Z w->Wy P ty Wg main rd N own Z w){w:cI} (h:z0 P main (eP own rd (Lv ty Wg)) m a Z w):rB P main m (Wy P ty Wg main rd N) own Z w:=by have⟨c,d,e,k,f⟩:=h;exact⟨c,d,e,b f⟩
def IL{a:dn}{val:Nat->cJ->(dn)->dB}{i:Nat}{Next:iT}{b:cP->dB}{m:Nat}{w:cI} (h:Goes P true (eP own a (Lv ty Wg)) DC0 (z0 P true (eP own a (Lv ty Wg)) .disable (YH P true (eP own a (Lv ty Wg)) Wg ty b)) m Z w) (g:∀Z w,b Z w->Wy P ty Wg true a (Xn P ty Wg Ch a val i Next) own Z w):Wy P ty Wg true a (Wo P ty Wg Ch a val i Next) own Z w:=by
 have c:∀{k:Nat} {Z:cP} {w:cI},Goes P true (eP own a (Lv ty Wg)) DC0 (z0 P true (eP own a (Lv ty Wg)) .enable b) k Z w->Wy P ty Wg true a (Xo P ty Wg Ch a val i Next) own Z w:=λh=>
  jR h λZ w h=>xl (λh=>vY h g) h
 refine jR h λZ w h=>xl (λh=>jR h λZ w ⟨j,l⟩=>⟨j,λv n o=>?_⟩) h;have⟨p,e,q,r⟩:=l v n o;refine⟨p,e,λd=>?_,λd=>?_⟩;have⟨k,f⟩:=q d;exact jR f λZ w h=>xl c h;have⟨k,f⟩:=r d;exact c f
def rF{m:Mark}{a:cP->dB}{N:iT}(b:∀{k:Nat} {Z:cP} {w:cI},Goes P main (eP own rd (Lv ty Wg)) DC0 a k Z w->Wy P ty Wg main rd N own Z w){w:cI} (h:Ct P main (eP own rd (Lv ty Wg)) m a Z w):rB P main m (Wy P ty Wg main rd N) own Z w:=by have⟨c,d,e,k,f⟩:=h;exact⟨c,d,e,b f⟩
end
end Go.dz.Cr
namespace Go.dz.Wg
open Go.Conc Go.ConcN Go.RowKit Go.Conc.Lib Go.ConcR.Gen Go.ConcN.Gen Go.dz
open Go.ConcR (KK wgBlock WgAt stA smA mk Payload DC0)
variable{L:WgLink}
def gA{b:Frame}{a:Act}{k:List Item}{cs:List Frame}{n d:Nat}{c:Array Oper}{i:Nat}{e:cM}{o:Oper}(f:QuitsD P n d (G (b.at (a.put o.dst x) (.inRegion c e::k)) cs))(g:c[i]? =some o:=by rfl)(h:Region.wanted o (yielded c a.tmps)=true:=by rfl)(j:b.kind≠ .early:=by k_ne)(l:∀w,(execOp a.eval o).run P w=.ok (.value x) w:=by intro _;go_simp;(try(first|omega|(w_num;omega)|w_num|decide));rfl)(m:∀w,(execOp a.eval o).events P w #[]=#[]:=by intro _;simp[go_sem, *]):QuitsD P (n+1) d (G (b.at a (.inRegion c (i::e)::k)) cs):=QuitsD.value x g h j l m f
theorem mS:∀{n a d:Nat} {g:cP},n<=a->QuitsD P n d g->QuitsD P a d g
 |0,0,_,_,_,h=>h
 |0,_+1,_,_,_,h=>.inl h
 |n+1,0,_,_,b,_=>cK
 |n+1,a+1,_,_,b,h=>h.imp id λ⟨c,e,f,i,j,k⟩=>⟨c,e,f,i,j,mS cL k⟩
section
variable{Wg:Nat}{b₀:Frame}{a₀:Act}{ops₀:Array Oper}{i₀:Nat}{rest₀:List Nat}{k₀:List Item}{cs:List Frame}{qt:Nat}
def R8{P:cU}(H:WgLib P L)(q:QuitsD P qt 0 (G (b₀.at (a₀.put ((ops₀[i₀]?).bind (·.dst)) (.tuple #[])) (.inRegion ops₀ rest₀::k₀)) cs))(w:cI)(a:True/\WgLive L.tWg Wg w):
 Goes P false (eP Cr.dp Cr.dp (Cr.Lv L.tWg Wg)) DC0 (Cr.R0 P L.tWg Wg) 40 (G ((base L.add).at ⟨#[.pointer (some ⟨Wg,0,none⟩),.int .i64 (-1)]++Array.replicate ((addFn L).ntmps-2) undef,[]⟩ [.code (body_add L)]) (b₀.at a₀ (.inRegion ops₀ (i₀::rest₀)::k₀)::cs)) w:=by
 have b:∀{w f:cI},True/\WgLive L.tWg Wg w->eP Cr.dp Cr.dp (Cr.Lv L.tWg Wg) w f->True/\WgLive L.tWg Wg f:=λh r=>⟨trivial,r.live h.2⟩;lib_facts;simp only[body_add,addFn,kG,Nat.reduceSub,Array.replicate,List.replicate];u_c dk b a;u_cond true b a;iterate 2 u_c dk b a
 u_reg b a;iterate 2 u_op b a
 u_c cY b a;u_cond true b a;u_reg b a;u_op b a;u_conv H.underlying_tWgP H.room_tWg (WgLive.cell0 a.2).choose_spec b a;refine jC (λf g=>?_);replace a:=b a g;clear g;refine⟨rfl,_,stepG_markAt .releaseMerge dt rfl rfl (by k_ne) rfl H.f_relMerge (x_relMerge_n L) (x_relMerge_b L) (x_relMerge_x L) (x_relMerge_f L) (by simp[Act.eval,stA]),20,?_⟩;walk_nrm;u_c cY b a;u_c dk b a;u_reg b a;refine jC (λt i=>?_);replace a:=b a i;clear i;refine⟨rfl,_,stepG_mark0 .disable dt rfl rfl (by k_ne) rfl H.f_disable (x_disable_n L) (x_disable_b L) (x_disable_x L) (x_disable_f L),80,?_⟩;walk_nrm;u_c cY b a;u_reg b a;u_defer b a;u_c cY b a;u_c dk b a;u_reg b a;u_op b a;u_c cY b a;iterate 2 u_c dk b a
 u_reg b a;u_bub b a;u_c cY b a;u_cond false b a;u_c fx b a;u_c dk b a;u_reg b a;iterate 6 u_op b a
 u_call H.f_uAdd (nm_uAdd L) uAddFn b a;u_c dk b a;u_reg b a;u_op b a;u_c cY b a;u_c dk b a;u_reg b a;iterate 4 u_op b a
 refine jC (λe j=>?_);clear j a;refine⟨rfl,λv u y O c=>?_⟩;have A:IntKind.u64.wrap (KK+18446744069414584320)=0:=kA;have B:IntKind.u64.wrap (KK+1+18446744069414584320)=1:=kA;obtain rfl|C:=mM v<;>(obtain rfl|rfl:u=0\/u=1:=cL)
 ·replace c:WgAt L.tWg Wg e KK 0:=cK;have z:((0:Nat):Int)*KK+((0:Nat):Int)=0:=dt;rw[z];refine⟨_,(stepG_add_atomic rfl rfl (by k_ne) rfl H.f_addU64 (x_addU64_n L) (x_addU64_b L) (x_addU64_x L) .u64 (x_addU64_f L) rfl rfl c.cellSt (c.thaw 0)).trans (by rw[A];rfl),cK,λ_=>⟨qt+90,?_⟩⟩;clear c;walk_nrm;(refine gA ?_;walk_nrm);q_c cY;q_c stepG_ret';q_leave1 H.f_uAdd;(refine gA ?_;walk_nrm);q_c cY;iterate 2 q_c dk
  q_reg;iterate 4 (refine gA ?_;walk_nrm)
  iterate 2 q_skip
  (refine gA ?_;walk_nrm);q_c cY;q_cond false;q_c fx;q_c dk;q_reg;iterate 4 (refine gA ?_;walk_nrm)
  q_c cY;q_c dk;q_reg;iterate 4 (refine gA ?_;walk_nrm)
  q_c cY;iterate 2 q_c dk
  q_reg;iterate 5 (refine gA ?_;walk_nrm)
  iterate 4 q_skip
  (refine gA ?_;walk_nrm);q_c cY;q_cond false;q_c fx;iterate 2 q_c dk
  q_reg;iterate 2 (refine gA ?_;walk_nrm)
  q_c cY;q_cond false;q_c fx;iterate 2 q_c dk
  q_reg;iterate 3 (refine gA ?_;walk_nrm)
  iterate 2 q_skip
  iterate 2 (refine gA ?_;walk_nrm)
  iterate 4 q_skip
  (refine gA ?_;walk_nrm);q_c cY;q_cond false;q_c fx;iterate 2 q_c dk
  q_reg;iterate 6 (refine gA ?_;walk_nrm)
  q_c cY;q_cond true;q_c stepG_ret';q_enable;q_leave0 H.f_add;exact mS dt q
 ·replace c:WgAt L.tWg Wg e (KK+1) 0:=cK;have z:((0:Nat):Int)*KK+((1:Nat):Int)=1:=dt;rw[z];refine⟨_,(stepG_add_atomic rfl rfl (by k_ne) rfl H.f_addU64 (x_addU64_n L) (x_addU64_b L) (x_addU64_x L) .u64 (x_addU64_f L) rfl rfl c.cellSt (c.thaw 0)).trans (by rw[B];rfl),λ_=>⟨150,?_⟩,cK⟩;have a:True/\WgLive L.tWg Wg (e.setCell (stA Wg) (.int .u64 1)):=⟨trivial,_,_,c.setSt 1⟩;clear c;walk_nrm;u_op b a;u_c cY b a;u_c stepG_ret' b a;u_leave1 H.f_uAdd b a;u_op b a;u_c cY b a;iterate 2 u_c dk b a
  u_reg b a;iterate 4 u_op b a
  iterate 2 u_skip b a
  u_op b a;u_c cY b a;u_cond false b a;u_c fx b a;u_c dk b a;u_reg b a;iterate 4 u_op b a
  u_c cY b a;u_c dk b a;u_reg b a;iterate 4 u_op b a
  u_c cY b a;iterate 2 u_c dk b a
  u_reg b a;iterate 5 u_op b a
  iterate 4 u_skip b a
  u_op b a;u_c cY b a;u_cond false b a;u_c fx b a;iterate 2 u_c dk b a
  u_reg b a;iterate 2 u_op b a
  u_c cY b a;u_cond false b a;u_c fx b a;iterate 2 u_c dk b a
  u_reg b a;iterate 7 u_op b a
  iterate 4 u_skip b a
  u_op b a;u_c cY b a;u_cond false b a;u_c fx b a;iterate 2 u_c dk b a
  u_reg b a;iterate 6 u_op b a
  u_c cY b a;u_cond false b a;u_c fx b a;iterate 2 u_c dk b a
  u_reg b a;iterate 3 u_op b a
  u_call H.f_uLoad (nm_uLoad L) uLoadFn b a;u_c dk b a;u_reg b a;u_op b a;u_c cY b a;u_c dk b a;u_reg b a;iterate 3 u_op b a
  refine jC (λk l=>?_);clear l a;refine⟨rfl,λc=>⟨_,stepG_load_atomic rfl rfl (by k_ne) rfl H.f_loadU64 (x_loadU64_n L) (x_loadU64_b L) (x_loadU64_x L) .u64 (x_loadU64_f L) rfl c.cellSt,60,?_⟩⟩;have a:True/\WgLive L.tWg Wg k:=⟨trivial,_,_,c⟩;clear c;walk_nrm;u_op b a;u_c cY b a;u_c stepG_ret' b a;u_leave1 H.f_uLoad b a;iterate 2 u_op b a
  u_c cY b a;u_cond false b a;u_c fx b a;u_c dk b a;u_reg b a;iterate 3 u_op b a
  u_call H.f_uStore (nm_uStore L) uStoreFn b a;u_reg b a;iterate 4 u_op b a
  refine jC (λm n=>?_);clear n a;refine⟨rfl,λc=>⟨_,stepG_store_atomic rfl rfl (by k_ne) rfl H.f_storeU64 (x_storeU64_n L) (x_storeU64_b L) (x_storeU64_x L) (x_storeU64_f L) rfl rfl c.cellSt (c.thaw 0),60,?_⟩⟩;have a:True/\WgLive L.tWg Wg (m.setCell (stA Wg) (.int .u64 0)):=⟨trivial,_,_,c.setSt 0⟩;clear c;walk_nrm;u_c cY b a;u_c stepG_end b a;u_leave0 H.f_uStore b a;u_c cY b a;iterate 2 u_c dk b a
  u_reg b a;u_op b a;u_c cY b a;u_cond false b a;u_c fx b a;u_c sQ b a;u_c stepG_loop b a;iterate 2 u_c dk b a
  u_reg b a;iterate 2 u_op b a
  u_c cY b a;u_cond true b a;u_c fx b a;u_c dk b a;u_c sQ b a;u_reg b a;iterate 3 u_op b a
  refine jC (λx o=>?_);clear o a;refine⟨rfl,mayWake_entry rfl rfl H.f_semrelease (x_semrelease_b L),λc=>⟨_,(stepG_semrelease rfl rfl (by k_ne) rfl H.f_semrelease (x_semrelease_n L) (x_semrelease_b L) (x_semrelease_x L) (x_semrelease_f L) (by simp[Act.eval,smA]) c.cellSm (c.thaw 1)).trans (by rfl),qt+40,?_⟩⟩;clear c;walk_nrm;q_c cY;q_c stepG_inBlock;q_reg;iterate 3 (refine gA ?_;walk_nrm)
  q_c cY;q_c stepG_inLoop;iterate 2 q_c dk
  q_reg;iterate 2 (refine gA ?_;walk_nrm)
  q_c cY;q_cond false;q_exit;q_c stepG_end;q_enable;q_leave0 H.f_add;exact mS dt q
 ·replace c:WgAt L.tWg Wg e (((v:Nat)+1)*KK+0) 0:=cK;have z:((v:Nat):Int)*KK+((0:Nat):Int)=(v:Int)*KK+0:=dt;rw[z];have s:0<v:=cL;have p:IntKind.u64.wrap (((v:Nat)+1)*KK+0+18446744069414584320)=(v:Int)*KK+0:=by rw[IntKind.wrap_u64];simp only[KK];omega
  obtain⟨S,d⟩:∃S:Int,S=(v:Int)*KK+0:=⟨_,rfl⟩;rw[<-d]at p⊢;have D:S/4294967296=(v:Int):=by rw[d];simp only[KK];simp
  have E:bits .and .u64 S 2147483648=0:=by rw[d];have:=st_flag v 0 cL dt;grind [KK]
  have F:bits .and .u64 S 2147483647=0:=by rw[d];have:=st_waiters v 0 cL dt;grind [KK]
  have I:IntKind.i32.wrap (v:Int)=(v:Int):=by rw[IntKind.wrap_i32];omega
  have J:decide ((v:Int)<0)=false:=cK;have K:decide (0<(v:Int))=true:=cK;have M:((v:Int)==0)=false:=cK;have N:decide ((v:Int)=0)=false:=cK;clear d z;refine⟨_,(stepG_add_atomic rfl rfl (by k_ne) rfl H.f_addU64 (x_addU64_n L) (x_addU64_b L) (x_addU64_x L) .u64 (x_addU64_f L) rfl rfl c.cellSt (c.thaw 0)).trans (by rw[p];rfl),cK,λ_=>⟨qt+90,?_⟩⟩;clear c;walk_nrm;(refine gA ?_;walk_nrm);q_c cY;q_c stepG_ret';q_leave1 H.f_uAdd;(refine gA ?_;walk_nrm);q_c cY;iterate 2 q_c dk
  q_reg;iterate 4 (refine gA ?_;walk_nrm)
  iterate 2 q_skip
  (refine gA ?_;walk_nrm);q_c cY;q_cond false;q_c fx;q_c dk;q_reg;iterate 4 (refine gA ?_;walk_nrm)
  q_c cY;q_c dk;q_reg;iterate 4 (refine gA ?_;walk_nrm)
  q_c cY;iterate 2 q_c dk
  q_reg;iterate 5 (refine gA ?_;walk_nrm)
  iterate 4 q_skip
  (refine gA ?_;walk_nrm);q_c cY;q_cond false;q_c fx;iterate 2 q_c dk
  q_reg;iterate 2 (refine gA ?_;walk_nrm)
  q_c cY;q_cond false;q_c fx;iterate 2 q_c dk
  q_reg;iterate 3 (refine gA ?_;walk_nrm)
  iterate 2 q_skip
  iterate 2 (refine gA ?_;walk_nrm)
  iterate 4 q_skip
  (refine gA ?_;walk_nrm);q_c cY;q_cond false;q_c fx;iterate 2 q_c dk
  q_reg;iterate 3 (refine gA ?_;walk_nrm)
  iterate 2 q_skip
  (refine gA ?_;walk_nrm);q_c cY;q_cond true;q_c stepG_ret';q_enable;q_leave0 H.f_add;exact mS dt q
 ·replace c:WgAt L.tWg Wg e (((v:Nat)+1)*KK+1) 0:=cK;have z:((v:Nat):Int)*KK+((1:Nat):Int)=(v:Int)*KK+1:=dt;rw[z];have s:0<v:=cL;have p:IntKind.u64.wrap (((v:Nat)+1)*KK+1+18446744069414584320)=(v:Int)*KK+1:=by rw[IntKind.wrap_u64];simp only[KK];omega
  obtain⟨S,d⟩:∃S:Int,S=(v:Int)*KK+1:=⟨_,rfl⟩;rw[<-d]at p⊢;have D:S/4294967296=(v:Int):=by rw[d];simp only[KK];omega
  have E:bits .and .u64 S 2147483648=0:=by rw[d];have:=st_flag v 1 cL cL;simpa[KK]using this
  have F:bits .and .u64 S 2147483647=1:=by rw[d];have:=st_waiters v 1 cL cL;simpa[KK]using this
  have I:IntKind.i32.wrap (v:Int)=(v:Int):=by rw[IntKind.wrap_i32];omega
  have J:decide ((v:Int)<0)=false:=cK;have K:decide (0<(v:Int))=true:=cK;have M:((v:Int)==0)=false:=pY;have N:decide ((v:Int)=0)=false:=cK;clear d z;refine⟨_,(stepG_add_atomic rfl rfl (by k_ne) rfl H.f_addU64 (x_addU64_n L) (x_addU64_b L) (x_addU64_x L) .u64 (x_addU64_f L) rfl rfl c.cellSt (c.thaw 0)).trans (by rw[p];rfl),cK,λ_=>⟨qt+90,?_⟩⟩;clear c;walk_nrm;(refine gA ?_;walk_nrm);q_c cY;q_c stepG_ret';q_leave1 H.f_uAdd;(refine gA ?_;walk_nrm);q_c cY;iterate 2 q_c dk
  q_reg;iterate 4 (refine gA ?_;walk_nrm)
  iterate 2 q_skip
  (refine gA ?_;walk_nrm);q_c cY;q_cond false;q_c fx;q_c dk;q_reg;iterate 4 (refine gA ?_;walk_nrm)
  q_c cY;q_c dk;q_reg;iterate 4 (refine gA ?_;walk_nrm)
  q_c cY;iterate 2 q_c dk
  q_reg;iterate 5 (refine gA ?_;walk_nrm)
  iterate 4 q_skip
  (refine gA ?_;walk_nrm);q_c cY;q_cond false;q_c fx;iterate 2 q_c dk
  q_reg;iterate 2 (refine gA ?_;walk_nrm)
  q_c cY;q_cond false;q_c fx;iterate 2 q_c dk
  q_reg;iterate 7 (refine gA ?_;walk_nrm)
  iterate 4 q_skip
  (refine gA ?_;walk_nrm);q_c cY;q_cond false;q_c fx;iterate 2 q_c dk
  q_reg;iterate 3 (refine gA ?_;walk_nrm)
  iterate 2 q_skip
  (refine gA ?_;walk_nrm);q_c cY;q_cond true;q_c stepG_ret';q_enable;q_leave0 H.f_add;exact mS cL q
end
end Go.dz.Wg
namespace Go.dz.Cr
open Go.Conc Go.dz Go.dz.Kn Go.dz.Wg
open Go.ConcR (KK wgBlock WgAt stA smA mk DC0)
section
variable{P:cU}{main:Bool}{own rd:Nat->Prop}{ty:cQ}{Wg:Nat}{S:iT}{g g':cP}{w:cI} {b:Frame}{a:Act}{k:List Item}{cs:List Frame}{ops:Array Oper}{i:Nat}{rest:List Nat}{o:Oper}{v:cJ}
def mw(f:g.status=.running)(h:∀b,eP own rd (Lv ty Wg) w b->∃g' c d a,stepG P main g b=.go g' c d/\N5 own rd b c d a/\Wy P ty Wg main rd S a g' c):Wy P ty Wg main rd S own g w:=by refine Way.mk f λb i=>?_;have⟨g',c,d,a,e,j,k,l⟩:=h b i;exact⟨g',c,d,a,k,e,j,l⟩
def OR(b:g.status=.running)(h:∀w,stepG P main g w=.go g' w #[])(c:∀a,eP own rd (Lv ty Wg) w a->Wy P ty Wg main rd S own g' a):Wy P ty Wg main rd S own g w:=
 mw b λa d=>⟨g',a,#[],own,h a,z7 λe f=>by simp at f,c a d⟩
def OS(d:ops[i]? =some o)(e:Region.wanted o (yielded ops a.tmps)=true)(f:b.kind≠ .early)(g:∀w,(execOp a.eval o).run P w=.ok (.value v) w)(h:∀w,(execOp a.eval o).events P w #[]=#[]) (j:∀c,eP own rd (Lv ty Wg) w c->Wy P ty Wg main rd S own (G (b.at (a.put o.dst v) (.inRegion ops rest::k)) cs) c):Wy P ty Wg main rd S own (G (b.at a (.inRegion ops (i::rest)::k)) cs) w:=
 OR rfl (λw=>by rw[stepG_value d e f (g w)];unfold listed;rw[h w,seen_none]) j
def R9(d:ops[i]? =some o)(f:Region.wanted o (yielded ops a.tmps)=true)(g:b.kind≠ .early) (h:∀c,eP own rd (Lv ty Wg) w c->(execOp a.eval o).run P c=.ok (.value v) c/\(∀e∈listed P b.fn a o c,EvW own rd c.heap.size c.heap.size e)/\Wy P ty Wg main rd S own (G (b.at (a.put o.dst v) (.inRegion ops rest::k)) cs) c):Wy P ty Wg main rd S own (G (b.at a (.inRegion ops (i::rest)::k)) cs) w:=
 mw rfl λc j=>by have⟨l,m,n⟩:=h c j;exact⟨_,c,_,own,stepG_value d f g l,z7 m,n⟩
def Va{ob:Obj}(g:ops[i]? =some o)(j:Region.wanted o (yielded ops a.tmps)=true)(l:b.kind≠ .early) (h:∀c,eP own rd (Lv ty Wg) w c->∃v d,(execOp a.eval o).run P c=.ok (.value v) d/\d.tape=c.tape/\d.os=c.os/\d.output=c.output/\d.heap=c.heap.push ob/\(∀e∈listed P b.fn a o c,EvW own rd c.heap.size d.heap.size e)/\
  Wy P ty Wg main rd S (λx=>own x\/x=c.heap.size) (G (b.at (a.put o.dst v) (.inRegion ops rest::k)) cs) d):Wy P ty Wg main rd S own (G (b.at a (.inRegion ops (i::rest)::k)) cs) w:=
 mw rfl λc m=>by have⟨v,d,n,p,q,r,f,s,t⟩:=h c m;refine⟨_,d,_,_,stepG_value g j l n,⟨p,q,r,by rw[f];simp,λx=>?_,λx u _=>?_,s⟩,t⟩;rw[f,Array.size_push];constructor;rintro(h|h);exact .inl h;exact .inr cL;rintro(h|h);exact .inl h;exact .inr cL;rw[f,sg];split;rename_i e;omega;rfl
def FO{ad:Addr}{x:cJ}(m:ops[i]? =some o)(n:Region.wanted o (yielded ops a.tmps)=true)(p:b.kind≠ .early)(g:own ad.block) (h:∀d,eP own rd (Lv ty Wg) w d->∃f,(execOp a.eval o).run P d=.ok .skip f/\f.tape=d.tape/\f.os=d.os/\f.output=d.output/\f.heap.size=d.heap.size/\(∀c,c≠ad.block->f.heap[c]? =d.heap[c]?)/\(∀e∈listed P b.fn a o d,EvW own rd d.heap.size d.heap.size e)/\Wy P ty Wg main rd S own (G (b.at (a.put o.dst undef) (.inRegion ops rest::k)) cs) f):Wy P ty Wg main rd S own (G (b.at a (.inRegion ops (i::rest)::k)) cs) w:=
 mw rfl λd q=>by have⟨f,r,s,t,u,j,v,z,A⟩:=h d q;refine⟨_,f,_,_,stepG_none m n p r,⟨s,t,u,by rw[j];exact dg _,λy=>?_,λy B l=>v y (λe=>l (e▸g)),by rw[j];exact z⟩,A⟩;rw[j];exact⟨.inl,λh=>h.elim id λh=>cL⟩
def _root_.Go.dz.eP.cell{L:dB}{d:cI}(f:eP own rd L w d)(g:own h.block\/rd h.block)(a:w.cell? h=some v):d.cell? h=some v:=by
 have b:h.block<w.lH:=by refine zM λc=>?_;have:w.heap[h.block]? =none:=uI c;simp[World.cell?,this]at a
 have e:=f.heap h.block b g;unfold World.cell? at a⊢;rw[e];exact a
def _root_.Go.dz.eP.obj{L:dB}{a:cI}(h:eP own rd L w a){c:Nat}(d:own c\/rd c)(b:w.heap[c]? =some O):a.heap[c]? =some O:=by rw[h.heap c (lt_of_heap b) d];exact b
end
end Go.dz.Cr
namespace Go.Proofs.W
open Go.Conc Go.dz Go.dz.Cr Go.dz.Wg Go.RowKit Go.Conc.Lib Go.ConcR.Gen
open Go.ConcR (KK wgBlock WgAt stA smA mk DC0)
open Go.Proofs (Tryz.prog)
noncomputable abbrev PR:cU:=Tryz.prog
noncomputable def FP:Frame:=baseD 188
noncomputable def DR:Code:=Tryz.f188.body.getD .skip
noncomputable def FQ(a b c d:Nat):eF:=#[.pointer (some ⟨d,0,none⟩),.pointer (some ⟨a,0,none⟩),.pointer (some ⟨b,0,none⟩),.pointer (some ⟨c,0,none⟩)]
noncomputable def call188(a b c d:Nat):Deferred:={target:=.fn (.func 188) (FQ a b c d),args:=#[]}
noncomputable def bot:Frame:={(default:Frame)with fn:=PR.funcs.size,defers:=[],mode:=.panicking [goexitEntry]}
def Md(a b c d:Nat)(w:cI):stepG PR false (born PR (call188 a b c d)) w=.go (G (FP.at ⟨FQ a b c d++Array.replicate 14 undef,[]⟩ [.code DR]) [bot]) w #[]:=by simp[born,call188,FQ,stepG,unwind,callDeferred,invoke,callFunc,Tryz.func188,Tryz.f188,seen,GStep.after,G,Frame.enter,Frame.at,FP,baseD,bot,DR]
end Go.Proofs.W
namespace Go.dz.Cr
open Go.Conc Go.dz Go.dz.Kn Go.dz.Wg
open Go.ConcR (KK wgBlock WgAt stA smA mk DC0)
section
variable{P:cU}{main:Bool}{own rd:Nat->Prop}{ty:cQ}{Wg:Nat}{S:iT}{K:cI->Prop}{g g':cP} {b:Frame}{a:Act}{k:List Item}{cs:List Frame}{ops:Array Oper}{i:Nat}{rest:List Nat}{o:Oper}{v:cJ}
def WK(P:cU)(ty:cQ)(Wg:Nat)(main:Bool)(rd:dn)(S:iT)(own:dn)(K:dB)(g:cP):Prop:=∀w,K w->Wy P ty Wg main rd S own g w
def pu(own rd:dn)(L:dB)(K:dB):Prop:=∀w a,eP own rd L w a->K w->K a
theorem WK.step(b:pu own rd (Lv ty Wg) K)(f:g.status=.running)(h:∀w,K w->∃g' c d a,stepG P main g w=.go g' c d/\N5 own rd w c d a/\Wy P ty Wg main rd S a g' c):WK P ty Wg main rd S own K g:=
 λw i=>mw f λe j=>h e (b w e j i)
def WK.ctl(a:pu own rd (Lv ty Wg) K)(c:g.status=.running)(h:∀w,stepG P main g w=.go g' w #[])(d:WK P ty Wg main rd S own K g'):WK P ty Wg main rd S own K g:=
 λw e=>OR c h λb f=>d b (a w b f e)
def WK.val(c:pu own rd (Lv ty Wg) K)(e:ops[i]? =some o)(f:Region.wanted o (yielded ops a.tmps)=true)(g:b.kind≠ .early)(h:∀w,(execOp a.eval o).run P w=.ok (.value v) w)(j:∀w,(execOp a.eval o).events P w #[]=#[]) (l:WK P ty Wg main rd S own K (G (b.at (a.put o.dst v) (.inRegion ops rest::k)) cs)):WK P ty Wg main rd S own K (G (b.at a (.inRegion ops (i::rest)::k)) cs):=
 λw m=>OS e f g h j λd n=>l d (c w d n m)
def WK.load(c:pu own rd (Lv ty Wg) K)(h:ops[i]? =some o)(j:Region.wanted o (yielded ops a.tmps)=true)(l:b.kind≠ .early) (m:∀w,K w->(execOp a.eval o).run P w=.ok (.value v) w)(n:∀w,K w->∀e∈(execOp a.eval o).events P w #[],EvW own rd w.heap.size w.heap.size e) (p:WK P ty Wg main rd S own K (G (b.at (a.put o.dst v) (.inRegion ops rest::k)) cs)):WK P ty Wg main rd S own K (G (b.at a (.inRegion ops (i::rest)::k)) cs):=
 λw f=>R9 h j l λd g=>⟨m d (c w d g f),λe q=>n d (c w d g f) e (mem_listed q),p d (c w d g f)⟩
def WK.new{ob:Obj}{f:Nat->cJ}(j:pu own rd (Lv ty Wg) K)(l:ops[i]? =some o)(m:Region.wanted o (yielded ops a.tmps)=true)(n:b.kind≠ .early) (p:∀w,K w->(execOp a.eval o).run P w=.ok (.value (f w.heap.size)) {w with heap:=w.heap.push ob})
 (q:∀w,K w->∀e∈(execOp a.eval o).events P w #[],EvW own rd w.heap.size (w.heap.size+1) e) (r:∀c,WK P ty Wg main rd S (λx=>own x\/x=c) (λw=>∃h,K h/\c=h.heap.size/\eP (λx=>own x\/x=c) rd (Lv ty Wg) {h with heap:=h.heap.push ob} w) (G (b.at (a.put o.dst (f c)) (.inRegion ops rest::k)) cs)):
 WK P ty Wg main rd S own K (G (b.at a (.inRegion ops (i::rest)::k)) cs):=
 λw s=>Va (ob:=ob) l m n λg t=>by have d:=j w g t s;exact⟨_,_,p g d,rfl,rfl,rfl,rfl,λe u=>by have:=q g d e (mem_listed u);simpa using this,r g.lH _ ⟨g,d,rfl,.refl _ _ _ _⟩⟩
theorem fS(w:cI)(a:Addr)(u:cJ)(k:Nat)(h:k≠a.block):(w.setCell a u).heap[k]? =w.heap[k]? :=by simp only[World.setCell,nO];rw[cR cL]
def WK.store{ad:Addr}{x:cJ}(h:pu own rd (Lv ty Wg) K)(l:ops[i]? =some o)(m:Region.wanted o (yielded ops a.tmps)=true)(n:b.kind≠ .early)(f:own ad.block) (p:∀w,K w->(execOp a.eval o).run P w=.ok .skip (w.setCell ad x))(q:∀w,K w->∀e∈(execOp a.eval o).events P w #[],EvW own rd w.heap.size w.heap.size e)
 (r:WK P ty Wg main rd S own (λw=>∃j,K j/\eP own rd (Lv ty Wg) (j.setCell ad x) w) (G (b.at (a.put o.dst undef) (.inRegion ops rest::k)) cs)):
 WK P ty Wg main rd S own K (G (b.at a (.inRegion ops (i::rest)::k)) cs):=
 λw s=>FO l m n f (x:=x) λg t=>by have d:=h w g t s;exact⟨_,p g d,by simp[World.setCell],by simp[World.setCell],by simp[World.setCell],by simp[World.setCell],λc u=>fS g ad x c u,λe v=>q g d e (mem_listed v),r _ ⟨g,d,.refl _ _ _ _⟩⟩
def WK.write{W:cI->dB}{bl:Nat}(l:pu own rd (Lv ty Wg) K)(p:ops[i]? =some o)(q:Region.wanted o (yielded ops a.tmps)=true)(r:b.kind≠ .early)(h:own bl) (s:∀w,K w->∃d,(execOp a.eval o).run P w=.ok .skip d/\d.tape=w.tape/\d.os=w.os/\d.output=w.output/\d.heap.size=w.heap.size/\(∀c,c≠bl->d.heap[c]? =w.heap[c]?)/\W w d) (t:∀w,K w->∀e∈(execOp a.eval o).events P w #[],EvW own rd w.heap.size w.heap.size e)
 (u:WK P ty Wg main rd S own (λw=>∃j f,K j/\W j f/\f.heap.size=j.heap.size/\(∀c,c≠bl->f.heap[c]? =j.heap[c]?)/\eP own rd (Lv ty Wg) f w) (G (b.at (a.put o.dst undef) (.inRegion ops rest::k)) cs)):
 WK P ty Wg main rd S own K (G (b.at a (.inRegion ops (i::rest)::k)) cs):=
 λw v=>FO p q r (ad:=(dq bl 0)) (x:=gT) h λf y=>by have g:=l w f y v;have⟨d,z,A,B,C,m,n,D⟩:=s f g;exact⟨d,z,A,B,C,m,n,λe E=>t f g e (mem_listed E),u _ ⟨f,d,g,D,m,n,.refl _ _ _ _⟩⟩
def WK.mono{K':dB}(h:WK P ty Wg main rd S own K' g)(a:∀w,K w->K' w):WK P ty Wg main rd S own K g:=λw b=>h w (a w b)
def WK.stop(a:pu own rd (Lv ty Wg) K)(h:∀w,K w->S own g w):WK P ty Wg main rd S own K g:=λw c=>pH λb d=>h b (a w b d c)
def Sa{L:dB}{c:Nat}(a:own c\/rd c):pu own rd L λw=>w.heap[c]? =some O:=λ_ _ b h=>b.obj a h
def Ks{L:dB}{a:dB}(h:pu own rd L K)(e:pu own rd L a):pu own rd L λw=>K w/\a w:=λw b c d=>⟨h w b c d.1,e w b c d.2⟩
end
section
variable{P:cU}{main:Bool}{own rd:Nat->Prop}{ty:cQ}{Wg:Nat}{S:iT}{K:cI->Prop}{g g':cP} {b:Frame}{a:Act}{k:List Item}{cs:List Frame}{ops:Array Oper}{i:Nat}{rest:List Nat}{o:Oper}{v:cJ}
theorem WK.enter{f:dY}{fn:Func}{c:Code}{args:Array dW}{e:Array cQ}(g:pu own rd (Lv ty Wg) K) (m:ops[i]? =some o)(n:Region.wanted o (yielded ops a.tmps)=true)(p:b.kind≠ .early)(j:o.op=.call {callee:=.value (.func f),args:=args,argTypes:=e}) (q:P.funcs[f]? =some fn)(d:(fn.name== "runtime.NumGoroutine")=false)(r:fn.body=some c) (h:WK P ty Wg main rd S own K (G (Frame.enter P f (args.map a.eval) .normal) (b.at a (.inRegion ops (i::rest)::k)::cs))):WK P ty Wg main rd S own K (G (b.at a (.inRegion ops (i::rest)::k)) cs):=by refine WK.ctl g rfl (λw=>?_) h;have l:fn.body.isNone=false:=cK;rw[stepG_enter m n p (run_call_body j q d l)];grind [events_call_body,seen_none,listed]
def Out(U:cJ->Prop)(R:nB)(rd:dn)(b:dO)(a:Frame)(cs:List Frame):iT:=λown g w=>
 ∃c x d v,g=G (a.finish d) cs/\R x v/\VR c x d/\dO.Le b c/\xj c v w own rd/\U d
def DT{f:dY}{fn:Func}{U:cJ->Prop}(hU:∀(ts:eF) (Q:cU) (w:cI) (x:cJ) (u:cI),(results fn ts).run Q w=.ok x u->U x){L:nB}{d:Frame}{w:cI}(hR:∀x w T,L x w->L x (du w T))(hG:Good P R)(O:P.funcs[f]? =some fn) (h:FG P (Left P f L) rd (d::cs) R own g w):Wy (P.jg R.fs) ty Wg main rd (Out U L rd R d cs) own g w:=by
 have⟨c,ρ,n,k,i,t,hl,M⟩:=h;have z:=n;have⟨h1,E,x0,h3,h4,h5,h6,aa,h7,h8⟩:=z;rw[E,O]at h7;obtain rfl:=dQ h7;have⟨l,ab,ac,ad,ae⟩:=g;have⟨S,af,e1,V,hX⟩:=k.callers;have e3:=k.st.2;have e4:=k.dy.2;have e5:=k.of.2;simp only at V e3 e4 e5 i;have F:c.cl=S++[floor]:=e1;rw[h1]at F;have W:S=[]:=by
  cases S with
  |nil=>rfl
  |cons y ys=>simp at F
 subst W;cases hX;simp only[oD]at V;subst V e3 e4 e5;have m2:l.mode=.returning:=by have o:=i.mode;rw[h4]at o;generalize l.mode=m at o⊢;cases o;rfl
 have d2:l.defers=[]:=by have o:=i.defers;rw[h5]at o;generalize l.defers=m at o⊢;cases o;rfl
 have k2:l.kind=.normal:=i.kind▸h6;have f2:l.fn=f:=i.fn▸E;have X:Good P ρ:=hG.mono t;have g2:(P.jg R.fs).funcs[f]? =some fn:=by have⟨ag,c2,j1,_,_,j4⟩:=X.two.fn f (E▸i.fnS.1);rw[j4 (E▸i.fnS.2)]at O;rw[t.f];grind
 refine mw rfl λs hr=>?_;have p:=hl.rely hr;have hw:WR ρ (du c.v (sL c.v s)) s:=WR.sL p.heap;have⟨_,_,x,k3,k4,k5,k6,ah,k7,k8⟩:=Left.du hR c (sL c.v s) M n;rw[E,O]at k7;obtain rfl:=dQ k7;have ai:(results fn c.fr.tmps).run P (du c.v (sL c.v s))=.ok x (du c.v (sL c.v s)):=k8;have H:∀{r:Result cJ} {I:Array Event},(results fn c.fr.tmps).runT P (du c.v (sL c.v s)) #[]=(r,I)->r=.ok x (du c.v (sL c.v s)):=λ{r I} e=>by rw[kH]at e;grind
 obtain⟨hh,v1,I,e,_⟩|⟨a,b,v1,N,C,I,J,e,D,K,m⟩|⟨a,b,v1,N,C,I,J,e,D,K,m⟩:=eg.run hw (SR.results (fn:=fn) i.tmps);cases H e;have:=H e;injection this with ea ev;subst ea ev;rw[<-t.f]at D;let A:dn:=λb=>own b\/(s.lH<=b/\b<N.lH);have Y:xj C (du c.v (sL c.v s)) N A rd:=by refine⟨m.rel.hr,λb c' j=>?_⟩;obtain h|⟨_,h⟩:=m.fresh b c' j;obtain h|⟨h,q⟩:=p.zone b c' h;grind;grind [yS,du,sL];exact .inl (.inr ⟨h,m.rel.VV j⟩)
 refine⟨G (d.finish b) cs,N,seen (P.jg R.fs) f J,A,?_,⟨m.tape,m.os,m.output,m.usize,cK,λb hb aj=>m.same b hb λb0 j=>?_,λe he=>?_⟩,pH λw2 Z=>⟨C,a,b,_,rfl,k3,K,t.trans m.le,Y.rely Z,hU _ _ _ _ _ (by rw[kH]at D;exact(Prod.mk.inj D).1)⟩⟩;rw[kH]at D;have⟨r1,r2⟩:=Prod.mk.inj D;simp[stepG,unwind,doReturn,m2,d2,k2,f2,g2,r1,r2,G,GStep.after];obtain h|⟨_,h⟩:=p.zone b0 b j;grind;exact h;obtain⟨a,B,b,rfl,j,_,M⟩|⟨r,B,b,rfl,j,M⟩|⟨a,B,rfl,hn,o⟩|⟨r,B,rfl,hn,o⟩|rfl:=m.evs e (lx he);refine .inl ⟨a,B,rfl,?_⟩;obtain h|⟨h,q⟩:=p.zone b a.block j;grind;cases B with
 |true=>exact absurd (show yS (du c.v (sL c.v s)) b from q) (M rfl)
 |false=>grind
 refine .inr (.inl ⟨r,B,rfl,?_⟩);obtain h|⟨h,q⟩:=p.zone b r j;grind;grind [absurd,yS,du,sL];exact .inl ⟨a,B,rfl,.inr (.inr ⟨hn,o⟩)⟩;exact .inr (.inl ⟨r,B,rfl,.inr ⟨hn,o⟩⟩);exact .inr (.inr rfl);grind
def tg{w v:cI}{f:dY}{b a:eF}(d:Good P R)(e:∀f,R.hole f=false)(g:R.S f=true)(c:fW R b a)(i:xj R v w own rd):Inv P ⟨Frame.enter P f b .normal,[floor],v⟩:=by
 have h:Inv P ⟨Frame.enter P f b .normal,[floor],du v (sL v w)⟩:=
  ⟨R,w,G (Frame.enter (P.jg R.fs) f a .normal) [],d,e,WR.sL i.heap,tZ d g c .normal (.inl rfl),⟨[],[],rfl,rfl,.nil⟩,⟨rfl,rfl⟩,⟨rfl,rfl⟩,⟨rfl,rfl⟩⟩
 exact h.du v.tape
def Wy.keep{B:dn}{w:cI}(m:∀b,B b->rd b/\¬own b/\b<w.heap.size)(h:Wy P ty Wg main rd S own g w):Wy P ty Wg main rd (λo g a=>S o g a/\∀b,B b->a.heap[b]? =w.heap[b]?) own g w:=by
 obtain⟨C,h⟩:=h
 have j:∀(k:Nat->Option Obj),(∀b,B b->rd b/\¬own b/\b<w.heap.size/\w.heap[b]? =k b)->Wy P ty Wg main rd (λo g a=>S o g a/\∀b,B b->a.heap[b]? =k b) own g w:=by
  intro k m;rename_i l;clear l;induction h with
  |here h=>exact pH λf d=>⟨h f d,λb n=>(d.heap b cK cK).trans cK⟩
  |step t u D v=>
   refine mw t λf d=>?_;obtain⟨g',a,p,c,e,i⟩:=u f d;refine⟨g',a,p,c,e,i,v f g' a p c d e i λb n=>?_⟩;obtain⟨q,y,r,z⟩:=m b n;have s:b<f.heap.size:=ep r d.size;refine⟨q,λA=>?_,ep s i.size,(i.same b s y).trans ((d.heap b r (.inr q)).trans z)⟩;obtain x|⟨x,_⟩:=(i.owns b).1 A;grind;grind
 exact j (λb=>w.heap[b]?) cK
def Wy.Wu{w:cI}(p:¬own Wg)(k:Lv ty Wg w)(h:Wy P ty Wg main rd S own g w):Wy P ty Wg main rd (λo g d=>S o g d/\Lv ty Wg d) own g w:=by
 obtain⟨v,h⟩:=h;induction h with
 |here h=>exact pH λb c=>⟨h b c,c.live k⟩
 |step q r y s=>
  refine mw q λb c=>?_;obtain⟨g',d,l,a,e,i⟩:=r b c;obtain⟨m,n,t⟩:=c.live k;have f:b.heap[Wg]? =some (wgBlock ty m n):=t;have j:Wg<b.heap.size:=lt_of_heap f;refine⟨g',d,l,a,e,i,s b g' d l a c e i (λu=>?_) ⟨m,n,(i.same Wg j p).trans f⟩⟩;obtain x|⟨x,_⟩:=(i.owns Wg).1 u;grind;grind
def Kt{f:dY}{e:Func}{U:cJ->Prop}(k:∀(l:eF) (Q:cU) (w:cI) (x:cJ) (u:cI),(results e l).run Q w=.ok x u->U x){R:nB}{ρ0:dO}{caller:Frame}{w v:cI}{d a:eF}(c:Good P ρ0)(m:∀f,ρ0.hole f=false)(i:ρ0.S f=true)(n:P.funcs[f]? =some e) (p:∀x w T,R x w->R x (du w T))(b:fW ρ0 d a)(q:Reach P (Left P f R) ⟨Frame.enter P f d .normal,[floor],v⟩)(j:xj ρ0 v w own rd):Wy (P.jg ρ0.fs) ty Wg main rd (Out U R rd ρ0 caller cs) own (G (Frame.enter (P.jg ρ0.fs) f a .normal) (caller::cs)) w:=by
 have r:sq P ρ0 (caller::cs) (G (Frame.enter P f d .normal) [floor]) (G (Frame.enter (P.jg ρ0.fs) f a .normal) (caller::cs)):=
  ⟨tZ c i b .normal (.inl rfl),⟨[],[],rfl,rfl,.nil⟩,⟨rfl,rfl⟩,⟨rfl,rfl⟩,⟨rfl,rfl⟩⟩
 have s:=U1 (main:=main) (L:=Lv ty Wg) (cs:=caller::cs) (ρ0:=ρ0) Left.callers _ q ρ0 own _ w (tg c m i b j) c cK (.refl _) r j;exact Wy.bind s λo g w h=>DT k p c n h
end
end Go.dz.Cr
namespace Go.Proofs.W
open Go.Conc Go.dz Go.dz.Cr Go.dz.Wg Go.RowKit Go.Conc.Lib Go.ConcR.Gen
def OT(a:Addr)(w:cI):(Instr.build 245 #[(0,.pointer (some a))]).run PR w=.ok (.agg #[.pointer (some a),.slice none 0 0,.int .u8 0,.int .u8 0,.int .u8 0,.int .u8 0,.int .u8 0,.int .u8 0,.slice none 0 0,.int .i64 0,.int .i64 0,.bool false]) w:=eE
def Me(a:Addr)(w:cI):(Instr.build 245 #[(0,.pointer (some a))]).events PR w #[]=#[]:=eE
def OU(i m n:Int)(b:Bool)(a:dV)(l c:Nat)(w:cI):(Instr.build 247 #[(0,.int .i64 i),(1,.agg #[.slice a l c,.int .i64 m,.int .i64 n,.bool b])]).run PR w=.ok (.agg #[.int .i64 i,.slice a l c,.int .i64 m,.int .i64 n,.bool b]) w:=eE
def Mf(i m n:Int)(b:Bool)(a:dV)(l c:Nat)(w:cI):(Instr.build 247 #[(0,.int .i64 i),(1,.agg #[.slice a l c,.int .i64 m,.int .i64 n,.bool b])]).events PR w #[]=#[]:=eE
end Go.Proofs.W
namespace Go.Proofs.W
open Go.Conc Go.dz Go.dz.Cr Go.dz.Wg Go.RowKit Go.Conc.Lib Go.ConcR.Gen
open Go.ConcR (KK wgBlock WgAt stA smA mk DC0)
def yV(c:dn)(Q:dB):Prop:=∀(w a:cI),w.heap.size<=a.heap.size->(∀b,b<w.heap.size->c b->a.heap[b]? =w.heap[b]?)->Q w->Q a
def yV.rely{own rd:dn}{L:dB}{Q:dB}(h:yV rd Q)(c:eP own rd L w t)(d:Q w):Q t:=h w t c.size (λb e a=>c.heap b e (.inr a)) d
structure KW(pc ic oc Wg Ch:Nat)(pl:Addr)(i:Int)(Q:cI->Prop)(w:cI):Prop where
 p:w.cell? ⟨pc,0,none⟩=some (.pointer (some pl))
 i:w.cell? ⟨ic,0,none⟩=some (.int .i64 i)
 o:w.cell? ⟨oc,0,none⟩=some (.chan (some Ch))
 live:Lv 241 Wg w
 q:Q w
theorem KW.rely{Q:dB}{own rd:dn}(c:rd m)(d:rd k)(e:rd i)(f:yV rd Q):pu own rd (Lv 241 j) (KW m k i j o h I Q):=
 λ_ _ a b=>⟨a.cell (.inr c) b.p,a.cell (.inr d) b.i,a.cell (.inr e) b.o,a.live b.live,f.rely a b.q⟩
def kM(a:Addr):eF:=#[.pointer (some a),.slice none 0 0,.int .u8 0,.int .u8 0,.int .u8 0,.int .u8 0,.int .u8 0,.int .u8 0,.slice none 0 0,.int .i64 0,.int .i64 0,.bool false]
noncomputable def FR:Array Oper:=(λ(x:Array Oper) (_:gW Tryz.f188 2=.region 2 x false)=>x) _ (by conv=>lhs;whnf)
noncomputable def fG:Array Oper:=(λ(x:Array Oper) (_:gW Tryz.f188 3=.region 3 x true)=>x) _ (by conv=>lhs;whnf)
noncomputable def kg(k l m i T:Nat)(j:Addr)(n o a b c d e f g h:cJ):Act:=
 {tmps:=#[.pointer (some ⟨i,0,none⟩),.pointer (some ⟨k,0,none⟩),.pointer (some ⟨l,0,none⟩),.pointer (some ⟨m,0,none⟩),.pointer (some ⟨T,0,none⟩),.pointer (some j),.agg (kM j),.pointer (some ⟨T,0,none⟩),n,o,a,b,c,d,e,f,g,h],defers:=[dcall 189 #[.pointer (some ⟨i,0,none⟩)]]}
noncomputable def FT(a b c d T:Nat)(e:Addr)(i:Int):Frame:=
 FP.at (kg a b c d T e (.pointer (some ⟨T,0,none⟩)) (.int .i64 i) undef undef undef undef undef undef undef undef) [.inRegion FR [2],.code (.region 3 fG true)]
def Ui(e:dn)(f:Nat)(q:Addr)(i:Int)(Q:dB)(r:(dn)->cI->cJ->Prop):Prop:=
 ∀(d:dn) (w:cI) (T:Nat) (c:Frame) (h:List Frame),Q w->(∀b,d b↔b=T)->w.heap[T]? =some (.cells (kM q) 245)->
  Wy PR 241 f false e (λo g j=>g=G (c.finish undef) h/\o T/\∃t u v x y z A B a l k m n s C,j.heap[T]? =some (.cells #[t,u,v,x,y,z,A,B,.slice a l k,.int .i64 m,.int .i64 n,.bool s] 245 C)/\
   ∀p,eP o e (Lv 241 f) j p->r o p (.agg #[.slice a l k,.int .i64 m,.int .i64 n,.bool s])) d (G (Frame.enter PR 190 #[.pointer (some ⟨T,0,none⟩),.int .i64 i] .normal) (c::h)) w
def uh(b:w.cell? h=some x):h.block<w.heap.size:=by refine zM λa=>?_;have:w.heap[h.block]? =none:=uI a;simp[World.cell?,this]at b
def xm(b:w.cell? h=some x):({w with heap:=w.heap.push O}:cI).cell? h=w.cell? h:=by
 have c:h.block<w.heap.size:=by refine zM λa=>?_;have:w.heap[h.block]? =none:=uI a;simp[World.cell?,this]at b
 have:(w.heap.push O)[h.block]? =w.heap[h.block]? :=by rw[sg];split;omega;rfl
 simp only[World.cell?,this]
def uj(h:Lv m k w):Lv m k ({w with heap:=w.heap.push O}:cI):=by have⟨a,b,h⟩:=h;refine⟨a,b,?_⟩;have c:w.heap[k]? =some (wgBlock m a b):=h;show(w.heap.push O)[k]? =_;rw[sg];split;have:=lt_of_heap c;omega;exact c
def Sd{y:iT}(z:A m)(B:A k)(E:A i)(C:yV A S)
 (F:∀T,WK PR 241 j false A y (λx=>dp x\/x=T) (λw=>KW m k i j o h I S w/\w.heap[T]? =some (.cells (kM h) 245)/\m<T/\k<T/\i<T/\j<T)
  (G (Frame.enter PR 190 #[.pointer (some ⟨T,0,none⟩),.int .i64 I] .normal) [FT m k i j T h I,bot])):
 WK PR 241 j false A y dp (KW m k i j o h I S) (born PR (call188 m k i j)):=by
 have c:∀s,pu s A (Lv 241 j) (KW m k i j o h I S):=λ_=>KW.rely z B E C;have t:=λw=>OT h w;have u:=λw=>Me h w;refine WK.ctl (c _) rfl (Md m k i j) ?_;simp only[DR,Tryz.f188,kG,FQ,Array.replicate,List.replicate];refine WK.ctl (c _) rfl (λ_=>dk)<|WK.ctl (c _) rfl (λ_=>ia) ?_;simp only[il,fi,fO,Nat.reduceAdd,dj,List.range,List.range.loop];refine WK.ctl (c _) rfl (λ_=>stepG_defer rfl rfl (by k_ne) rfl) ?_;walk_nrm;refine WK.ctl (c _) rfl (λ_=>cY)<|WK.ctl (c _) rfl (λ_=>dk)<|WK.ctl (c _) rfl (λ_=>ia) ?_;simp only[il,fi,fO,Nat.reduceAdd,dj,List.range,List.range.loop];refine WK.load (v:=.pointer (some h)) (c _) rfl rfl (by k_ne) (λw a=>?_) (λw a e g=>?_) ?_;have l:=(λw a=>a.p) w a;go_simp;have l:=(λw a=>a.p) w a;simp[go_sem,l]at g;exact .inl ⟨_,_,g,.inr (.inl ⟨rfl,z⟩)⟩;walk_nrm;refine WK.val (v:=.agg (kM h)) (c _) rfl rfl (by k_ne) (λw=>?_) (λw=>?_) ?_;go_simp;first|rfl|simp only[t]|skip
 simp[go_sem,u];walk_nrm;refine WK.new (f:=λn=>dR n) (ob:=.cells (kM h) 245) (c _) rfl rfl (by k_ne) (λw a=>?_) (λw a e g=>?_) (λT=>?_);go_simp;first|rfl|skip
 simp[go_sem]at g;refine WK.mono (K':=λw=>KW m k i j o h I S w/\fC w T (kM h) 245/\m<T/\k<T/\i<T/\j<T) ?_ ?_;rotate_left;rintro w ⟨r,a,rfl,D⟩;have H:KW m k i j o h I S {r with heap:=r.heap.push (.cells (kM h) 245)}:=by exact⟨by rw[<-a.p];exact xm a.p,by rw[<-a.i];exact xm a.i,by rw[<-a.o];exact xm a.o,uj a.live,C r _ dt (λb L _=>by show(r.heap.push _)[b]? =_;rw[sg];split;omega;rfl) a.q⟩
 have⟨M,N,J⟩:=a.live;exact⟨(c _) _ _ D H,D.obj (.inl (.inr rfl)) dt,uh a.p,uh a.i,uh a.o,lt_of_heap J⟩;have d:pu (λx=>dp x\/x=T) A (Lv 241 j) (λw=>KW m k i j o h I S w/\fC w T (kM h) 245/\m<T/\k<T/\i<T/\j<T):=Ks (c _) (Ks (Sa (.inl (.inr rfl))) λ_ _ _ K=>K);walk_nrm;refine WK.val (v:=?_) d rfl rfl (by k_ne) (λw=>?_) (λw=>?_) ?_;rotate_left;go_simp;rfl;go_simp;walk_nrm;refine WK.ctl d rfl (λ_=>cY)<|WK.ctl d rfl (λ_=>dk)<|WK.ctl d rfl (λ_=>ia) ?_;simp only[il,fi,fO,Nat.reduceAdd,dj,List.range,List.range.loop];refine WK.val (v:=?_) d rfl rfl (by k_ne) (λw=>?_) (λw=>?_) ?_;rotate_left;go_simp;rfl;go_simp;walk_nrm;refine WK.load (v:=i64 I) d rfl rfl (by k_ne) (λw a=>?_) (λw a e g=>?_) ?_;have l:=(λw a=>a.1.i) w a;go_simp;have l:=(λw a=>a.1.i) w a;simp[go_sem,l]at g;exact .inl ⟨_,_,g,.inr (.inl ⟨rfl,B⟩)⟩;walk_nrm;refine WK.enter d rfl rfl (by k_ne) rfl Tryz.func190 rfl rfl ?_;simp only[List.map_toArray,kY,uL];exact F T
end Go.Proofs.W
