/- Laws that the proof needs, part 1. Conditions: none. -/
import Derived.Conc.JoinTrace
import Derived.Conc.CrowdComm
import Derived.Conc.WrBase2
import Derived.Conc.CrowdBase
import Derived.Conc.WgGenN3
import Derived.Test.YteeagjkaflglpaaGreatRows
import Derived.Conc.DeferLaws
import Derived.Test.YteeagjkaflglpaaGreatX00
set_option maxRecDepth 100000
set_option maxHeartbeats 8000000
set_option linter.all false
variable{m k i j o p s d:Nat}{w t e:cJ}{x y z:cK}{A B C:Nat->Prop}{R:Go.dA.dO}{I J:Int}{h:Go.Addr}{O Q:Go.Obj}{Z:cQ}{S:cJ->Prop}{P:cU}
namespace Go.dA
open Go.Conc (G)
structure eP(own rd:Nat->Prop)(L:cJ->Prop)(w w1:cJ):Prop where
 tape:w1.tape=w.tape
 os:w1.os=w.os
 output:w1.output=w.output
 size:w.heap.size<=w1.heap.size
 heap:∀b,b<w.heap.size->own b\/rd b->w1.heap[b]? =w.heap[b]?
 live:L w->L w1
theorem eP.refl(own rd:dp)(L:dC)(w:cJ):eP own rd L w w:=⟨rfl,rfl,rfl,di _,cL,id⟩
theorem eP.trans{own rd:dp}{L:dC}{a b c:cJ}(h:eP own rd L a b)(k:eP own rd L b c):eP own rd L a c:=
 ⟨k.tape.trans h.tape,k.os.trans h.os,k.output.trans h.output,du h.size k.size,λx d e=>(k.heap x (ew d h.size) e).trans (h.heap x d e),k.live∘h.live⟩
theorem eP.at(own rd:dp){L:dC}(a:∀w d,L w->L (w.at d))(w:cJ)(d:Nat):eP own rd L w (w.at d):=⟨rfl,rfl,rfl,di _,λ_ _ _=>rfl,a w d⟩
def EvW(own rd:dp)(n m:Nat)(e:Event):Prop:=
 (∃a b,e=⟨.cell a,b,false⟩/\(own a.block\/(b=false/\rd a.block)\/(n<=a.block/\a.block<m)))\/
 (∃r b,e=⟨.obj r,b,false⟩/\(own r\/(n<=r/\r<m)))\/e=⟨.mark .noRoom,false,true⟩
structure Ol(own rd:Nat->Prop)(w1 w':cJ)(es:Array Event)(own':Nat->Prop):Prop where
 tape:w'.tape=w1.tape
 os:w'.os=w1.os
 output:w'.output=w1.output
 size:w1.heap.size<=w'.heap.size
 owns:∀b,own' b↔own b\/(w1.heap.size<=b/\b<w'.heap.size)
 same:∀b,b<w1.heap.size->¬own b->w'.heap[b]? =w1.heap[b]?
 evs:∀e∈es,EvW own rd w1.heap.size w'.heap.size e
inductive WT:Type
 |leaf
 |node (f:cJ->WT)
inductive Way (P:cU) (main:Bool) (rd:Nat->Prop) (L:cJ->Prop) (Stop:(Nat->Prop)->cQ->cJ->Prop):WT->(Nat->Prop)->cQ->cJ->Prop
 |here {τ:WT} {own:Nat->Prop} {g:cQ} {w:cJ} (h:∀w1,eP own rd L w w1->Stop own g w1):Way P main rd L Stop τ own g w
 |step {f:cJ->WT} {own:Nat->Prop} {g:cQ} {w:cJ} (hs:g.status=.running)
  (h1:∀w1,eP own rd L w w1->∃g' w' es own',stepG P main g w1=.go g' w' es/\Ol own rd w1 w' es own')
  (h2:∀w1 g' w' es own',eP own rd L w w1->stepG P main g w1=.go g' w' es->Ol own rd w1 w' es own'->Way P main rd L Stop (f w1) own' g' w'):Way P main rd L Stop (.node f) own g w
def Ol.unique{own rd:dp}{c d:cJ}{f a:Array Event}{o e:dp}(h:Ol own rd c d f o)(k:Ol own rd c d a e):o=e:=
 funext λb=>propext ((h.owns b).trans (k.owns b).symm)
section
variable{P:cU}{main:Bool}{rd:Nat->Prop}{L:cJ->Prop}{Stop:(Nat->Prop)->cQ->cJ->Prop}{own:Nat->Prop}{g:cQ}{w:cJ}
theorem Way.rely{e:WT}{f:cJ}(h:Way P main rd L Stop e own g w)(c:eP own rd L w f):Way P main rd L Stop e own g f:=by
 cases h with
 |here h=>exact .here λa d=>h a (c.trans d)
 |step i j d=>exact .step i (λa k=>j a (c.trans k)) λa l m n b k=>d a l m n b (c.trans k)
theorem Way.mk(p:g.status=.running)(h:∀b,eP own rd L w b->∃f d i a j,stepG P main g b=.go f d i/\Ol own rd b d i a/\Way P main rd L Stop j a f d):∃j,Way P main rd L Stop j own g w:=by refine⟨.node λb=>open Classical in if c:eP own rd L w b then Classical.choose (jG (jG (jG (jG (h b c)))))else .leaf,.step p (λb c=>?_) λb f d i a c e k=>?_⟩;have⟨f,d,i,a,j,e,q,_⟩:=h b c;exact⟨f,d,i,a,e,q⟩;have l:=jG (jG (jG (jG (jG (h b c)))));rw[dif_pos c];generalize Classical.choose (jG (jG (jG (jG (h b c)))))=j at l;revert l;generalize Classical.choose (jG (jG (jG (h b c))))=n;generalize Classical.choose (jG (jG (h b c)))=r;generalize Classical.choose (jG (h b c))=x;generalize Classical.choose (h b c)=y;rintro⟨o,m,s⟩;rw[e]at o;injection o with t u v;subst t u v;rw[k.unique m];exact s
theorem Way.bind{a:(dp)->cQ->dC}{b:WT}(h:Way P main rd L Stop b own g w)(m:∀own g w,Stop own g w->∃b,Way P main rd L a b own g w):∃b,Way P main rd L a b own g w:=by
 induction h with
 | @here b own g w h=>exact m own g w (h w (.refl _ _ _ _))
 |step n o r p=>
  refine Way.mk n λd f=>?_;have⟨i,j,k,c,e,l⟩:=o d f;have⟨b,q⟩:=p d i j k c f e l;exact⟨i,j,k,c,b,e,l,q⟩
end
structure xg(ρ:dO)(v w:cJ)(own rd:Nat->Prop):Prop where
 heap:HR ρ v w
 zone:∀b c',ρ.r b c'->own c'\/(rd c'/\yW v b)
def xg.rely{v w d:cJ}{own rd:dp}{L:dC}(h:xg R v w own rd)(e:eP own rd L w d):xg R v d own rd:=by refine⟨⟨λb c a=>?_,h.heap.low⟩,h.zone⟩;have⟨o,f,g,i,j⟩:=h.heap.obj b c a;refine⟨o,f,g,?_,j⟩;rw[e.heap c (lt_of_heap i) ((h.zone b c a).imp id (·.1))];grind
def FR(P:cU)(Stop:Frame->List Frame->dC)(rd:dp)(b:List Frame)(d:dO)(own:dp)(g:cQ)(w:cJ):Prop:=
 ∃c a,Stop c.fr c.cl c.v/\si P a b (G c.fr c.cl) g/\eN P a c.fr g.frame/\dO.Le d a/\xg a c.v w own rd/\Inv P c
def Ve{P:cU}{main:Bool}{Stop:Frame->List Frame->dC}(M:∀fr N v,Stop fr N v->N≠[]){rd:dp}{L:dC}{cs:List Frame}{ρ0:dO}:∀c,Reach P Stop c->∀(p:dO) (own:dp) (g:cQ) (w:cJ),Inv P c->Good P p->(∀f,p.S f=true->p.hole f=false)->dO.Le ρ0 p->si P p cs (G c.fr c.cl) g->xg p c.v w own rd->∃O,Way (P.jj ρ0.fs) main rd L (FR P Stop rd cs ρ0) O own g w:=by
 intro c hc;induction hc with
 | @here c h=>
  intro p own g w C Q hh y D R;have k:eN P p c.fr g.frame:=by
   have i:=D.fr;generalize k:(G c.fr c.cl).frame=fr at i;generalize F:g.frame=T at i;cases i with
   |fr U=>subst k;exact U
   |hole hS hx _=>grind
  exact⟨.leaf,.here λx V=>⟨c,p,h,D,k,y,R.rely V,C⟩⟩
 | @next c W h2 ih=>
  intro p own g w C Q hh y D R;have k:eN P p c.fr g.frame:=by
   have i:=D.fr;generalize k:(G c.fr c.cl).frame=fr at i;generalize F:g.frame=T at i;cases i with
   |fr U=>subst k;exact U
   |hole hS hx _=>grind
  refine Way.mk D.st.2 λx V=>?_;have q:=R.rely V;have hw:WR p (dw c.v (sG c.v x)) x:=WR.sG q.heap;have X:=Cx c.v x;have hs:=IN Q hw D k true main;have Y:=C.dw (sG c.v x);have⟨z,H,e⟩:=W _ X;have Z:=h2 _ z H X e;have I:Inv P z:=by
   obtain⟨o,E,es,B⟩|⟨g1,v1,es,B,l⟩|⟨af,ag,v1,es,B,ae⟩:=Y.step;grind;rw[show stepG P true (G c.fr c.cl) (dw c.v (sG c.v x))=_ from B]at e;injection e with e1 e2 e3;subst e1;exfalso;have aa:=l;have⟨k1,k2,k0,k3,k4⟩:=l;cases Z with
   |here h=>exact M _ _ _ h k3
   |next W h2=>
    have⟨c2,ah,ai⟩:=W z.v.tape λ_ _=>rfl;have⟨o,E,J,aj⟩:=aa.ended (P:=P) true (dw z.v z.v.tape);grind
   rw[show stepG P true (G c.fr c.cl) (dw c.v (sG c.v x))=_ from B]at e;injection e with e1 e2 e3;injection e1 with e4 e5;have⟨fr,N,v⟩:=z;grind
  rw[e]at hs;obtain l|⟨K,a1,E,J,B,⟨d,m⟩,ab⟩:=hs;exfalso;have:=I.callers;exact this l.2.2.2.1;rw[<-y.f]at B;let t:dp:=λb=>own b\/(x.lG<=b/\b<E.lG);have ac:xg K z.v E t rd:=by refine⟨m.rel.hr.drawn,λb c' j=>?_⟩;obtain h|⟨_,h⟩:=m.fresh b c' j;obtain h|⟨h,n⟩:=q.zone b c' h;grind;have u:yW (dw c.v (sG c.v x)) b:=n;exact .inr ⟨h,u.keep (m.vT b u)⟩;exact .inl (.inr ⟨h,m.rel.V8 j⟩)
  have⟨O,ad⟩:=ih _ z H X e K t a1 E I (Q.mono m.le) (by rw[<-m.le.s,<-m.le.h];grind) (y.trans m.le) ab ac;refine⟨a1,E,J,t,O,B,⟨m.tape,m.os,m.output,m.usize,cL,λb hb ak=>m.same b hb λb0 j=>?_,λe he=>?_⟩,ad⟩;obtain h|⟨_,h⟩:=q.zone b0 b j;grind;exact h;obtain⟨a,A,b,rfl,j,_,C⟩|⟨r,A,b,rfl,j,C⟩|⟨a,A,rfl,hn,hm⟩|⟨r,A,rfl,hn,hm⟩|rfl:=m.evs e he;refine .inl ⟨a,A,rfl,?_⟩;obtain h|⟨h,n⟩:=q.zone b a.block j;grind;cases A with
  |true=>exact absurd (show yW (dw c.v (sG c.v x)) b from n) (C rfl)
  |false=>grind
  refine .inr (.inl ⟨r,A,rfl,?_⟩);obtain h|⟨h,n⟩:=q.zone b r j;grind;grind [absurd,yW,dw,sG];exact .inl ⟨a,A,rfl,.inr (.inr ⟨hn,hm⟩)⟩;exact .inr (.inl ⟨r,A,rfl,.inr ⟨hn,hm⟩⟩);exact .inr (.inr rfl)
end Go.dA
namespace Go.dA
open Go.Conc
structure sj where
 own:Nat->Nat->Prop
 rd:Nat->Nat->Prop
 wg:Nat->Prop
 done:Nat->Prop
def blk:Loc->Option Nat
 | .cell a=>some a.block
 | .obj r=>some r
 |_=>none
def X6(G:sj)(g n m:Nat)(e:Event):Prop:=
 (∀x,(MemAct.ofEvent e).touch?=some x->∀b,blk x.loc=some b->G.own g b\/(G.rd g b/\x.write=false)\/(n<=b/\b<m)\/(G.wg b/\x.kind=.atomic))/\
 (∀x,(MemAct.ofEvent e).touch?=some x->x.loc.isMemory=true->∃b,blk x.loc=some b)/\
 (MemAct.ofEvent e).low m
structure gF(G:sj)(n:Nat)(t:Trace):Prop where
 clean:∀said,¬Race said t
 own:∀i a g b,touchAt t i=some a->blk a.loc=some b->G.own g b->Knows t g i
 rd:∀i a g b,touchAt t i=some a->blk a.loc=some b->G.rd g b->a.write=true->Knows t g i
 wg:∀i a b,touchAt t i=some a->blk a.loc=some b->G.wg b->a.kind=.atomic
 low:∀op∈t,op.act.low n
def Cy{x:MemAct}{a:Touch}(h:x.low m)(b:x.touch?=some a)(f:blk a.loc=some k):k<m:=by
 cases x with
 |access e=>
  simp only[MemAct.touch?,iN]at b;subst b;have⟨c,g,i⟩:=e;cases c<;>simp_all[blk,MemAct.low,Loc.low]
 |mark d=>
  cases d<;>simp only[MemAct.touch?]at b<;>first|(cases b;done)|skip
  all_goals
   simp only[iN]at b;subst b;simp_all[blk,MemAct.low]
 |_=>simp[MemAct.touch?]at b
structure sj.Fits(G:sj)(n:Nat):Prop where
 own:∀g b,G.own g b->b<n
 rd:∀g b,G.rd g b->b<n
 wg:∀b,G.wg b->b<n
 one:∀g g' b,G.own g b->G.own g' b->g=g'
 still:∀g g' b,G.own g b->¬G.rd g' b
 ownwg:∀g b,G.own g b->¬G.wg b
 rdwg:∀g b,G.rd g b->¬G.wg b
def sj.grow(G:sj)(g n m:Nat):sj:={G with own:=λa b=>G.own a b\/(a=g/\n<=b/\b<m)}
theorem sj.Fits.grow{G:sj}(h:G.Fits k)(e:k<=m)(g:Nat):(G.grow g k m).Fits m:=by refine⟨λf b d=>?_,λf b d=>ew (h.rd f b d) e,λb d=>ew (h.wg b d) e,λi j b a c=>?_,λi j b a c=>?_,λi b a c=>?_,h.rdwg⟩;obtain d|d:=d;exact ew (h.own f b d) e;exact d.2.2;obtain a|a:=a<;>obtain c|c:=c;exact h.one _ _ _ a c;have:=h.own _ _ a;omega;have:=h.own _ _ c;omega;rw[a.1,c.1];obtain a|a:=a;exact h.still _ _ _ a c;have:=h.rd _ _ c;omega;obtain a|a:=a;exact h.ownwg _ _ a c;have:=h.wg _ c;omega
theorem gF.step{G:sj}{g n m:Nat}{t:Trace}{fn:dZ}{pos:String}{z:Array Event}(h:gF G n t)(w:G.Fits n)(S:n<=m)(F:∀e∈z,X6 G g n m e):gF (G.grow g n m) m (t++MemOp.ofEvents g fn pos z):=by
 have p:∀f∈MemOp.ofEvents g fn pos z,f.g=g/\∃e∈z,f.act=.ofEvent e:=by intro f c;obtain⟨e,d,rfl⟩:=Go.Conc.mem_ofEvents c;exact⟨rfl,e,d,rfl⟩
 have H:∀i a b,touchAt t i=some a->blk a.loc=some b->b<n:=by intro i a b q o;have⟨f,c,A⟩:=touch_of q;exact Cy (h.low f (mem_of_getElem? c)) A o
 have C:∀i a,touchAt (t++MemOp.ofEvents g fn pos z) i=some a->touchAt t i=some a\/(∃f,(t++MemOp.ofEvents g fn pos z)[i]? =some f/\f.g=g/\∃e∈z,(MemAct.ofEvent e).touch?=some a):=by intro i a q;have⟨f,c,A⟩:=touch_of q;obtain⟨_,I⟩|⟨_,J⟩:=getElem?_append_cases c;exact .inl (by rw[touchAt_of I];exact A);have⟨D,e,d,l⟩:=p f J;exact .inr ⟨f,c,D,e,d,by rw[<-l];exact A⟩
 have K:∀{i f},(t++MemOp.ofEvents g fn pos z)[i]? =some f->f.g=g->Knows (t++MemOp.ofEvents g fn pos z) g i:=by intro i f c D;have:=knows_own c;rwa[D]at this
 refine⟨λL=>noRace_append (h.clean L) (λf c=>(p f c).1) λi a q f c b o M=>?_,λi a R b q o r=>?_,λi a R b q o y s=>?_,λi a b q o s=>?_,λf c=>?_⟩;have⟨_,e,d,l⟩:=p f c;have⟨T,U,_⟩:=F e d;rw[l]at o;have⟨k,N⟩:=U b o (M.1▸M.2.1);have B:blk a.loc=some k:=by rw[M.1];exact N
 obtain r|⟨y,s⟩|E|⟨s,O⟩:=T b o k N;exact h.own i a g k q B r;refine h.rd i a g k q B y ?_;obtain x|x:=M.2.2.1;exact x;rw[s]at x;cases x;have:=H i a k q B;omega;have P:=h.wg i a k q B s;obtain x|x|⟨_,x,_⟩:=M.2.2.2;rw[P]at x;cases x;rw[O]at x;cases x;rw[P]at x;cases x;obtain j|⟨f,c,D,e,d,u⟩:=C i a q;obtain r|r:=r;exact(h.own i a R b j o r).app _;have:=H i a b j o;omega;have N:=K c D;obtain r|r:=r;obtain v|⟨y,_⟩|E|⟨s,_⟩:=(F e d).1 a u b o;rw[w.one R g b r v];exact N;exact absurd y (w.still _ _ _ r);have:=w.own _ _ r;omega;exact absurd s (w.ownwg _ _ r);rw[r.1];exact N;obtain j|⟨f,c,D,e,d,u⟩:=C i a q;exact(h.rd i a R b j o y s).app _;obtain v|⟨_,Q⟩|E|⟨Q,_⟩:=(F e d).1 a u b o;exact absurd y (w.still _ _ _ v);rw[Q]at s;cases s;have:=w.rd _ _ y;omega;exact absurd Q (w.rdwg _ _ y);obtain j|⟨f,c,D,e,d,u⟩:=C i a q;exact h.wg i a b j o s;obtain v|⟨y,_⟩|E|⟨_,Q⟩:=(F e d).1 a u b o;exact absurd s (w.ownwg _ _ v);exact absurd s (w.rdwg _ _ y);have:=w.wg _ s;omega;exact Q;obtain c|c:=FC.1 c;exact MemAct.low_mono S (h.low f c);have⟨_,e,d,l⟩:=p f c;rw[l];exact(F e d).2.2
def gF.FT{G e:sj}{t:Trace}(h:gF G m t) (f:∀g b,e.own g b->∀i a,touchAt t i=some a->blk a.loc=some b->Knows t g i) (j:∀g b,e.rd g b->∀i a,touchAt t i=some a->blk a.loc=some b->a.write=true->Knows t g i) (l:∀b,e.wg b->∀i a,touchAt t i=some a->blk a.loc=some b->a.kind=.atomic):gF e m t:=
 ⟨h.clean,λi a g b c d k=>f g b k i a c d,λi a g b c d k w=>j g b k i a c d w,λi a b c d k=>l b k i a c d,h.low⟩
def gF.mute{G:sj}{t u:Trace}(h:gF G m t)(v:∀d∈u,d.g=k)(s:∀d∈u,d.act.touch?=none)(x:∀d∈u,d.act.low m):gF G m (t++u):=by
 have f:∀i a,touchAt (t++u) i=some a->touchAt t i=some a:=by intro i a j;have⟨d,c,l⟩:=touch_of j;obtain⟨_,n⟩|⟨_,o⟩:=getElem?_append_cases c;rw[touchAt_of n];exact l;rw[s d o]at l;cases l
 refine⟨λp=>noRace_append (h.clean p) v λi a _ d c b e _=>(by rw[s d c]at e;cases e),λi a r b j e q=>(h.own i a r b (f i a j) e q).app _,λi a r b j e q w=>(h.rd i a r b (f i a j) e q w).app _,λi a b j e q=>h.wg i a b (f i a j) e q,λd c=>?_⟩;obtain c|c:=FC.1 c;exact h.low d c;exact x d c
def Knows.pass{t:Trace}{g b i p q:Nat}{x y:MemOp}(h:Knows t g i){u:Trace}(c:(t++u)[p]? =some x)(a:t.size<=p)(d:x.g=g)(e:(t++u)[q]? =some y)(f:y.g=b) (j:HappensBefore (t++u) p q):Knows (t++u) b i:=⟨q,y,e,f,.inr ((h.hb_new a c d).trans j)⟩
def IR{t:Trace}{y:MemOp}(a:t[i]? =some y)(h:y.act≠ .mark .disable/\y.act≠ .mark .enable):t.deaf m (i+1)=t.deaf m i:=by rw[deaf_succ a];unfold deafStep;have⟨d,e,b,c⟩:=y;simp only at h;split<;>simp_all
def kX{t:Trace}{u:Array MemOp}(k:Nat):(t++u)[t.size+k]? =u[k]? :=by rw[DM cM];congr 1;omega
def qL{t:Trace}{u:Array MemOp}{y:MemOp}(d:Deaf t m=0)(b:u[k]? =some y)(e:y.g=m)(f:∀c∈u,c.act≠ .mark .disable/\c.act≠ .mark .enable):(t++u).heard (t.size+k):=by
 refine⟨m,by simp[Trace.g?,kX,b,e],?_⟩;have a:∀j,j<=u.size->(t++u).deaf m (t.size+j)=0:=by
  intro j;induction j with
  |zero=>intro _;rw[pB,deaf_old (di _)];exact d
  |succ j h=>
   intro l;have i:u[j]? =some u[j]:=nh cM;rw[<-Kw,IR (by rw[kX];exact i) (f _ (Array.getElem_mem _))];exact h cM
 exact a k (Nat.le_of_lt (iS.1 b).1)
def FU{t:Trace}{x y:MemOp}(c:x.g=m/\x.act=.go k)(a:y.g=k/\y.act=.start)(f:Deaf t m=0)(j:Deaf t k=0)(h:Knows t m i):Knows (t++#[x,y]) k i:=by
 have e:∀d∈#[x,y],d.act≠ .mark .disable/\d.act≠ .mark .enable:=by intro d b;simp only[Oz,fi,pA,mh]at b;obtain rfl|rfl:=b;simp[c.2];simp[a.2]
 refine Knows.pass h (u:=#[x,y]) (p:=t.size+0) (q:=t.size+1) (x:=x) (y:=y) (by rw[kX];rfl) cM c.1 (by rw[kX];rfl) a.1 (.single (.inr ⟨.spawn (child:=k) ?_ ?_ ?_,qL f (k:=0) rfl c.1 e,qL j (k:=1) rfl a.1 e⟩));simp only[Trace.act?,kX];simp[c.2];simp only[Trace.act?,kX];simp[a.2];simp only[Trace.g?,kX];simp[a.1]
def DX{t:Trace}{g r i c s m:Nat}{a d e b:MemOp}(j:a.g=g/\a.act=.send c s)(v:d.g=r/\d.act=.recv c s m)(w:e.g=g/\e.act=.sendDone c s)(l:b.g=r/\b.act=.recvDone c s) (z:Deaf t g=0)(A:Deaf t r=0)(h:Knows t g i):Knows (t++#[a,d,e,b]) r i:=by
 have o:∀n∈#[a,d,e,b],n.act≠ .mark .disable/\n.act≠ .mark .enable:=by intro n f;simp only[Oz,fi,pA,mh]at f;obtain rfl|rfl|rfl|rfl:=f;simp[j.2];simp[v.2];simp[w.2];simp[l.2]
 refine Knows.pass h (u:=#[a,d,e,b]) (p:=t.size+0) (q:=t.size+3) (x:=a) (y:=b) (by rw[kX];rfl) cM j.1 (by rw[kX];rfl) l.1 (.single (.inr ⟨.handOver (c:=c) (k:=s) ?_ ?_,qL z (k:=0) rfl j.1 o,qL A (k:=3) rfl l.1 o⟩));simp only[Trace.act?,kX];simp[j.2];simp only[Trace.act?,kX];simp[l.2]
def DY{t:Trace}{g i c p:Nat}{y:MemOp}(h:t.act? p=some (.close c))(j:t.heard p)(l:Before t i p)(d:y.g=g/\y.act=.recvClosed c)(m:Deaf t g=0):Knows (t++#[y]) g i:=by
 have a:=lt_of_act? h;have e:∀f∈#[y],f.act≠ .mark .disable/\f.act≠ .mark .enable:=by intro f b;simp only[Oz,fi,pA,mh]at b;subst b;simp[d.2]
 refine⟨t.size+0,y,by rw[kX];rfl,d.1,.inr ((l.app #[y]).hb (.single (.inr ⟨.closed (c:=c) ?_ ?_,(heard_old a).2 j,qL m (k:=0) rfl d.1 e⟩)))⟩;rw[act?_old a];exact h;simp only[Trace.act?,kX];simp[d.2]
end Go.dA
namespace Go.dA.Kn
open Go.Conc Go.dA
structure Gh where
 own:Nat->Nat->Prop
 rd:Nat->Nat->Prop
 wg:Nat->Prop
 user:Nat->Prop
 sayer:Nat
 x:Nat->Prop
 done:Nat->Prop
 t0:Nat
def oE(G:Gh)(g d n m:Nat)(a:Array Event):Prop:=∀(j:Nat) (e:Event),a[j]? =some e->(∀x,(MemAct.ofEvent e).touch?=some x->x.loc.isMemory=true->∃b,blk x.loc=some b/\((x.kind=.plain/\(G.own g b\/(G.rd g b/\x.write=false)\/(n<=b/\b<m)))\/(x.kind=.atomic/\G.wg b/\G.user g/\(G.done g->0<deafBehind d (a.extract 0 j)))\/(x.kind=.said/\G.wg b/\G.user g/\g=G.sayer)))/\(MemAct.ofEvent e).low m
structure gF(G:Gh)(n:Nat)(t:Trace):Prop where
 len:G.t0<=t.size
 clean:∀said,¬Race said t
 own:∀i a g b,touchAt t i=some a->blk a.loc=some b->G.own g b->Knows t g i
 rd:∀i a g b,touchAt t i=some a->blk a.loc=some b->G.rd g b->a.write=true->Knows t g i
 wg:∀i a b,touchAt t i=some a->blk a.loc=some b->G.wg b->a.kind=.atomic\/(a.kind=.said/\Knows t G.sayer i)\/∀g,G.user g->Knows t g i
 told:∀i a g,touchAt t i=some a->a.loc.isMemory=true->t.g? i=some g->G.done g\/i<G.t0->Knows t 0 i\/(a.kind=.atomic/\(∃b,blk a.loc=some b/\(G.wg b\/G.x b))/\¬t.heard i)
 low:∀op∈t,op.act.low n
structure Gh.Fits(G:Gh)(n:Nat):Prop where
 own:∀g b,G.own g b->b<n
 rd:∀g b,G.rd g b->b<n
 wg:∀b,G.wg b->b<n
 one:∀g g' b,G.own g b->G.own g' b->g=g'
 still:∀g g' b,G.own g b->¬G.rd g' b
 ownwg:∀g b,G.own g b->¬G.wg b
 rdwg:∀g b,G.rd g b->¬G.wg b
 done:∀g,G.done g->g≠0/\G.sayer≠g/\(∀b,¬G.own g b)/\∀b,¬G.rd g b
def Gh.grow(G:Gh)(g n m:Nat):Gh:={G with own:=λa b=>G.own a b\/(a=g/\n<=b/\b<m)}
theorem Gh.tY(G:Gh)(g n:Nat):G.grow g n n=G:=by unfold Gh.grow;congr;grind
theorem Gh.Fits.grow{G:Gh}(h:G.Fits k)(e:k<=m)(g:Nat)(l:G.done g->m=k):(G.grow g k m).Fits m:=by refine⟨λf b d=>?_,λf b d=>ew (h.rd f b d) e,λb d=>ew (h.wg b d) e,λj n b a c=>?_,λj n b a c=>?_,λj b a c=>?_,h.rdwg,λf i=>?_⟩;obtain d|d:=d;exact ew (h.own f b d) e;grind;obtain a|a:=a<;>obtain c|c:=c;exact h.one _ _ _ a c;have:=h.own _ _ a;omega;have:=h.own _ _ c;omega;grind;obtain a|a:=a;exact h.still _ _ _ a c;have:=h.rd _ _ c;omega;obtain a|a:=a;exact h.ownwg _ _ a c;have:=h.wg _ c;omega;have⟨a,c,r,o⟩:=h.done f i;refine⟨a,c,λb d=>?_,o⟩;obtain d|⟨rfl,p,q⟩:=d;grind;have:=l i;omega
def oF{l:Loc}(h:blk l=some m):l.isMemory=true:=by cases l<;>simp_all[blk,Loc.isMemory]
def IS{l:Loc}(h:l.isMemory=true):∃b,blk l=some b:=by cases l<;>simp_all[blk,Loc.isMemory]
theorem gF.step{G:Gh}{g n m:Nat}{t:Trace}{fn:dZ}{pos:String}{w:Array Event}(h:gF G n t)(u:G.Fits n)(W:n<=m)(hd:G.done g->m=n)(O:oE G g (Deaf t g) n m w):gF (G.grow g n m) m (t++MemOp.ofEvents g fn pos w):=by
 have X:∀l∈MemOp.ofEvents g fn pos w,l.g=g:=λl d=>by obtain⟨e,_,rfl⟩:=Go.Conc.mem_ofEvents d;rfl
 have aa:∀i a b,touchAt t i=some a->blk a.loc=some b->b<n:=by intro i a b p r;have⟨l,d,P⟩:=touch_of p;exact Cy (h.low l (mem_of_getElem? d)) P r
 have ab:∀{i:Nat} {l:MemOp},(t++MemOp.ofEvents g fn pos w)[i]? =some l->t.size<=i->∃e,w[i-t.size]? =some e/\l.act=.ofEvent e/\l.g=g:=by grind [Array.getElem?_append_right,ofEvents_eq,Option.map_eq_some_iff]
 have F:∀i a,touchAt (t++MemOp.ofEvents g fn pos w) i=some a->(i<t.size/\touchAt t i=some a)\/(t.size<=i/\∃l e,(t++MemOp.ofEvents g fn pos w)[i]? =some l/\l.g=g/\w[i-t.size]? =some e/\(MemAct.ofEvent e).touch?=some a):=by intro i a p;have⟨l,d,P⟩:=touch_of p;grind [Nat.lt_or_ge,touchAt_old]
 have Q:∀{i l},(t++MemOp.ofEvents g fn pos w)[i]? =some l->l.g=g->Knows (t++MemOp.ofEvents g fn pos w) g i:=by grind [knows_own]
 refine⟨by have:=h.len;simp[Gh.grow];omega,λR=>noRace_append (h.clean R) X λi a p l d b r K=>?_,λi a E b p r s=>?_,λi a E b p r A o=>?_,λi a b p r o=>?_,λi a E p hm L B=>?_,λl d=>?_⟩;obtain⟨e,M,rfl⟩:=Go.Conc.mem_ofEvents d;have⟨j,C⟩:=Array.mem_iff_getElem?.1 M;have⟨k,hk,c⟩:=(O j e C).1 b r (K.1▸K.2.1);have H:blk a.loc=some k:=by rw[K.1];grind
 obtain⟨hp,s|⟨A,o⟩|I⟩|⟨D,o,hu,_⟩|⟨D,o,hu,hs⟩:=c;exact h.own i a g k p H s;refine h.rd i a g k p H A ?_;obtain x|x:=K.2.2.1;grind;grind;grind;obtain N|⟨N,_⟩|S:=h.wg i a k p H o;obtain x|x|⟨_,x,_⟩:=K.2.2.2;grind;grind;grind;obtain x|x|⟨_,_,x⟩:=K.2.2.2;grind;grind;grind;grind;obtain N|⟨N,S⟩|S:=h.wg i a k p H o;obtain x|x|⟨_,x,_⟩:=K.2.2.2;grind;grind;grind;grind;grind;obtain⟨_,f⟩|⟨_,l,e,d,J,C,q⟩:=F i a p;obtain s|s:=s;exact(h.own i a E b f r s).app _;grind;have hk:=Q d J;have⟨T,U,c⟩:=(O _ e C).1 a q (oF r);obtain rfl:b=T:=cL;obtain s|s:=s;obtain⟨_,v|⟨A,_⟩|I⟩|⟨_,o,_⟩|⟨_,o,_⟩:=c;rw[u.one E g b s v];grind;exact absurd A (u.still _ _ _ s);have:=u.own _ _ s;omega;exact absurd o (u.ownwg _ _ s);exact absurd o (u.ownwg _ _ s);grind;obtain⟨_,f⟩|⟨_,l,e,d,J,C,q⟩:=F i a p;exact(h.rd i a E b f r A o).app _;have⟨T,U,c⟩:=(O _ e C).1 a q (oF r);obtain rfl:b=T:=cL;obtain⟨_,v|⟨_,D⟩|I⟩|⟨_,D,_⟩|⟨_,D,_⟩:=c;exact absurd A (u.still _ _ _ v);grind;have:=u.rd _ _ A;omega;exact absurd D (u.rdwg _ _ A);exact absurd D (u.rdwg _ _ A);obtain⟨_,f⟩|⟨_,l,e,d,J,C,q⟩:=F i a p;exact(h.wg i a b f r o).imp id (Or.imp (λ⟨x,y⟩=>⟨x,y.app _⟩) λx g X=>(x g X).app _);have⟨T,U,c⟩:=(O _ e C).1 a q (oF r);obtain rfl:b=T:=cL;obtain⟨_,v|⟨A,_⟩|I⟩|⟨D,_,_,_⟩|⟨D,_,_,hs⟩:=c;exact absurd o (u.ownwg _ _ v);exact absurd o (u.rdwg _ _ A);have:=u.wg _ o;omega;grind;refine .inr (.inl ⟨D,?_⟩);show Knows _ G.sayer i;grind;obtain⟨Y,f⟩|⟨Y,l,e,d,J,C,q⟩:=F i a p;rw[g?_old Y]at L;obtain x|⟨x,y,z⟩:=h.told i a E f hm L B;exact .inl (x.app _);exact .inr ⟨x,y,λhh=>z ((heard_old Y).1 hh)⟩;have e1:E=g:=by simp only[Trace.g?,d,mg,iN]at L;grind
 subst e1;have B:G.done E:=B.resolve_right (by have:=h.len;show¬i<G.t0;omega);have⟨_,k2,k3,k4⟩:=u.done E B;have⟨b,r,c⟩:=(O _ e C).1 a q hm;obtain⟨_,v|⟨A,_⟩|I⟩|⟨D,o,_,V⟩|⟨_,_,_,hs⟩:=c;grind;grind;grind;have V:=V B;refine .inr ⟨D,⟨b,r,.inl o⟩,?_⟩;rintro⟨g2,ac,h0⟩;have e2:g2=E:=by grind
 subst e2;have Z:i-t.size<w.size:=cL;have:=deaf_inside t g2 fn pos w (i-t.size) (Nat.le_of_lt Z);grind;grind;obtain d|d:=FC.1 d;exact MemAct.low_mono W (h.low l d);obtain⟨e,M,rfl⟩:=Go.Conc.mem_ofEvents d;have⟨j,C⟩:=Array.mem_iff_getElem?.1 M;exact(O j e C).2
def gF.mute{G:Gh}{t u:Trace}(h:gF G m t)(B:∀d∈u,d.act.touch?=none)(C:∀d∈u,d.act.low m)(q:∀f,¬Race f (t++u)):gF G m (t++u):=by
 have n:∀i a,touchAt (t++u) i=some a->i<t.size/\touchAt t i=some a:=by intro i a e;have⟨d,c,r⟩:=touch_of e;grind [getElem?_append_cases,touchAt_of]
 refine⟨by have:=h.len;grind,q,λi a o b e j k=>(h.own i a o b cL j k).app _,λi a o b e j k w=>(h.rd i a o b cL j k w).app _,λi a b e j k=>(h.wg i a b cL j k).imp id (Or.imp (λ⟨x,y⟩=>⟨x,y.app _⟩) λx g l=>(x g l).app _),
  λi a g e s l v=>?_,λd c=>?_⟩
 have⟨A,p⟩:=n i a e;rw[g?_old A]at l;obtain x|⟨x,y,z⟩:=h.told i a g p s l v;exact .inl (x.app _);grind [heard_old];obtain c|c:=FC.1 c;exact h.low d c;grind
theorem yn{t:Trace}:∀(l:List MemOp),(∀d∈l,d.act.touch?=none)->(∀c,¬Race c t)->∀c,¬Race c (t++l.toArray)
 |[],_,h=>cL
 |y::l,j,h=>by have e:t++(y::l).toArray=(t++#[y])++l.toArray:=cL;rw[e];refine yn l (λd f=>j d cL) λc=>noRace_append (g:=y.g) (h c) (λd f=>cL) λi a _ d f b k _=>?_;grind
def gF.KE{G:Gh}{t u:Trace}(h:gF G m t)(c:∀b∈u,b.act.touch?=none)(d:∀b∈u,b.act.low m):gF G m (t++u):=by refine h.mute c d λa=>?_;have:=yn (t:=t) u.toList cL h.clean a;omega
def gF.FT{G c:Gh}{t:Trace}(h:gF G m t) (e:∀g b,c.own g b->∀i a,touchAt t i=some a->blk a.loc=some b->Knows t g i) (f:∀g b,c.rd g b->∀i a,touchAt t i=some a->blk a.loc=some b->a.write=true->Knows t g i) (j:∀b,c.wg b->∀i a,touchAt t i=some a->blk a.loc=some b->a.kind=.atomic\/(a.kind=.said/\Knows t c.sayer i)\/∀g,c.user g->Knows t g i) (d:c.t0=G.t0)(k:∀g i,c.done g\/i<c.t0->∀a,touchAt t i=some a->a.loc.isMemory=true->t.g? i=some g->Knows t 0 i\/(a.kind=.atomic/\(∃b,blk a.loc=some b/\(c.wg b\/c.x b))/\¬t.heard i)):gF c m t:=
 ⟨d▸h.len,h.clean,cL,cL,cL,cL,h.low⟩
def gF.begin{n m0:Nat}{t:Trace}(h:Past (pD A) n t){rd0:dp}(e:∀b,rd0 b->¬A b):
 gF {own:=λ_ _=>False,rd:=λg b=>g=0/\rd0 b,wg:=λ_=>False,user:=λg=>g=0,sayer:=0,x:=A,done:=λg=>g≠0/\g<m0,t0:=t.size} n t:=by
 refine⟨di _,h.clean,cL,λi a g b d c k w=>?_,cL,λi a g d f m B=>?_,h.seen⟩;obtain⟨rfl,p⟩:=k;obtain x|⟨x,_⟩:=h.known i a d (oF c);grind;exfalso;refine e b p ?_;revert c x;cases a.loc<;>simp_all[blk,pD];obtain x|⟨x,y⟩:=h.known i a d f;grind;by_cases q:g=0;have⟨C,r,s⟩:=iU.1 m;grind [knows_own];by_cases o:t.heard i;have⟨j,u,c⟩:=h.over i g m q ⟨a,d,f,.inr o⟩;have⟨z,v,l⟩:=iU.1 u;exact .inl ⟨j,z,v,l,.inr c⟩;have⟨b,c⟩:=IS f;refine .inr ⟨y,⟨b,c,.inr ?_⟩,o⟩;revert c x;cases a.loc<;>simp_all[blk,pD]<;>(grind)
def gF.past{G:Gh}{t:Trace}(h:gF G m t)(c:∀i g,t.g? i=some g->g=0\/G.done g\/i<G.t0)(o:Deaf t 0=0):Past (pD λb=>G.wg b\/G.x b) m t:=by
 refine⟨h.clean,λi a k e=>?_,λi g d f p=>?_,o,h.low⟩;have⟨l,j,r⟩:=touch_of k;have d:t.g? i=some l.g:=by simp[Trace.g?,j]
 obtain x|x:=c i _ d;grind [knows_own];obtain y|⟨y,⟨b,s,B⟩,_⟩:=h.told i a l.g k e d x;grind;refine .inr ⟨?_,y⟩;revert s;cases a.loc<;>simp_all[blk,pD];have⟨x,u,e,C⟩:=p;have v:=(c i g d).resolve_left f;obtain⟨q,z,w,A,n⟩|⟨y,_,z⟩:=h.told i x g u e d v;refine⟨q,by simp[Trace.g?,w,A],?_⟩;obtain rfl|n:=n;grind [Option.some.injEq,Trace.g?];grind;grind
end Go.dA.Kn
namespace Go.dA
inductive WT.Sub:WT->WT->Prop
 |mk (f:cJ->WT) (w:cJ):WT.Sub (f w) (.node f)
def WT.acc(a:WT):Acc WT.Sub a:=by
 induction a with
 |leaf=>exact⟨_,λy h=>by cases h⟩
 |node f b=>exact⟨_,λy h=>by cases h with|mk f w=>exact b w⟩
def WT.num:Nat->WT
 |0=>.leaf
 |n+1=>.node λ_=>WT.num n
theorem WT.KF(n:Nat):WT.Sub (WT.num n) (WT.num (n+1)):=WT.Sub.mk (λ_=>WT.num n) (default:cJ)
def R3(k:Nat)(f g:Nat->WT):Prop:=∃i,i<k/\WT.Sub (f i) (g i)/\∀j,j<k->j≠i->f j=g j
theorem vW(k:Nat):∀f:Nat->WT,Acc (R3 k) f:=by
 induction k with
 |zero=>exactλf=>⟨_,λg ⟨i,h,_⟩=>absurd h (Nat.not_lt_zero i)⟩
 |succ k vW=>
  intro f;have c:∀b,Acc WT.Sub b->∀f:Nat->WT,Acc (R3 k) f->f k=b->Acc (R3 (k+1)) f:=by
   intro b d;induction d with
   |intro b _ a=>
    intro f q;induction q with
    |intro f _ l=>
     intro n;refine⟨_,λg ⟨i,r,o,p⟩=>?_⟩;by_cases e:i=k;subst e;exact a (g i) (by rw[<-n];exact o) g (vW g) rfl;exact l g ⟨i,cM,o,λj s m=>p j cM m⟩ (by rw[p k cM (λh=>e h.symm)];exact n)
  exact c (f k) (WT.acc _) f (vW f) rfl
structure Mu where
 a:Nat
 k:Nat
 f:Nat->WT
 b:Nat
inductive Mu.Lt:Mu->Mu->Prop
 |a {x y:Mu} (h:x.a<y.a):Mu.Lt x y
 |f {x y:Mu} (h1:x.a=y.a) (h2:x.k=y.k) (h:R3 y.k x.f y.f):Mu.Lt x y
 |b {x y:Mu} (h1:x.a=y.a) (h2:x.k=y.k) (h3:x.f=y.f) (h:x.b<y.b):Mu.Lt x y
def Mu.wf:WellFounded Mu.Lt:=by
 have c:∀(a:Nat) (k:Nat) (f:Nat->WT) (b:Nat),Acc Mu.Lt ⟨a,k,f,b⟩:=by
  intro a;induction a using Nat.strongRecOn with
  |ind a d=>
   intro k f;induction vW k f with
   |intro f _ e=>
    intro b;induction b using Nat.strongRecOn with
    |ind b g=>
     refine⟨_,λy h=>?_⟩;have⟨n,o,m,i⟩:=y;cases h with
     |a h=>exact d n h o m i
     |f j l h=>cases j;cases l;exact e m h i
     |b j l p h=>cases j;cases l;cases p;exact g i h
 exact⟨λ⟨a,k,f,b⟩=>c a k f b⟩
end Go.dA
namespace Go.dA.Cr
open Go.Conc Go.dA Go.dA.Kn
open Go.ConcR (KK wgBlock WgAt stA smA mk)
open Go.ConcN (sumTo upd sumTo_upd upd_ne upd_same sumTo_congr le_sumTo sumTo_le)
abbrev iV:=(Nat->Prop)->cQ->cJ->Prop
abbrev dr:Nat->Prop:=λ_=>False
def Lv(ty:cR)(Wg:Nat)(w:cJ):Prop:=∃a b,WgAt ty Wg w a b
section
variable(P:cU)(ty:cR)(Wg Ch n:Nat)(rd:Nat->Prop)(val:Nat->cK->(Nat->Prop)->cJ->Prop)
def Wy(a:Bool)(rd:dp)(S:iV):iV:=λown g w=>∃τ,Way P a rd (Lv ty Wg) S τ own g w
def rC(a:Bool)(m:Mark)(b:iV):iV:=λown g w=>g.status=.running/\∃c,stepG P a g w=.go c w #[mk m]/\b own c w
def Sl(S:cQ->dC):cQ->dC:=λg w=>∃m,Goes P false (eP dr dr (Lv ty Wg)) ConcR.DC0 S m g w
def D4:cQ->dC:=λg w=>g.status=.running/\mayWake P g=true/\(WgAt ty Wg w 0 0->∃a,stepG P false g w=.go a (w.setCell (smA Wg) (.int .u32 1)) (semEvents (smA Wg))/\∃q,QuitsD P q 1 a)
def D3:cQ->dC:=λg w=>g.status=.running/\(WgAt ty Wg w 1 0->∃a,stepG P false g w=.go a (w.setCell (stA Wg) (.int .u64 0)) #[ConcR.wr (stA Wg)]/\Sl P ty Wg (D4 P ty Wg) a (w.setCell (stA Wg) (.int .u64 0)))
def D2:cQ->dC:=λg w=>g.status=.running/\(WgAt ty Wg w 1 0->∃a,stepG P false g w=.go a w #[ConcR.rd (stA Wg)]/\Sl P ty Wg (D3 P ty Wg) a w)
def D1:cQ->dC:=λg w=>g.status=.running/\∀v a:Nat,a<=1->v<2147483647->WgAt ty Wg w ((v+1)*KK+a) 0->
 ∃b,stepG P false g w=.go b (w.setCell (stA Wg) (.int .u64 (v*KK+a))) #[ConcR.rd (stA Wg),ConcR.wr (stA Wg)]/\((v=0/\a=1)->Sl P ty Wg (D2 P ty Wg) b (w.setCell (stA Wg) (.int .u64 (v*KK+a))))/\(¬(v=0/\a=1)->∃q,QuitsD P q 1 b)
def K1:cQ->dC:=λg w=>g.status=.running/\∃a,stepG P false g w=.go a w #[mk .disable]/\Sl P ty Wg (D1 P ty Wg) a w
def R0:cQ->dC:=λg w=>g.status=.running/\∃a,stepG P false g w=.go a w #[mk (.releaseMerge (stA Wg))]/\Sl P ty Wg (K1 P ty Wg) a w
def AtSend(i:Nat)(v z:cK):iV:=λown g w=>g.status=.running/\(∀w,stepG P false g w=.comm g #[scase Ch v z] true .send w #[])/\val i v own w/\Sl P ty Wg (R0 P ty Wg) (Conc.served g undef) w
def Sends(i:Nat):iV:=λown g w=>∃v z,AtSend P ty Wg Ch val i v z own g w
def V9:iV:=λ_ g w=>g.status=.running/\mayWake P g=true/\∃a,a.status=.running/\(∀s r,w.heap[Ch]? =some (.chan 0 #[] false s r false)->stepG P false g w=.go a (w.setChan Ch 0 #[] true s r false) #[⟨.obj Ch,false,true⟩,⟨.obj Ch,true,true⟩])/\∃q,QuitsD P q 0 a
def YP(a:dp):iV:=rC P false (.acquire (stA Wg)) (Wy P ty Wg false a (V9 P Ch))
def XB(a:dp):iV:=rC P false .enable (Wy P ty Wg false a (YP P ty Wg Ch a))
def YQ(a:dp):iV:=λown g w=>g.status=.running/\(WgAt ty Wg w 0 0->∃b,stepG P false g w=.go b w #[ConcR.rd (stA Wg)]/\Wy P ty Wg false a (XB P ty Wg Ch a) own b w)
def WE(a:dp):iV:=λown g w=>g.status=.running/\g.offers=none/\
 ((∃c,WgAt ty Wg w c 0)->stepG P false g w=.go {g with status:=.blocked} w #[])/\
 (WgAt ty Wg w 0 1->∃b,stepG P false g w=.go b (w.setCell (smA Wg) (.int .u32 0)) (semEvents (smA Wg))/\Wy P ty Wg false a (YQ P ty Wg Ch a) own b (w.setCell (smA Wg) (.int .u32 0)))
def YR(a:dp):iV:=rC P false (.write (smA Wg)) (Wy P ty Wg false a (WE P ty Wg Ch a))
def YS(c:dp)(a:iV)(d:Nat):iV:=λown g w=>g.status=.running/\∀v:Nat,v<2147483648->WgAt ty Wg w (v*KK) 0->
 (v=d->∃b,stepG P false g w=.go b (w.setCell (stA Wg) (.int .u64 (v*KK+1))) #[ConcR.rd (stA Wg),ConcR.wr (stA Wg)]/\Wy P ty Wg false c (YR P ty Wg Ch c) own b (w.setCell (stA Wg) (.int .u64 (v*KK+1))))/\(v≠d->∃b,stepG P false g w=.go b w #[ConcR.rd (stA Wg)]/\Wy P ty Wg false c a own b w)
def YT(b:dp)(a:iV):iV:=λown g w=>g.status=.running/\∀v:Nat,v<2147483648->WgAt ty Wg w (v*KK) 0->∃c,stepG P false g w=.go c w #[ConcR.rd (stA Wg)]/\
 (v=0->Wy P ty Wg false b (XB P ty Wg Ch b) own c w)/\(v≠0->Wy P ty Wg false b (YS P ty Wg Ch b a v) own c w)
def XC(b:dp)(a:iV):iV:=rC P false .disable (Wy P ty Wg false b a)
structure Anchor(rc:Nat->Prop)(sU:iV):Prop where
 walk:∀own g w,sU own g w->Wy P ty Wg false rc (YT P ty Wg Ch rc sU) own g w
def OR(b:dp):iV:=λown g w=>∃a,Anchor P ty Wg Ch b a/\Wy P ty Wg false b (XC P ty Wg b a) own g w
def Vf(End:iV)(z:cK):iV:=λown g w=>g.status=.running/\(∀w,stepG P true g w=.comm g #[rcase Ch z] true (.recv true) w #[])/\End own (Conc.served g (.tuple #[z,.bool false])) w
def Vg(z:cK)(c:Nat->iV)(S:Nat->Bool):iV:=λown g w=>g.status=.running/\(∀w,stepG P true g w=.comm g #[rcase Ch z] true (.recv true) w #[])/\
 ∀i v a,i<n->S i=false->val i v a w->(∀b,a b->¬own b)->c i (λb=>own b\/a b) (Conc.served g (.tuple #[v,.bool true])) w
def pE(End:iV)(z:cK):Nat->(Nat->Bool)->iV
 |0,_=>Vf P Ch End z
 |r+1,S=>Vg P Ch n val z (λi=>Wy P ty Wg true rd (pE End z r (upd S i true))) S
def OS(End:iV):iV:=λown g w=>g.status=.running/\∃(c child:cQ) (a:dp) (z:cK),stepG P true g w=.spawn c child w #[]/\child.status=.running/\(∀b,a b->own b)/\
 OR P ty Wg Ch (λb=>rd b\/a b) dr child w/\Wy P ty Wg true rd (pE P ty Wg Ch n rd val End z n (λ_=>false)) (λb=>own b/\¬a b) c w
def XD(i:Nat)(c:iV):iV:=λown g w=>g.status=.running/\∃(d child:cQ) (a:dp),stepG P true g w=.spawn d child w #[]/\child.status=.running/\(∀b,a b->own b)/\
 Wy P ty Wg false (λb=>rd b\/a b) (Sends P ty Wg Ch val i) dr child w/\c (λb=>own b/\¬a b) d w
def XE(i:Nat)(a:iV):iV:=rC P true .enable (Wy P ty Wg true rd (XD P ty Wg Ch rd val i a))
def YU(i:Nat)(a:iV):iV:=rC P true (.read (smA Wg)) (Wy P ty Wg true rd (XE P ty Wg Ch rd val i a))
def YV(i:Nat)(a:iV):iV:=λown g w=>g.status=.running/\∀v:Nat,v<2147483647->WgAt ty Wg w (v*KK) 0->
 ∃b,stepG P true g w=.go b (w.setCell (stA Wg) (.int .u64 ((v+1)*KK))) #[ConcR.rd (stA Wg),ConcR.wr (stA Wg)]/\(v=0->Wy P ty Wg true rd (YU P ty Wg Ch rd val i a) own b (w.setCell (stA Wg) (.int .u64 ((v+1)*KK))))/\(v≠0->Wy P ty Wg true rd (XE P ty Wg Ch rd val i a) own b (w.setCell (stA Wg) (.int .u64 ((v+1)*KK))))
def WF(i:Nat)(a:iV):iV:=rC P true .disable (Wy P ty Wg true rd (YV P ty Wg Ch rd val i a))
def qd(End:iV):Nat->iV
 |0=>Wy P ty Wg true rd (OS P ty Wg Ch n rd val End)
 |r+1=>Wy P ty Wg true rd (WF P ty Wg Ch rd val (n-(r+1)) (qd End r))
end
inductive CT where
 |kd|w1|w2 (vs:Nat)|sw|w3|blk|w4|ke|ac|cl|quit
inductive eQ where
 |none
 |old
 |st (r s:Nat)
 |uC
 |rc (r:Nat) (S:Nat->Bool) (s:Nat)
 |wk (i s:Nat)
 |cl (c:CT)
section
variable(P:cU)(ty:cR)(Wg Ch n:Nat)(rd0:Nat->Prop)(val:Nat->cK->(Nat->Prop)->cJ->Prop)(End:iV)
inductive mD:eQ->WT->Nat->(Nat->Prop)->(Nat->Prop)->cQ->cJ->Prop
 |old {q d:Nat} {own rd:Nat->Prop} {g:cQ} {w:cJ} (h:QuitsD P q d g):mD .old (.num q) d own rd g w
 |skd {r:Nat} {τ:WT} {own:Nat->Prop} {g:cQ} {w:cJ} (hr:r<n) (h:Way P true rd0 (Lv ty Wg) (WF P ty Wg Ch rd0 val (n-(r+1)) (qd P ty Wg Ch n rd0 val End r)) τ own g w):mD (.st r 6) τ 0 own rd0 g w
 |sa1 {r:Nat} {τ:WT} {own:Nat->Prop} {g:cQ} {w:cJ} (hr:r<n) (h:Way P true rd0 (Lv ty Wg) (YV P ty Wg Ch rd0 val (n-(r+1)) (qd P ty Wg Ch n rd0 val End r)) τ own g w):mD (.st r 5) τ 1 own rd0 g w
 |Um {r:Nat} {τ:WT} {own:Nat->Prop} {g:cQ} {w:cJ} (hr:r<n) (h:Way P true rd0 (Lv ty Wg) (YU P ty Wg Ch rd0 val (n-(r+1)) (qd P ty Wg Ch n rd0 val End r)) τ own g w):mD (.st r 4) τ 1 own rd0 g w
 |ske {r:Nat} {τ:WT} {own:Nat->Prop} {g:cQ} {w:cJ} (hr:r<n) (h:Way P true rd0 (Lv ty Wg) (XE P ty Wg Ch rd0 val (n-(r+1)) (qd P ty Wg Ch n rd0 val End r)) τ own g w):mD (.st r 3) τ 1 own rd0 g w
 |sgo {r:Nat} {τ:WT} {own:Nat->Prop} {g:cQ} {w:cJ} (hr:r<n) (h:Way P true rd0 (Lv ty Wg) (XD P ty Wg Ch rd0 val (n-(r+1)) (qd P ty Wg Ch n rd0 val End r)) τ own g w):mD (.st r 2) τ 0 own rd0 g w
 |R4 {τ:WT} {own:Nat->Prop} {g:cQ} {w:cJ} (h:Way P true rd0 (Lv ty Wg) (OS P ty Wg Ch n rd0 val End) τ own g w):mD .uC τ 0 own rd0 g w
 |src {r:Nat} {S:Nat->Bool} {z:cK} {τ:WT} {own:Nat->Prop} {g:cQ} {w:cJ} (h:Way P true rd0 (Lv ty Wg) (pE P ty Wg Ch n rd0 val End z r S) τ own g w):mD (.rc r S 2) τ 0 own rd0 g w
 |Om {r:Nat} {S:Nat->Bool} {z:cK} {τ:WT} {own:Nat->Prop} {g:cQ} {w:cJ} (h:∀w1,eP own rd0 (Lv ty Wg) w w1->pE P ty Wg Ch n rd0 val End z r S own g w1):
  mD (.rc r S 1) τ 0 own rd0 (parked g #[rcase Ch z] (.recv true)) w
 |sup {S:Nat->Bool} {z:cK} {τ:WT} {own:Nat->Prop} {g:cQ} {w:cJ} (h:∀w1,eP own rd0 (Lv ty Wg) w w1->pE P ty Wg Ch n rd0 val End z 0 S own g w1):
  mD (.rc 0 S 2) τ 0 own rd0 {parked g #[rcase Ch z] (.recv true)with status:=.running} w
 |R5 {i:Nat} {τ:WT} {own rd:Nat->Prop} {g:cQ} {w:cJ} (h:Way P false rd (Lv ty Wg) (Sends P ty Wg Ch val i) τ own g w):mD (.wk i 9) τ 0 own rd g w
 |u4 {i:Nat} {v z:cK} {τ:WT} {own rd:Nat->Prop} {g:cQ} {w:cJ} (h:∀w1,eP own rd (Lv ty Wg) w w1->AtSend P ty Wg Ch val i v z own g w1):
  mD (.wk i 8) τ 0 own rd (parked g #[scase Ch v z] .send) w
 |r0 {i m:Nat} {own rd:Nat->Prop} {g:cQ} {w:cJ} (h:Goes P false (eP dr dr (Lv ty Wg)) ConcR.DC0 (R0 P ty Wg) m g w):mD (.wk i 7) (.num m) 0 own rd g w
 |k1 {i m:Nat} {own rd:Nat->Prop} {g:cQ} {w:cJ} (h:Goes P false (eP dr dr (Lv ty Wg)) ConcR.DC0 (K1 P ty Wg) m g w):mD (.wk i 6) (.num m) 0 own rd g w
 |d1 {i m:Nat} {own rd:Nat->Prop} {g:cQ} {w:cJ} (h:Goes P false (eP dr dr (Lv ty Wg)) ConcR.DC0 (D1 P ty Wg) m g w):mD (.wk i 5) (.num m) 1 own rd g w
 |d2 {i m:Nat} {own rd:Nat->Prop} {g:cQ} {w:cJ} (h:Goes P false (eP dr dr (Lv ty Wg)) ConcR.DC0 (D2 P ty Wg) m g w):mD (.wk i 4) (.num m) 1 own rd g w
 |d3 {i m:Nat} {own rd:Nat->Prop} {g:cQ} {w:cJ} (h:Goes P false (eP dr dr (Lv ty Wg)) ConcR.DC0 (D3 P ty Wg) m g w):mD (.wk i 3) (.num m) 1 own rd g w
 |d4 {i m:Nat} {own rd:Nat->Prop} {g:cQ} {w:cJ} (h:Goes P false (eP dr dr (Lv ty Wg)) ConcR.DC0 (D4 P ty Wg) m g w):mD (.wk i 2) (.num m) 1 own rd g w
 |quit {i q d:Nat} {own rd:Nat->Prop} {g:cQ} {w:cJ} (h:QuitsD P q d g):mD (.wk i 1) (.num q) d own rd g w
 |Un {τ:WT} {own rd:Nat->Prop} {sU:iV} {g:cQ} {w:cJ} (hA:Anchor P ty Wg Ch rd sU) (h:Way P false rd (Lv ty Wg) (XC P ty Wg rd sU) τ own g w):mD (.cl .kd) τ 0 own rd g w
 |R7 {τ:WT} {own rd:Nat->Prop} {sU:iV} {g:cQ} {w:cJ} (hA:Anchor P ty Wg Ch rd sU) (h:Way P false rd (Lv ty Wg) (YT P ty Wg Ch rd sU) τ own g w):mD (.cl .w1) τ 1 own rd g w
 |Uo {τ:WT} {own rd:Nat->Prop} {sU:iV} {vs:Nat} {g:cQ} {w:cJ} (hA:Anchor P ty Wg Ch rd sU) (h:Way P false rd (Lv ty Wg) (YS P ty Wg Ch rd sU vs) τ own g w):mD (.cl (.w2 vs)) τ 1 own rd g w
 |Up {τ:WT} {own rd:Nat->Prop} {g:cQ} {w:cJ} (h:Way P false rd (Lv ty Wg) (YR P ty Wg Ch rd) τ own g w):mD (.cl .sw) τ 1 own rd g w
 |R8 {τ:WT} {own rd:Nat->Prop} {g:cQ} {w:cJ} (h:Way P false rd (Lv ty Wg) (WE P ty Wg Ch rd) τ own g w):mD (.cl .w3) τ 1 own rd g w
 |R9 {τ:WT} {own rd:Nat->Prop} {g:cQ} {w:cJ} (h:∀w1,eP own rd (Lv ty Wg) w w1->WE P ty Wg Ch rd own g w1):mD (.cl .blk) τ 1 own rd {g with status:=.blocked} w
 |Uq {τ:WT} {own rd:Nat->Prop} {g:cQ} {w:cJ} (h:Way P false rd (Lv ty Wg) (YQ P ty Wg Ch rd) τ own g w):mD (.cl .w4) τ 1 own rd g w
 |Sa {τ:WT} {own rd:Nat->Prop} {g:cQ} {w:cJ} (h:Way P false rd (Lv ty Wg) (XB P ty Wg Ch rd) τ own g w):mD (.cl .ke) τ 1 own rd g w
 |Ur {τ:WT} {own rd:Nat->Prop} {g:cQ} {w:cJ} (h:Way P false rd (Lv ty Wg) (YP P ty Wg Ch rd) τ own g w):mD (.cl .ac) τ 0 own rd g w
 |Us {τ:WT} {own rd:Nat->Prop} {g:cQ} {w:cJ} (h:Way P false rd (Lv ty Wg) (V9 P Ch) τ own g w):mD (.cl .cl) τ 0 own rd g w
 |RJ {q d:Nat} {own rd:Nat->Prop} {g:cQ} {w:cJ} (h:QuitsD P q d g):mD (.cl .quit) (.num q) d own rd g w
end
section
variable{P:cU}{ty:cR}{Wg Ch n:Nat}{rd0:Nat->Prop}{val:Nat->cK->(Nat->Prop)->cJ->Prop}{End:iV}{ro:eQ}{τ:WT}{d:Nat}{own rd:Nat->Prop}{g:cQ}{w w1:cJ}
theorem _root_.Go.dA.eP.none{own rd:dp}{L:dC}{w w1:cJ}(h:eP own rd L w w1):eP dr dr L w w1:=⟨h.tape,h.os,h.output,h.size,cL,h.live⟩
theorem mD.rely(h:mD P ty Wg Ch n rd0 val End ro τ d own rd g w)(c:eP own rd (Lv ty Wg) w w1):mD P ty Wg Ch n rd0 val End ro τ d own rd g w1:=by
 cases h with
 |old h=>exact .old h
 |skd e h=>exact .skd e (h.rely c)
 |sa1 e h=>exact .sa1 e (h.rely c)
 |Um e h=>exact .Um e (h.rely c)
 |ske e h=>exact .ske e (h.rely c)
 |sgo e h=>exact .sgo e (h.rely c)
 |R4 h=>exact .R4 (h.rely c)
 |src h=>exact .src (h.rely c)
 |Om h=>exact .Om λf i=>h f (c.trans i)
 |sup h=>exact .sup λf i=>h f (c.trans i)
 |R5 h=>exact .R5 (h.rely c)
 |u4 h=>exact .u4 λf i=>h f (c.trans i)
 |r0 h=>exact .r0 (Goes.rely (λ_ _ _ a b=>a.trans b) h c.none)
 |k1 h=>exact .k1 (Goes.rely (λ_ _ _ a b=>a.trans b) h c.none)
 |d1 h=>exact .d1 (Goes.rely (λ_ _ _ a b=>a.trans b) h c.none)
 |d2 h=>exact .d2 (Goes.rely (λ_ _ _ a b=>a.trans b) h c.none)
 |d3 h=>exact .d3 (Goes.rely (λ_ _ _ a b=>a.trans b) h c.none)
 |d4 h=>exact .d4 (Goes.rely (λ_ _ _ a b=>a.trans b) h c.none)
 |quit h=>exact .quit h
 |Un j h=>exact .Un j (h.rely c)
 |R7 j h=>exact .R7 j (h.rely c)
 |Uo j h=>exact .Uo j (h.rely c)
 |Up h=>exact .Up (h.rely c)
 |R8 h=>exact .R8 (h.rely c)
 |R9 h=>exact .R9 λf i=>h f (c.trans i)
 |Uq h=>exact .Uq (h.rely c)
 |Sa h=>exact .Sa (h.rely c)
 |Ur h=>exact .Ur (h.rely c)
 |Us h=>exact .Us (h.rely c)
 |RJ h=>exact .RJ h
end
theorem Way.running{P:cU}{a:Bool}{rd:dp}{L:dC}{S:iV}{τ:WT}{own:dp}{g:cQ}{w:cJ}(b:∀own g w,S own g w->g.status=.running)(h:Way P a rd L S τ own g w):g.status=.running:=by
 cases h with
 |here h=>exact b _ _ _ (h w (.refl _ _ _ _))
 |step c _ _=>grind
section
variable{P:cU}{ty:cR}{Wg Ch n:Nat}{rd0:Nat->Prop}{val:Nat->cK->(Nat->Prop)->cJ->Prop}{End:iV}
theorem ki{z:cK}{S:Nat->Bool}:∀{r:Nat} {own:dp} {g:cQ} {w:cJ},pE P ty Wg Ch n rd0 val End z r S own g w->g.status=.running/\∀w,stepG P true g w=.comm g #[rcase Ch z] true (.recv true) w #[]
 |0,_,_,_,h=>⟨h.1,h.2.1⟩
 |_+1,_,_,_,h=>⟨h.1,h.2.1⟩
def eQ.idle:eQ->Prop
 | .old| .rc _ _ 1| .wk _ 8| .wk _ 1| .cl .blk| .cl .quit=>True
 |_=>False
variable{ro:eQ}{τ:WT}{d:Nat}{own rd:Nat->Prop}{g:cQ}{w w1:cJ}
theorem mD.running(h:mD P ty Wg Ch n rd0 val End ro τ d own rd g w):g.status=.running\/(ro.idle/\(g.status=.blocked\/g.status=.finished)):=by
 cases h with
 |old h=>exact h.status.elim .inl λx=>.inr ⟨trivial,.inr x⟩
 |skd _ h=>exact .inl (Way.running (λ_ _ _ x=>x.1) h)
 |sa1 _ h=>exact .inl (Way.running (λ_ _ _ x=>x.1) h)
 |Um _ h=>exact .inl (Way.running (λ_ _ _ x=>x.1) h)
 |ske _ h=>exact .inl (Way.running (λ_ _ _ x=>x.1) h)
 |sgo _ h=>exact .inl (Way.running (λ_ _ _ x=>x.1) h)
 |R4 h=>exact .inl (Way.running (λ_ _ _ x=>x.1) h)
 |src h=>grind [Way.running,ki]
 |Om h=>exact .inr ⟨trivial,.inl rfl⟩
 |sup h=>grind
 |R5 h=>exact .inl (Way.running (λ_ _ _ ⟨_,_,x⟩=>x.1) h)
 |u4 h=>exact .inr ⟨trivial,.inl rfl⟩
 |r0 h=>exact .inl (Goes.running (λ_ _ x=>x.1) w (.refl _ _ _ _) h)
 |k1 h=>exact .inl (Goes.running (λ_ _ x=>x.1) w (.refl _ _ _ _) h)
 |d1 h=>exact .inl (Goes.running (λ_ _ x=>x.1) w (.refl _ _ _ _) h)
 |d2 h=>exact .inl (Goes.running (λ_ _ x=>x.1) w (.refl _ _ _ _) h)
 |d3 h=>exact .inl (Goes.running (λ_ _ x=>x.1) w (.refl _ _ _ _) h)
 |d4 h=>exact .inl (Goes.running (λ_ _ x=>x.1) w (.refl _ _ _ _) h)
 |quit h=>exact h.status.elim .inl λx=>.inr ⟨trivial,.inr x⟩
 |Un _ h=>exact .inl (Way.running (λ_ _ _ x=>x.1) h)
 |R7 a h=>exact .inl (Way.running (λ_ _ _ x=>x.1) h)
 |Uo a h=>exact .inl (Way.running (λ_ _ _ x=>x.1) h)
 |Up h=>exact .inl (Way.running (λ_ _ _ x=>x.1) h)
 |R8 h=>exact .inl (Way.running (λ_ _ _ x=>x.1) h)
 |R9 h=>exact .inr ⟨trivial,.inl rfl⟩
 |Uq h=>exact .inl (Way.running (λ_ _ _ x=>x.1) h)
 |Sa h=>exact .inl (Way.running (λ_ _ _ x=>x.1) h)
 |Ur h=>exact .inl (Way.running (λ_ _ _ x=>x.1) h)
 |Us h=>exact .inl (Way.running (λ_ _ _ x=>x.1) h)
 |RJ h=>exact h.status.elim .inl λx=>.inr ⟨trivial,.inr x⟩
def qe(b:Bool):eQ->eQ
 | .cl .blk=>if b then .cl .w3 else .cl .blk
 |r=>r
def lU(P:cU)(g a:cQ):Bool:=mayWake P g&&a.status != .blocked&&a.status != .waiting
theorem FV(g a o:cQ)(w':cJ):woken P g a w' o=if lU P g a then o.again w' else o:=by unfold woken lU;rfl
theorem mD.again(h:mD P ty Wg Ch n rd0 val End ro τ d own rd g w)(b:Bool){s:Nat}{c:Bool}(k:w.heap[Ch]? =some (.chan 0 #[] c s s false))(m:c=true->(∀r S,ro≠ .rc r S 1)/\∀i,ro≠ .wk i 8):
 mD P ty Wg Ch n rd0 val End (qe b ro) τ d own rd (if b then g.again w else g) w:=by
 cases b with
 |false=>
  simp only[iR,fq];have:qe false ro=ro:=by grind [qe]
  grind
 |true=>
  simp only[em];have a:g.status=.running\/g.status=.finished->qe true ro=ro->mD P ty Wg Ch n rd0 val End (qe true ro) τ d own rd (g.again w) w:=λf e=>by grind [again_running]
  obtain f|⟨j,f⟩:=h.running;refine a (.inl f) ?_;cases h with
  |R9 h=>grind
  |_=>rfl
  cases h with
  |old h=>exact a (.inr (f.resolve_left (by obtain x|x:=h.status<;>rw[x]<;>simp))) rfl
  |Om h=>
   cases c with
   |true=>grind
   |false=>rw[again_recv_open k];exact .Om h
  |u4 h=>
   cases c with
   |true=>grind
   |false=>rw[again_send_open k];exact .u4 h
  |quit h=>exact a (.inr (f.resolve_left (by obtain x|x:=h.status<;>rw[x]<;>simp))) rfl
  |R9 h=>
   have l:=h w (.refl _ _ _ _);rw[Go.ConcR.again_blocked l.1 l.2.1];exact .R8 (.here h)
  |RJ h=>exact a (.inr (f.resolve_left (by obtain x|x:=h.status<;>rw[x]<;>simp))) rfl
  |_=>exact j.elim
end
section
variable(P:cU)(ty:cR)(Wg Ch n:Nat)(rd0:Nat->Prop)(val:Nat->cK->(Nat->Prop)->cJ->Prop)(End:iV)(w0:cJ)(B0 m0:Nat)
structure Com(ro:Nat->eQ)(rk:Nat->WT)(dd:Nat->Nat)(G:Gh)(cl:Bool)(gs:Array cQ)(w:cJ)(t:Trace):Prop where
 sit:∀(k:Nat) (g:cQ),gs[k]? =some g->mD P ty Wg Ch n rd0 val End (ro k) (rk k) (dd k) (G.own k) (G.rd k) g w
 kn:Kn.gF G w.heap.size t
 fits:G.Fits w.heap.size
 deaf:∀k,Deaf t k=dd k
 above:∀k,gs.size<=k->dd k=0
 wg:∀b,G.wg b↔b=Wg\/b=Ch
 off:∀k b,G.own k b\/G.rd k b->b≠Ch
 wgch:Wg≠Ch
 wglow:Wg<w.heap.size
 gsz:∀i k,G.t0<=i->t.g? i=some k->k<gs.size
 new:∀k b,G.own k b->B0<=b
 base:∀b,b<B0->b≠Wg->b≠Ch->w.heap[b]? =w0.heap[b]?
 grown:B0<=w.heap.size
 world:w.tape=w0.tape/\w.os=w0.os/\w.output=w0.output
 live:Lv ty Wg w
 ch:∃s,w.heap[Ch]? =some (.chan 0 #[] cl s s false)
end
section
variable{P:cU}{ty:cR}{Wg Ch n:Nat}{rd0:Nat->Prop}{val:Nat->cK->(Nat->Prop)->cJ->Prop}{End:iV}{w0:cJ}{B0 m0:Nat} {ro:Nat->eQ}{rk:Nat->WT}{dd:Nat->Nat}{G:Gh}{cl:Bool}{gs:Array cQ}{w w':cJ}{t:Trace}
structure zW(Wg:Nat)(own:Nat->Prop)(w w':cJ):Prop where
 tape:w'.tape=w.tape
 os:w'.os=w.os
 output:w'.output=w.output
 size:w.heap.size<=w'.heap.size
 same:∀b,b<w.heap.size->¬own b->b≠Wg->w'.heap[b]? =w.heap[b]?
theorem Com.Vh(h:Com P ty Wg Ch n rd0 val End w0 B0 ro rk dd G cl gs w t){k:Nat}(c:zW Wg (G.own k) w w')(g:Lv ty Wg w'){x:Nat}(e:x≠k):eP (G.own x) (G.rd x) (Lv ty Wg) w w':=by refine⟨c.tape,c.os,c.output,c.size,λb f a=>c.same b f (λd=>?_) ?_,cL⟩;obtain a|a:=a;exact e (h.fits.one _ _ _ a d);exact h.fits.still _ _ _ d a;rintro rfl;obtain a|a:=a;exact h.fits.ownwg _ _ a ((h.wg _).2 (.inl rfl));exact h.fits.rdwg _ _ a ((h.wg _).2 (.inl rfl))
theorem Com.go(h:Com P ty Wg Ch n rd0 val End w0 B0 ro rk dd G cl gs w t){k:Nat}{g p:cQ}{j:Array Event}{r':eQ}{τ':WT}(T:gs[k]? =some g) (U:cl=true->∀x,x<gs.size->(∀r S,ro x≠ .rc r S 1)/\∀i,ro x≠ .wk i 8) (c:zW Wg (G.own k) w w')(B:Lv ty Wg w')(H:oE G k (dd k) w.heap.size w'.heap.size j)(C:G.done k->w'.heap.size=w.heap.size) (I:mD P ty Wg Ch n rd0 val End r' τ' (deafBehind (dd k) j) ((G.grow k w.heap.size w'.heap.size).own k) (G.rd k) p w'):
 Com P ty Wg Ch n rd0 val End w0 B0 (upd (λx=>qe (lU P g p) (ro x)) k r') (upd rk k τ') (upd dd k (deafBehind (dd k) j)) (G.grow k w.heap.size w'.heap.size) cl
  ((gs.map (woken P g p w')).setIfInBounds k p) w' (t++MemOp.ofEvents k g.frame.fn g.frame.place j):=by
 have J:k<gs.size:=cL;have⟨s,u⟩:=h.ch;have d:w'.heap[Ch]? =some (.chan 0 #[] cl s s false):=by rw[c.same Ch (lt_of_heap u) (λx=>h.off k _ (.inl x) rfl) (jg h.wgch)];grind
 have K:∀v∈MemOp.ofEvents k g.frame.fn g.frame.place j,v.g=k:=λv f=>by obtain⟨e,_,rfl⟩:=Go.Conc.mem_ofEvents f;rfl
 refine⟨λx o q=>?_,h.kn.step h.fits c.size C (by rw[h.deaf];grind),h.fits.grow c.size k C,λx=>?_,λx D=>?_,h.wg,λx b a=>?_,h.wgch,ew h.wglow c.size,λi x L D=>?_,λx b a=>?_,λb a E M=>?_,du h.grown c.size,
  ⟨c.tape.trans h.world.1,c.os.trans h.world.2.1,c.output.trans h.world.2.2⟩,B,⟨s,d⟩⟩
 by_cases e:x=k;subst e;rw[ou cL]at q;obtain rfl:=dT q;rw[upd_same,upd_same,upd_same];exact I;rw[gd (jg e),vN]at q;obtain⟨y,N,rfl⟩:=iU.1 q;rw[upd_ne _ _ e,upd_ne _ _ e,upd_ne _ _ e,FV];have O:(G.grow k w.lG w'.lG).own x=G.own x:=by funext b;apply propext;exact⟨λa=>a.elim id cL,.inl⟩
 rw[O];exact((h.sit x y N).rely (h.Vh c B e)).again _ d cL;by_cases e:x=k;subst e;rw[Deaf_own,h.deaf,upd_same];rw[Deaf_other t (jg e) _ K,h.deaf,upd_ne _ _ e];have z:gs.size<=x:=cL;rw[upd_ne _ _ cM];exact h.above x z;obtain(a|⟨_,l,Q⟩)|a:=a;exact h.off x b (.inl a);grind;exact h.off x b (.inr a);have⟨v,f,A⟩:=iU.1 D;obtain⟨R,m⟩|⟨_,F⟩:=getElem?_append_cases f;have:=h.gsz i x L (by simp[Trace.g?,m,A]);grind;grind;obtain a|⟨_,l,_⟩:=a;exact h.new x b a;exact du h.grown l;rw[c.same b (ew a h.grown) (λx=>iI (h.new k b x)) E];exact h.base b a E M
end
def kQ:eQ->Nat
 | .wk _ s=>s
 |_=>0
def cnt(s:Nat):Nat:=if 5<=s then 1 else 0
def V(n m0:Nat)(ro:Nat->eQ):Nat:=sumTo n λi=>cnt (kQ (ro (m0+i)))
def Sg(n m0:Nat)(ro:Nat->eQ):Nat:=sumTo n λi=>kQ (ro (m0+i))
def pend:eQ->Nat
 | .st _ s=>if s<=4 then 1 else 0
 |_=>0
def isOpen:eQ->Prop
 | .none| .cl .kd| .cl .w1| .cl (.w2 _)=>True
 |_=>False
def isW3:eQ->Prop
 | .cl .sw| .cl .w3| .cl .blk=>True
 |_=>False
def isFin:eQ->Prop
 | .cl .w4| .cl .ke| .cl .ac| .cl .cl| .cl .quit=>True
 |_=>False
def OpenSt(n m0:Nat)(ro:Nat->eQ):Prop:=∀i,i<n->kQ (ro (m0+i))=0\/5<=kQ (ro (m0+i))\/kQ (ro (m0+i))=1
def AllQuit(n m0:Nat)(ro:Nat->eQ):Prop:=∀i,i<n->kQ (ro (m0+i))=1
inductive Mode (n m0:Nat) (ro:Nat->eQ):Int->Int->Prop
 |opn:isOpen (ro (m0+n))->OpenSt n m0 ro->(∀vs,ro (m0+n)=.cl (.w2 vs)->V n m0 ro<=vs/\1<=vs)->Mode n m0 ro (((V n m0 ro+pend (ro 0):Nat):Int)*KK) 0
 |reg:isW3 (ro (m0+n))->OpenSt n m0 ro->1<=V n m0 ro->Mode n m0 ro (((V n m0 ro:Nat):Int)*KK+1) 0
 |last (L:Nat):isW3 (ro (m0+n))->L<n->(kQ (ro (m0+L))=4\/kQ (ro (m0+L))=3\/kQ (ro (m0+L))=2)->(∀i,i<n->i≠L->kQ (ro (m0+i))=1)->Mode n m0 ro (if kQ (ro (m0+L))=2 then 0 else 1) 0
 |sema:(ro (m0+n)=.cl .sw\/ro (m0+n)=.cl .w3)->AllQuit n m0 ro->Mode n m0 ro 0 1
 |fin:isFin (ro (m0+n))->AllQuit n m0 ro->Mode n m0 ro 0 0
inductive Wa (n m0:Nat) (ro:Nat->eQ) (cl:Bool) (size:Nat):Prop
 |st (r s:Nat) (h0:ro 0=.st r s) (hs:2<=s/\s<=6) (hr:r<n) (hc:ro (m0+n)=.none) (hz:size=m0+(n-(r+1))) (hw:∀i,i<n-(r+1)->∃s,ro (m0+i)=.wk i s/\(s=9\/s=8)) (hn:∀i,n-(r+1)<=i->i<n->ro (m0+i)=.none)
 |uC (h0:ro 0=.uC) (hc:ro (m0+n)=.none) (hz:size=m0+n) (hw:∀i,i<n->∃s,ro (m0+i)=.wk i s/\(s=9\/s=8))
 |rc (r:Nat) (S:Nat->Bool) (s:Nat) (h0:ro 0=.rc r S s) (hc:∃c,ro (m0+n)=.cl c) (hz:size=m0+n+1) (hw:∀i,i<n->∃s,ro (m0+i)=.wk i s/\1<=s/\s<=9/\(S i=true↔s<=7))
  (hS:r+sumTo n (λi=>if S i then 1 else 0)=n) (hs:s=2\/(s=1/\cl=false/\∀i,i<n->kQ (ro (m0+i))≠8))
def sayOf(m0 n:Nat):eQ->Nat
 | .none=>0
 |_=>m0+n
structure Pl(n m0:Nat)(ro:Nat->eQ)(cl:Bool)(G:Gh)(size:Nat)(st sm:Int):Prop where
 pos:0<m0
 lay:Wa n m0 ro cl size
 old:∀k,0<k->k<m0->ro k=.old
 clq:cl=true↔ro (m0+n)=.cl .quit
 mode:Mode n m0 ro st sm
 usr:∀k,G.user k↔k=0\/(m0<=k/\k<size)
 say:G.sayer=sayOf m0 n (ro (m0+n))
 done:∀k,G.done k↔(0<k/\k<m0)\/∃i s,ro k=.wk i s/\s<=7
def u5(n:Nat):eQ->Nat
 | .st r s=>12*n+64+20*(r+1)+s
 | .uC=>12*n+64
 | .rc r _ s=>4*r+s
 |_=>0
def qf(n v:Nat):eQ->Nat
 | .cl .kd=>8*n+9
 | .cl .w1=>8*v+7
 | .cl (.w2 a)=>8*a+6
 | .cl .sw=>9
 | .cl .w3=>8
 | .cl .blk=>8
 | .cl .w4=>7
 | .cl .ke=>6
 | .cl .ac=>5
 | .cl .cl=>4
 | .cl .quit=>1
 |_=>0
def IT:eQ->Nat
 | .cl .w3=>1
 |_=>0
def meas(n m0:Nat)(ro:Nat->eQ):Nat:=u5 n (ro 0)+Sg n m0 ro+qf n (V n m0 ro) (ro (m0+n))
def Ml(n:Nat){v a:Nat}(h:a<=v)(r:eQ):qf n a r<=qf n v r:=by unfold qf;grind
theorem pF(b:Bool)(r:eQ):kQ (qe b r)=kQ r:=by unfold qe;split;cases b<;>rfl;rfl
def OT(n:Nat)(b:Bool)(r:eQ):u5 n (qe b r)=u5 n r:=by unfold qe;split;cases b<;>rfl;rfl
def OU(n v:Nat)(b:Bool)(r:eQ):qf n v (qe b r)=qf n v r:=by unfold qe;split;cases b<;>rfl;rfl
theorem rD(b:Bool)(r:eQ):qe b r=r\/(b=true/\r=.cl .blk/\qe b r=.cl .w3):=by unfold qe;grind
theorem xh{b:Bool}{r:eQ}(h:r≠ .cl .blk):qe b r=r:=(rD b r).resolve_right cL
def Vi(b:Bool)(r:eQ)(i s:Nat):qe b r=.wk i s↔r=.wk i s:=by grind [rD]
section
variable{n m0:Nat}{ro:Nat->eQ}{cl:Bool}{G:Gh}{size:Nat}{st sm:Int}
def Cz(b:Bool):V n m0 (λx=>qe b (ro x))=V n m0 ro:=sumTo_congr λi _=>by simp only[pF]
def Vj(b:Bool):Sg n m0 (λx=>qe b (ro x))=Sg n m0 ro:=sumTo_congr λi _=>by simp only[pF]
def vX(b:Bool):meas n m0 (λx=>qe b (ro x))=meas n m0 ro:=by unfold meas;rw[Cz,Vj,OT,OU]
def Pl.Sd(h:Pl n m0 ro cl G size st sm)(b:Bool):Pl n m0 (λx=>qe b (ro x)) cl G size st sm:=by
 refine⟨h.pos,?_,λk c a=>by simp only[h.old k c a];rfl,?_,?_,h.usr,?_,λk=>?_⟩;cases h.lay with
 |st r s f m t l g j u=>
  exact .st r s (by simp only[f];rfl) m t (by simp only[l];rfl) g (λi d=>let⟨s,c,a⟩:=j i d;⟨s,by simp only[c];rfl,a⟩) (λi c a=>by simp only[u i c a];rfl)
 |uC f l g j=>exact .uC (by simp only[f];rfl) (by simp only[l];rfl) g (λi d=>let⟨s,c,a⟩:=j i d;⟨s,by simp only[c];rfl,a⟩)
 |rc r S s f l g j v m=>
  refine .rc r S s (by simp only[f];rfl) ?_ g (λi d=>let⟨s,c,a⟩:=j i d;⟨s,by simp only[c];rfl,a⟩) v (m.imp id λ⟨x,y,z⟩=>⟨x,y,λi d=>by grind [pF]⟩);grind [rD]
 rw[h.clq];grind [rD];have o:OpenSt n m0 ro->OpenSt n m0 (λx=>qe b (ro x)):=λh i d=>by simp only[pF];exact h i d
 have p:AllQuit n m0 ro->AllQuit n m0 (λx=>qe b (ro x)):=λh i d=>by simp only[pF];exact h i d
 cases h.mode with
 |opn c a q=>
  have e:qe b (ro (m0+n))=ro (m0+n):=xh λe=>by rw[e]at c;exact c
  have:=Mode.opn (n:=n) (m0:=m0) (ro:=λx=>qe b (ro x)) cL (o a) (λA B=>by rw[Cz];grind);rw[Cz]at this;grind [rD,pend,qe]
 |reg c a q=>
  have:=Mode.reg (n:=n) (m0:=m0) (ro:=λx=>qe b (ro x)) (by obtain e|⟨_,_,e⟩:=rD b (ro (m0+n));grind;(try simp only);rw[e];trivial) (o a) (by rw[Cz];grind);rw[Cz]at this;grind
 |last L c a q C=>
  have:=Mode.last (n:=n) (m0:=m0) (ro:=λx=>qe b (ro x)) L (by obtain e|⟨_,_,e⟩:=rD b (ro (m0+n));grind;(try simp only);rw[e];trivial) a (by grind [pF]) (λi d D=>by grind [pF]);grind [pF]
 |sema c a=>exact .sema (by grind [qe]) (p a)
 |fin c a=>
  refine .fin ?_ (p a);have e:qe b (ro (m0+n))=ro (m0+n):=xh λe=>by rw[e]at c;exact c
  grind
 rw[h.say];obtain e|⟨_,w,e⟩:=rD b (ro (m0+n));grind;rw[e,w];rfl;rw[h.done];simp only[Vi]
def Pl.lt_size(h:Pl n m0 ro cl G size st sm){k:Nat}(o:k<size):k=0\/(0<k/\k<m0)\/(∃i s,i<n/\k=m0+i/\ro k=.wk i s/\1<=s/\s<=9)\/(k=m0+n/\∃c,ro k=.cl c):=by
 obtain rfl|p:=nt k;grind;obtain b|b:=gC k m0;grind;obtain⟨i,rfl⟩:=Nat.exists_eq_add_of_le b;cases h.lay with
 |st r s d g q e f a t=>
  have⟨s,j,l⟩:=a i cM;grind
 |uC d e f a=>
  have⟨s,j,l⟩:=a i cM;grind
 |rc r S s d e f a u g=>
  obtain m|m:=gC i n;grind;grind
end
section
variable{n m0:Nat}{ro:Nat->eQ}{cl:Bool}{G:Gh}{size:Nat}{st sm:Int}{r':eQ}
theorem tZ(ro:Nat->eQ)(m0 i:Nat)(x:eQ)(a:Nat):upd ro (m0+i) x (m0+a)=upd (λa=>ro (m0+a)) i x a:=by unfold upd;grind
theorem OV(i:Nat)(b:i<n)(x:eQ):V n m0 (upd ro (m0+i) x)+cnt (kQ (ro (m0+i)))=V n m0 ro+cnt (kQ x):=by have:=sumTo_upd (λa=>ro (m0+a)) x (λr=>cnt (kQ r)) b;grind [tZ,V]
def Ut(i:Nat)(b:i<n)(x:eQ):Sg n m0 (upd ro (m0+i) x)+kQ (ro (m0+i))=Sg n m0 ro+kQ x:=by have:=sumTo_upd (λa=>ro (m0+a)) x kQ b;grind [tZ,Sg]
theorem qM{k:Nat}(a:k<m0\/m0+n<=k)(x:eQ):V n m0 (upd ro k x)=V n m0 ro:=sumTo_congr λi b=>by grind [upd_ne]
theorem sV{k:Nat}(a:k<m0\/m0+n<=k)(x:eQ):Sg n m0 (upd ro k x)=Sg n m0 ro:=sumTo_congr λi b=>by grind [upd_ne]
theorem qN{a:Type}(f:Nat->a)(k:Nat):upd f k (f k)=f:=by grind [upd]
theorem OW(n m0:Nat)(ro:Nat->eQ):V n m0 ro<=n:=by
 have:=sumTo_le (f:=λi=>cnt (kQ (ro (m0+i)))) (c:=1) (j:=n) λi _=>by grind [cnt]
 grind [V]
theorem OX{i:Nat}(a:i<n)(h:5<=kQ (ro (m0+i))):1<=V n m0 ro:=by have:=le_sumTo (f:=λi=>cnt (kQ (ro (m0+i)))) a;simp only[V];simp only[cnt,cV h]at this;exact this
def oG(a:0<m0)(h:u5 n r'<u5 n (ro 0)):meas n m0 (upd ro 0 r')<meas n m0 ro:=by grind [qM,sV,upd_same,upd_ne,meas]
def nV(b:0<m0){i:Nat}(a:i<n)(c:kQ r'<kQ (ro (m0+i))):meas n m0 (upd ro (m0+i) r')<meas n m0 ro:=by
 unfold meas;have d:=OV (ro:=ro) (m0:=m0) i a r';have e:=Ut (ro:=ro) (m0:=m0) i a r';rw[upd_ne ro r' (show 0≠m0+i by omega),upd_ne ro r' (show m0+n≠m0+i by omega)];have f:cnt (kQ r')<=cnt (kQ (ro (m0+i))):=by simp only[cnt];split<;>split<;>omega
 have:=Ml n (show V n m0 (upd ro (m0+i) r')<=V n m0 ro by omega) (ro (m0+n));omega
def mZ(a:0<m0)(h:qf n (V n m0 ro) r'<qf n (V n m0 ro) (ro (m0+n))):meas n m0 (upd ro (m0+n) r')<meas n m0 ro:=by unfold meas;rw[qM cM,sV cM,upd_same,upd_ne ro r' cM];omega
def Mode.zero(f:0<m0)(h:Mode n m0 ro st sm)(g:pend r'=pend (ro 0)):Mode n m0 (upd ro 0 r') st sm:=by
 have j:upd ro 0 r' (m0+n)=ro (m0+n):=upd_ne ro r' cM;have c:∀i,upd ro 0 r' (m0+i)=ro (m0+i):=λi=>upd_ne ro r' cM;have k:V n m0 (upd ro 0 r')=V n m0 ro:=qM (.inl f) r';cases h with
 |opn d a e=>
  have:=Mode.opn (n:=n) (m0:=m0) (ro:=upd ro 0 r') cL (λi b=>by rw[c];exact a i b) cL;grind [upd_same]
 |reg d a e=>
  have:=Mode.reg (n:=n) (m0:=m0) (ro:=upd ro 0 r') cL (λi b=>by rw[c];exact a i b) cL;grind
 |last L d a e l=>
  have:=Mode.last (n:=n) (m0:=m0) (ro:=upd ro 0 r') L cL a cL cL;grind
 |sema d a=>exact .sema cL λi b=>by rw[c];exact a i b
 |fin d a=>exact .fin cL λi b=>by rw[c];exact a i b
def Pl.zero(h:Pl n m0 ro cl G size st sm)(d:Wa n m0 (upd ro 0 r') cl size)(j:∀i s,r'≠ .wk i s)(l:∀i s,ro 0≠ .wk i s){a b:Int}(e:Mode n m0 (upd ro 0 r') a b):Pl n m0 (upd ro 0 r') cl G size a b:=by have c:upd ro 0 r' (m0+n)=ro (m0+n):=upd_ne ro r' (iI h.pos);refine⟨h.pos,d,λk f g=>by rw[upd_ne ro r' cM];exact h.old k f g,by rw[c];exact h.clq,e,h.usr,by rw[c];exact h.say,λk=>?_⟩;rw[h.done];refine or_congr qF ?_;grind [upd_same,upd_ne]
def Pl.OY(h:Pl n m0 ro cl G size st sm){r s a:Nat}(f:ro 0=.st r s)(g:2<=a/\a<=6):Wa n m0 (upd ro 0 (.st r a)) cl size:=by
 have o:=h.pos;cases h.lay with
 |st j k b l m d c e p=>
  rw[f]at b;cases b;exact .st r a (upd_same _ _ _) g m (by grind [upd_ne]) c (λi q=>by grind [upd_ne]) (λi t u=>by grind [upd_ne])
 |uC b d c e=>grind
 |rc j S k b d c e v l=>grind
def Pl.DZ(h:Pl n m0 ro cl G size st sm){r s a:Nat}(b:ro 0=.st r s)(c:2<=a/\a<=6)(d:s<=4↔a<=4):Pl n m0 (upd ro 0 (.st r a)) cl G size st sm:=
 h.zero (h.OY b c) dq cL (h.mode.zero h.pos (by grind [pend]))
def Pl.D5(h:Pl n m0 ro cl G size st sm){r s:Nat}(i:ro 0=.st r s):ro (m0+n)=.none/\r<n/\size=m0+(n-(r+1)):=by
 cases h.lay with
 |st e f a g j b c d k=>grind
 |uC a b c d=>grind
 |rc e S f a b c d l g=>grind
def Pl.IU(h:Pl n m0 ro cl G size st sm){r s':Nat}(c:ro 0=.st r 5)(g:s'=4\/s'=3):st=((V n m0 ro:Nat):Int)*KK/\sm=0/\Pl n m0 (upd ro 0 (.st r s')) cl G size (((V n m0 ro:Nat)+1:Int)*KK) 0:=by
 have b:=(h.D5 c).1;have j:=h.pos;cases s:h.mode with
 |opn a k l=>
  rw[c];refine⟨by simp[pend],rfl,h.zero (h.OY c cM) dq (by simp[c]) ?_⟩;have d:upd ro 0 (eQ.st r s') (m0+n)=ro (m0+n):=upd_ne ro _ cM;have m:∀i,upd ro 0 (eQ.st r s') (m0+i)=ro (m0+i):=λi=>upd_ne ro _ cM;have e:V n m0 (upd ro 0 (eQ.st r s'))=V n m0 ro:=qM (.inl j) _;have:=Mode.opn (n:=n) (m0:=m0) (ro:=upd ro 0 (eQ.st r s')) (by rw[d];omega) (λi o=>by rw[m];exact k i o) (λp f=>by rw[e];rw[d]at f;exact l p f);rw[e,upd_same]at this;have q:pend (eQ.st r s')=1:=by obtain rfl|rfl:=g<;>rfl
  rw[q]at this;simpa using this
 |reg a _ _=>rw[b]at a;exact a.elim
 |last L a _ _ _=>rw[b]at a;exact a.elim
 |sema a _=>grind
 |fin a _=>rw[b]at a;exact a.elim
def qh:Nat->eQ
 |0=>.uC
 |r+1=>.st r 6
def Pl.spawn{G':Gh}(h:Pl n m0 ro cl G size st sm){r:Nat}(j:ro 0=.st r 2)(E:∀k,G'.user k↔G.user k\/k=size)(q:G'.sayer=G.sayer)(F:G'.done=G.done):Pl n m0 (upd (upd ro size (.wk (n-(r+1)) 9)) 0 (qh r)) cl G' (size+1) st sm/\meas n m0 (upd (upd ro size (.wk (n-(r+1)) 9)) 0 (qh r))<meas n m0 ro:=by
 have t:=h.pos;cases h.lay with
 |uC d c u o=>rw[j]at d;cases d
 |rc H S I d c u o N J=>rw[j]at d;cases d
 |st H I d J O c u o B=>
 rw[j]at d;cases d;generalize l:qh r=x;have v:∀i s,x≠ .wk i s:=by subst l;cases r<;>simp[qh]
 subst u;have w:n-(r+1)<n:=cM;have A:ro (m0+(n-(r+1)))=.none:=B _ (di _) w;have b:∀i,upd (upd ro (m0+(n-(r+1))) (eQ.wk (n-(r+1)) 9)) 0 x (m0+i)=if i=n-(r+1)then eQ.wk (n-(r+1)) 9 else ro (m0+i):=by intro i;rw[upd_ne _ _ cM,tZ];rfl
 have f:upd (upd ro (m0+(n-(r+1))) (eQ.wk (n-(r+1)) 9)) 0 x (m0+n)=.none:=by rw[b,cS cM];exact c
 have C:V n m0 (upd (upd ro (m0+(n-(r+1))) (eQ.wk (n-(r+1)) 9)) 0 x)=V n m0 ro+1:=by rw[qM (.inl t)];have:=OV (ro:=ro) (m0:=m0) (n-(r+1)) w (.wk (n-(r+1)) 9);rw[A]at this;simpa[kQ,cnt]using this
 have K:Sg n m0 (upd (upd ro (m0+(n-(r+1))) (eQ.wk (n-(r+1)) 9)) 0 x)=Sg n m0 ro+9:=by rw[sV (.inl t)];have:=Ut (ro:=ro) (m0:=m0) (n-(r+1)) w (.wk (n-(r+1)) 9);rw[A]at this;simpa[kQ]using this
 refine⟨⟨t,?_,λk a m=>by rw[upd_ne _ _ cM,upd_ne _ _ cM];exact h.old k a m,?_,?_,λk=>?_,?_,λk=>?_⟩,?_⟩;cases r with
 |zero=>
  subst l;refine .uC (upd_same _ _ _) f cM λi g=>?_;rw[b];split;rename_i e;subst e;exact⟨9,rfl,.inl rfl⟩;exact o i cM
 |succ r=>
  subst l;refine .st r 6 (upd_same _ _ _) cM cM f cM (λi g=>?_) λi a m=>?_;rw[b];split;rename_i e;subst e;exact⟨9,rfl,.inl rfl⟩;exact o i cM;rw[b,cS cM];exact B i cM m
 rw[f,h.clq,c];cases P:h.mode with
 |opn a m Q=>
  have:=Mode.opn (n:=n) (m0:=m0) (ro:=upd (upd ro (m0+(n-(r+1))) (eQ.wk (n-(r+1)) 9)) 0 x) (by rw[f];trivial) (λi g=>by rw[b];split;exact .inr (.inl (by simp[kQ]));exact m i g) (λR D=>by rw[f]at D;cases D);rw[C,upd_same]at this;have M:pend x=0:=by subst l;cases r<;>rfl
  have p:pend (ro 0)=1:=by rw[j];rfl
  rw[M]at this;rw[p];simpa using this
 |reg a _ _=>rw[c]at a;exact a.elim
 |last L a _ _ _=>rw[c]at a;exact a.elim
 |sema a _=>rw[c]at a;obtain a|a:=a<;>cases a
 |fin a _=>rw[c]at a;exact a.elim
 rw[E,h.usr];omega;rw[f,q,h.say,c];rw[F,h.done];refine or_congr qF ?_;by_cases e:k=0;subst e;rw[upd_same,j];exact⟨λ⟨i,s,y,_⟩=>(nomatch y),λ⟨i,s,y,_⟩=>absurd y (v i s)⟩;rw[upd_ne _ _ e];by_cases p:k=m0+(n-(r+1));subst p;rw[upd_same,A];exact⟨λ⟨i,s,y,_⟩=>(nomatch y),λ⟨i,s,y,z⟩=>by cases y;omega⟩;rw[upd_ne _ _ p];unfold meas;rw[C,K,f,upd_same,c,j];subst l;cases r<;>simp[qh,u5,qf]<;>omega
end
section
variable{n m0:Nat}{ro:Nat->eQ}{cl:Bool}{G:Gh}{size:Nat}{st sm:Int}{r':eQ}
theorem u6:∀n,sumTo n (λ_=>0)=0
 |0=>rfl
 |n+1=>by simp[sumTo,u6 n]
theorem CB:∀n,sumTo n (λ_=>1)=n
 |0=>rfl
 |n+1=>by simp[sumTo,CB n]
theorem KG{s:Nat}(h:5<=s):cnt s=1:=cV h
theorem D8{s:Nat}(h:¬5<=s):cnt s=0:=cS h
def Pl.Vk{G':Gh}(h:Pl n m0 ro cl G size st sm)(r:ro 0=.uC)(s:∀k,G'.user k↔G.user k\/k=size)(c:G'.sayer=m0+n)(t:G'.done=G.done):
 size=m0+n/\Pl n m0 (upd (upd ro (m0+n) (.cl .kd)) 0 (.rc n (λ_=>false) 2)) cl G' (m0+n+1) st sm/\
  meas n m0 (upd (upd ro (m0+n) (.cl .kd)) 0 (.rc n (λ_=>false) 2))<meas n m0 ro:=by
 have d:=h.pos;cases h.lay with
 |st u v o w y b e p z=>grind
 |rc u S v o b e p A w=>grind
 |uC o b e p=>
 subst e;have f:∀i,i<n->upd (upd ro (m0+n) (eQ.cl .kd)) 0 (.rc n (λ_=>false) 2) (m0+i)=ro (m0+i):=by grind [upd_ne]
 have g:upd (upd ro (m0+n) (eQ.cl .kd)) 0 (.rc n (λ_=>false) 2) (m0+n)=.cl .kd:=by grind [upd_ne,upd_same]
 have x:V n m0 (upd (upd ro (m0+n) (eQ.cl .kd)) 0 (.rc n (λ_=>false) 2))=V n m0 ro:=by rw[qM (.inl d),qM (.inr (di _))]
 have B:Sg n m0 (upd (upd ro (m0+n) (eQ.cl .kd)) 0 (.rc n (λ_=>false) 2))=Sg n m0 ro:=by rw[sV (.inl d),sV (.inr (di _))]
 have q:cl=false:=by
  cases j:cl with
  |false=>rfl
  |true=>have:=h.clq.1 j;grind
 refine⟨rfl,⟨d,.rc n (λ_=>false) 2 (upd_same _ _ _) ⟨_,g⟩ rfl (λi l=>?_) (by grind [u6]) (.inl rfl),λk a m=>by rw[upd_ne _ _ cM,upd_ne _ _ cM];exact h.old k a m,cL,?_,λk=>by rw[s,h.usr];omega,by rw[g];exact c,λk=>?_⟩,?_⟩;grind;cases C:h.mode with
 |opn a m D=>
  have:=Mode.opn (n:=n) (m0:=m0) (ro:=upd (upd ro (m0+n) (eQ.cl .kd)) 0 (.rc n (λ_=>false) 2)) (by rw[g];trivial) (λi l=>by rw[f i l];exact m i l) (λE F=>XR);rw[x,upd_same]at this;rw[r];exact this
 |reg a _ _=>rw[b]at a;exact a.elim
 |last L a _ _ _=>rw[b]at a;exact a.elim
 |sema a _=>grind
 |fin a _=>rw[b]at a;exact a.elim
 rw[t,h.done];refine or_congr qF ?_;grind [upd_same,upd_ne];grind [upd_same,meas,u5,qf]
def Mode.counted(j:0<m0)(k:Mode n m0 ro st sm){i:Nat}(d:i<n)(l:5<=kQ (ro (m0+i)))(m:5<=kQ r'):Mode n m0 (upd ro (m0+i) r') st sm:=by
 have p:V n m0 (upd ro (m0+i) r')=V n m0 ro:=by have:=OV (ro:=ro) (m0:=m0) i d r';simp only[cnt,cV l,cV m]at this;omega
 have q:upd ro (m0+i) r' 0=ro 0:=upd_ne ro r' cM;have r:upd ro (m0+i) r' (m0+n)=ro (m0+n):=upd_ne ro r' cM;have f:OpenSt n m0 ro->OpenSt n m0 (upd ro (m0+i) r'):=λh a o=>by by_cases e:a=i;grind [upd_same];rw[upd_ne ro r' cM];exact h a o
 cases k with
 |opn c b g=>
  have:=Mode.opn (n:=n) (m0:=m0) (ro:=upd ro (m0+i) r') cL (f b) cL;grind
 |reg c b g=>
  have:=Mode.reg (n:=n) (m0:=m0) (ro:=upd ro (m0+i) r') cL (f b) cM;grind
 |last L c b g s=>
  grind
 |sema c b=>have:=b i d;omega
 |fin c b=>have:=b i d;omega
theorem Wa.wk(h:Wa n m0 ro cl size)(v:0<m0){i s b:Nat}(w:i<n)(e:ro (m0+i)=.wk i s)(A:(s=9/\b=8/\(∀r S,ro 0≠ .rc r S 1))\/(s<=7/\1<=b/\b<=7)):Wa n m0 (upd ro (m0+i) (.wk i b)) cl size:=by
 have j:upd ro (m0+i) (eQ.wk i b) 0=ro 0:=upd_ne ro _ cM;have o:upd ro (m0+i) (eQ.wk i b) (m0+n)=ro (m0+n):=upd_ne ro _ cM;have q:∀a,upd ro (m0+i) (eQ.wk i b) (m0+a)=if a=i then .wk i b else ro (m0+a):=λa=>by rw[tZ];rfl
 cases h with
 |st k l c m t f d p B=>
  refine .st k l (j.trans c) m t (o.trans f) d (λa g=>?_) λa g C=>?_
  ·grind
  grind
 |uC c f d p=>
  refine .uC (j.trans c) (o.trans f) d λa g=>?_;grind
 |rc k S l c f d p u m=>
  refine .rc k S l (j.trans c) cL d (λa g=>?_) u (m.imp id λ⟨x,y,z⟩=>⟨x,y,λa g=>?_⟩)
  ·grind
  grind [kQ,absurd]
theorem Pl.wk(h:Pl n m0 ro cl G size st sm){i s a:Nat}(g:i<n)(e:ro (m0+i)=.wk i s)(j:(s=9/\a=8/\(∀r S,ro 0≠ .rc r S 1))\/(s<=7/\1<=a/\a<=7)){b c:Int}(l:Mode n m0 (upd ro (m0+i) (.wk i a)) b c):Pl n m0 (upd ro (m0+i) (.wk i a)) cl G size b c:=by have d:=h.pos;have f:upd ro (m0+i) (eQ.wk i a) (m0+n)=ro (m0+n):=upd_ne ro _ cM;refine⟨d,h.lay.wk d g e j,λk m o=>by rw[upd_ne ro _ cM];exact h.old k m o,by rw[f];exact h.clq,l,h.usr,by rw[f];exact h.say,λk=>?_⟩;rw[h.done];refine or_congr qF ?_;grind [upd_same,upd_ne]
def Pl.WG(h:Pl n m0 ro cl G size st sm){i:Nat}(a:i<n)(e:ro (m0+i)=.wk i 9)(b:∀r S,ro 0≠ .rc r S 1):Pl n m0 (upd ro (m0+i) (.wk i 8)) cl G size st sm:=
 h.wk a e cL (h.mode.counted h.pos a (by grind [kQ]) (by simp[kQ]))
def Pl.WH(h:Pl n m0 ro cl G size st sm){i s a:Nat}(c:i<n)(e:ro (m0+i)=.wk i s)(d:5<=s/\s<=7)(b:5<=a/\a<=7):Pl n m0 (upd ro (m0+i) (.wk i a)) cl G size st sm:=
 h.wk c e cL (h.mode.counted h.pos c (by rw[e];exact d.1) (by exact b.1))
def Pl.heard(h:Pl n m0 ro cl G size st sm){i s:Nat}(l:i<n)(e:ro (m0+i)=.wk i s)(m:s<=7):∃r S g,ro 0=.rc r S g/\S i=true/\size=m0+n+1:=by
 cases h.lay with
 |st a j b k o c d f p=>
  obtain x|x:=gC i (n-(a+1));grind;grind
 |uC b c d f=>
  grind
 |rc a S j b c d f q k=>
  grind
theorem Pl.hand{G':Gh}(h:Pl n m0 ro cl G size st sm){i s r C:Nat}{S:Nat->Bool}(p:i<n)(e:ro (m0+i)=.wk i s)(q:ro 0=.rc r S C)(K:s=9\/s=8) (D:G'.user=G.user)(t:G'.sayer=G.sayer)(E:∀k,G'.done k↔G.done k\/k=m0+i):S i=false/\∃r',r=r'+1/\Pl n m0 (upd (upd ro (m0+i) (.wk i 7)) 0 (.rc r' (upd S i true) 2)) cl G' size st sm/\meas n m0 (upd (upd ro (m0+i) (.wk i 7)) 0 (.rc r' (upd S i true) 2))<meas n m0 ro:=by
 have l:=h.pos;cases h.lay with
 |st F H o I L v u w M=>grind
 |uC o v u w=>grind
 |rc F N H o v u w O I=>
 rw[q]at o;cases o;have m:S i=false:=by grind
 have d:=sumTo_upd S true (λb=>if b then 1 else 0) p;rw[m]at d;simp only[iR,fq,em,pB]at d;have J:sumTo n (λa=>if upd S i true a then 1 else 0)<=n:=by have:=sumTo_le (f:=λa=>if upd S i true a then 1 else 0) (c:=1) (j:=n) cL;omega
 obtain⟨g,rfl⟩:∃g,r=g+1:=⟨r-1,cM⟩;refine⟨m,g,rfl,?_,?_⟩;have x:∀k,k≠0->k≠m0+i->upd (upd ro (m0+i) (eQ.wk i 7)) 0 (.rc g (upd S i true) 2) k=ro k:=λk y z=>by grind [upd_ne]
 have P:upd (upd ro (m0+i) (eQ.wk i 7)) 0 (.rc g (upd S i true) 2) (m0+i)=.wk i 7:=by grind [upd_ne,upd_same]
 have A:=x (m0+n) cM cM;refine⟨l,.rc g (upd S i true) 2 (upd_same _ _ _) cL u (λa Q=>?_) cM (.inl rfl),λk y z=>by rw[x k cM cM];exact h.old k y z,by rw[A];exact h.clq,?_,by rw[D];exact h.usr,by rw[A,t];exact h.say,λk=>?_⟩;grind [upd_same,upd_ne];have B:=h.mode.counted l p (r':=.wk i 7) (by grind [kQ]) (by simp[kQ]);exact B.zero l (by rw[upd_ne _ _ cM,q];rfl);rw[E,h.done,or_assoc];refine or_congr qF ?_;grind [upd_same];have B:=nV (n:=n) (ro:=ro) l p (r':=.wk i 7) (by grind [kQ]);have R:=oG (n:=n) (ro:=upd ro (m0+i) (.wk i 7)) l (r':=.rc g (upd S i true) 2) (by rw[upd_ne _ _ cM,q];simp only[u5];omega);omega
def Pl.WI(h:Pl n m0 ro cl G size st sm){r:Nat}{S:Nat->Bool}(d:ro 0=.rc r S 2)(g:cl=false)(q:∀i,i<n->kQ (ro (m0+i))≠8):Pl n m0 (upd ro 0 (.rc r S 1)) cl G size st sm:=by
 have j:=h.pos;refine h.zero ?_ dq cL (h.mode.zero j (by rw[d];rfl));cases h.lay with
 |st k l b m s e c f t=>grind
 |uC b e c f=>grind
 |rc k u l b e c f o m=>
  rw[d]at b;cases b;exact .rc r S 1 (upd_same _ _ _) (by grind [upd_ne]) c (λa p=>by grind [upd_ne]) o (.inr ⟨rfl,g,λa p=>by grind [upd_ne]⟩)
def Pl.Zy(h:Pl n m0 ro cl G size st sm){r s:Nat}{S:Nat->Bool}(d:ro 0=.rc r S s):Pl n m0 (upd ro 0 (.rc r S 2)) cl G size st sm:=by
 have g:=h.pos;refine h.zero ?_ dq cL (h.mode.zero g (by rw[d];rfl));cases h.lay with
 |st i j b k m e c f o=>grind
 |uC b e c f=>grind
 |rc i p j b e c f l k=>
  rw[d]at b;cases b;exact .rc r S 2 (upd_same _ _ _) (by grind [upd_ne]) c (λa q=>by grind [upd_ne]) l (.inl rfl)
def others_uncounted{i:Nat}(b:i<n)(c:V n m0 ro=1)(d:5<=kQ (ro (m0+i))):∀a,a<n->a≠i->¬5<=kQ (ro (m0+a)):=by intro a f e g;have h:=OV (ro:=ro) (m0:=m0) i b .none;grind [OX,upd_ne,KG,D8,upd,kQ]
def Pl.d1(h:Pl n m0 ro cl G size st sm){i:Nat}(b:i<n)(e:ro (m0+i)=.wk i 5):∃v f:Nat,f<=1/\v<n/\st=((v:Int)+1)*KK+(f:Int)/\sm=0/\((v=0/\f=1)->Pl n m0 (upd ro (m0+i) (.wk i 4)) cl G size ((v:Int)*KK+(f:Int)) 0)/\(¬(v=0/\f=1)->Pl n m0 (upd ro (m0+i) (.wk i 1)) cl G size ((v:Int)*KK+(f:Int)) 0):=by
 have K:=h.pos;have⟨r,S,M,A,B,N⟩:=h.heard b e dq;have o:5<=kQ (ro (m0+i)):=by grind [kQ]
 have O:=OX b o;have C:=OW n m0 ro;have g:pend (ro 0)=0:=by rw[A];rfl
 have D:∀x,upd ro (m0+i) x 0=ro 0:=λx=>upd_ne ro x cM;have p:∀x,upd ro (m0+i) x (m0+n)=ro (m0+n):=λx=>upd_ne ro x cM;have q:OpenSt n m0 ro->OpenSt n m0 (upd ro (m0+i) (.wk i 1)):=λh a j=>by by_cases k:a=i;subst k;rw[upd_same];exact .inr (.inr rfl);rw[upd_ne ro _ cM];exact h a j
 have E:V n m0 (upd ro (m0+i) (.wk i 1))+1=V n m0 ro:=by grind [OV,wk,KG,D8,kQ]
 cases P:h.mode with
 |opn l c m=>
  refine⟨V n m0 ro-1,0,dq,cM,?_,rfl,λx=>cM,λ_=>h.wk b e (.inr cM) ?_⟩;rw[g];have:((V n m0 ro-1:Nat):Int)+1=((V n m0 ro:Nat):Int):=cM;rw[this];simp;have:=Mode.opn (n:=n) (m0:=m0) (ro:=upd ro (m0+i) (.wk i 1)) (by rw[p];omega) (q c) (λF x=>by rw[p]at x;have:=m F x;omega);rw[D,g,show V n m0 (upd ro (m0+i) (.wk i 1))=V n m0 ro-1 by omega]at this;simpa using this
 |reg l c m=>
  refine⟨V n m0 ro-1,1,dq,cM,?_,rfl,λx=>?_,λx=>?_⟩;grind;have d:V n m0 ro=1:=cM;refine h.wk b e cL ?_
  have s:∀a,a<n->a≠i->kQ (ro (m0+a))=1:=λa j k=>by
   have Q:=others_uncounted b d o a j k;obtain y|y|y:=c a j
   ·exfalso;cases h.lay with
    |st H I t J R u w z T=>omega
    |uC t u w z=>omega
    |rc H U I t u w z W J=>
     grind [kQ]
   omega;omega
  have:=Mode.last (n:=n) (m0:=m0) (ro:=upd ro (m0+i) (.wk i 4)) i cL b (by rw[upd_same];simp[kQ]) (λa j k=>by grind [upd_ne]);rw[upd_same]at this;simp only[d,lJ];grind [kQ];refine h.wk b e cL ?_;have:=Mode.reg (n:=n) (m0:=m0) (ro:=upd ro (m0+i) (.wk i 1)) cL (q c) cM;grind
 |last L l c m X=>
  grind
 |sema l c=>have:=c i b;omega
 |fin l c=>have:=c i b;omega
def Pl.isLast(h:Pl n m0 ro cl G size st sm){i s:Nat}(c:i<n)(e:ro (m0+i)=.wk i s)(d:s=4\/s=3\/s=2):
 isW3 (ro (m0+n))/\(∀a,a<n->a≠i->kQ (ro (m0+a))=1)/\st=(if s=2 then 0 else 1)/\sm=0:=by
 have f:kQ (ro (m0+i))=s:=by rw[e];rfl
 cases g:h.mode with
 |opn _ b _=>have:=b i c;omega
 |reg _ b _=>have:=b i c;omega
 |last L j b k l=>
  grind
 |sema _ b=>have:=b i c;omega
 |fin _ b=>have:=b i c;omega
theorem Pl.last(h:Pl n m0 ro cl G size st sm){i s b:Nat}(c:i<n)(e:ro (m0+i)=.wk i s)(d:(s=4/\b=3)\/(s=3/\b=2)):
 Pl n m0 (upd ro (m0+i) (.wk i b)) cl G size (if b=2 then 0 else 1) 0:=by
 have f:=h.pos;have⟨g,j,_,_⟩:=h.isLast c e cM;refine h.wk c e cL ?_;have:=Mode.last (n:=n) (m0:=m0) (ro:=upd ro (m0+i) (.wk i b)) i (by grind [upd_ne]) c (by grind [upd_same,kQ]) (λa k l=>by grind [upd_ne]);rw[upd_same]at this;exact this
def Pl.raise(h:Pl n m0 ro cl G size st sm){i:Nat}(c:i<n)(e:ro (m0+i)=.wk i 2)(d:ro (m0+n)≠ .cl .blk):Pl n m0 (upd ro (m0+i) (.wk i 1)) cl G size 0 1:=by have g:=h.pos;have⟨b,j,_,_⟩:=h.isLast c e dq;refine h.wk c e cL (.sema ?_ λa k=>?_);rw[upd_ne ro _ cM];revert b d;generalize ro (m0+n)=x;intro d b;unfold isW3 at b;grind;by_cases f:a=i;subst f;rw[upd_same];rfl;grind [upd_ne]
def Pl.Wb(h:Pl n m0 ro cl G size st sm){c d:CT}(s:ro (m0+n)=.cl c){b:Bool}(F:b=true↔d=.quit)(t:b=cl\/∀r S,ro 0≠ .rc r S 1){e f:Int}(u:Mode n m0 (upd ro (m0+n) (.cl d)) e f):Pl n m0 (upd ro (m0+n) (.cl d)) b G size e f:=by
 have v:=h.pos;have w:upd ro (m0+n) (eQ.cl d) 0=ro 0:=upd_ne ro _ cM;have H:∀i,i<n->upd ro (m0+n) (eQ.cl d) (m0+i)=ro (m0+i):=λi I=>upd_ne ro _ cM;refine⟨v,?_,λk A B=>by rw[upd_ne ro _ cM];exact h.old k A B,by grind [upd_same],u,h.usr,by rw[upd_same,h.say,s];rfl,λk=>?_⟩;cases h.lay with
 |st l m g o J p j q K=>grind
 |uC g p j q=>grind
 |rc l C m g p j q D o=>
  refine .rc l C m (w.trans g) ⟨_,upd_same _ _ _⟩ j (λa E=>cL) D (o.imp id λ⟨x,y,z⟩=>⟨x,?_,λa E=>cL⟩);grind
 rw[h.done];refine or_congr qF ?_;grind [upd_same,upd_ne]
def Pl.recv(h:Pl n m0 ro cl G size st sm){c:CT}(p:ro (m0+n)=.cl c):∃r S s,ro 0=.rc r S s/\size=m0+n+1/\pend (ro 0)=0/\∀i,i<n->1<=kQ (ro (m0+i)):=by
 cases h.lay with
 |st e f a j q g b d t=>grind
 |uC a g b d=>grind
 |rc e k f a g b d u j=>
  refine⟨e,k,f,a,b,by rw[a];rfl,λi l=>?_⟩;have⟨v,m,o,_⟩:=d i l;rw[m];exact o
def Mode.zX(h:Mode n m0 ro st sm)(b:isOpen (ro (m0+n))):OpenSt n m0 ro/\(∀c,ro (m0+n)=.cl (.w2 c)->V n m0 ro<=c/\1<=c)/\st=((V n m0 ro+pend (ro 0):Nat):Int)*KK/\sm=0:=by
 cases h with
 |opn a d e=>grind
 |reg a _ _=>revert a b;generalize ro (m0+n)=x;unfold isW3 isOpen;grind
 |last L a _ _ _=>revert a b;generalize ro (m0+n)=x;unfold isW3 isOpen;grind
 |sema a _=>obtain a|a:=a<;>rw[a]at b<;>exact b.elim
 |fin a _=>revert a b;generalize ro (m0+n)=x;unfold isFin isOpen;grind
def Mode.zY(b:0<m0)(h:Mode n m0 ro st sm)(c:isOpen (ro (m0+n)))(d:isOpen r')(g:∀a,r'=.cl (.w2 a)->V n m0 ro<=a/\1<=a):Mode n m0 (upd ro (m0+n) r') st sm:=by obtain⟨e,_,rfl,rfl⟩:=h.zX c;have j:upd ro (m0+n) r' 0=ro 0:=upd_ne ro _ cM;have k:V n m0 (upd ro (m0+n) r')=V n m0 ro:=qM cM _;have:=Mode.opn (n:=n) (m0:=m0) (ro:=upd ro (m0+n) r') (by rw[upd_same];omega) (λi f=>by rw[upd_ne ro _ cM];exact e i f) (λa x=>by grind [upd_same]);grind
def Pl.Vl(h:Pl n m0 ro cl G size st sm)(a:ro (m0+n)=.cl .w1)(e:V n m0 ro=0):st=0/\sm=0/\Pl n m0 (upd ro (m0+n) (.cl .ke)) cl G size 0 0:=by have j:=h.pos;have⟨r,S,s,k,l,b,m⟩:=h.recv a;have⟨f,_,c,d⟩:=h.mode.zX (by rw[a];trivial);rw[b,e]at c;refine⟨cM,d,h.Wb a ?_ (.inl rfl) (.fin (by rw[upd_same];trivial) λi g=>?_)⟩;have:=h.clq;grind;rw[upd_ne ro _ cM];obtain x|x|x:=f i g;grind;grind [OX];omega
theorem Pl.zY(h:Pl n m0 ro cl G size st sm){c b:CT}(e:ro (m0+n)=.cl c)(f:isOpen (.cl c))(a:isOpen (.cl b))(g:∀d,b=.w2 d->V n m0 ro<=d/\1<=d):Pl n m0 (upd ro (m0+n) (.cl b)) cl G size st sm:=by
 refine h.Wb e ?_ (.inl rfl) (h.mode.zY h.pos cL a cL);have:=h.clq;rw[e]at this;have i:c≠ .quit:=by rintro rfl;exact f
 have j:b≠ .quit:=by rintro rfl;exact a
 grind
def Pl.Zz(h:Pl n m0 ro cl G size st sm){a:Nat}(b:ro (m0+n)=.cl (.w2 a))(g:V n m0 ro=a):Pl n m0 (upd ro (m0+n) (.cl .sw)) cl G size ((a:Int)*KK+1) 0:=by have⟨c,d,_,_⟩:=h.mode.zX (by rw[b];trivial);have j:=h.pos;have e:=d a b;have k:V n m0 (upd ro (m0+n) (eQ.cl .sw))=V n m0 ro:=qM cM _;refine h.Wb b ?_ (.inl rfl) ?_;have:=h.clq;grind;have:=Mode.reg (n:=n) (m0:=m0) (ro:=upd ro (m0+n) (.cl .sw)) (by rw[upd_same];trivial) (λi f=>by rw[upd_ne ro _ cM];exact c i f) cM;grind
def Pl.WJ(h:Pl n m0 ro cl G size st sm){c c':CT}(b:ro (m0+n)=.cl c)(d:isW3 (.cl c))(f:isW3 (.cl c'))(j:c'=.blk->sm=0):Pl n m0 (upd ro (m0+n) (.cl c')) cl G size st sm:=by
 have k:=h.pos;have l:∀x,V n m0 (upd ro (m0+n) x)=V n m0 ro:=qM cM;have e:∀x i,i<n->upd ro (m0+n) x (m0+i)=ro (m0+i):=λx i a=>upd_ne ro _ cM;refine h.Wb b ?_ (.inl rfl) ?_;have:=h.clq;rw[b]at this;have m:c≠ .quit:=by rintro rfl;exact d
 have o:c'≠ .quit:=by rintro rfl;exact f
 grind;cases p:h.mode with
 |opn x _ _=>rw[b]at x;revert x d;cases c<;>simp[isOpen,isW3]
 |reg x y z=>
  have:=Mode.reg (n:=n) (m0:=m0) (ro:=upd ro (m0+n) (.cl c')) (by rw[upd_same];omega) (λi a=>by rw[e _ i a];exact y i a) cL;grind
 |last L x g y z=>
  have:=Mode.last (n:=n) (m0:=m0) (ro:=upd ro (m0+n) (.cl c')) L (by rw[upd_same];omega) g cL cL;grind
 |sema x y=>
  refine .sema ?_ λi a=>by rw[e _ i a];exact y i a
  grind [upd_same,isW3]
 |fin x _=>rw[b]at x;revert x d;cases c<;>simp[isFin,isW3]
def Pl.FW(h:Pl n m0 ro cl G size st sm)(a:ro (m0+n)=.cl .w3):sm=0\/(st=0/\sm=1/\Pl n m0 (upd ro (m0+n) (.cl .w4)) cl G size 0 0):=by
 have c:=h.pos;cases d:h.mode with
 |opn x _ _=>simp
 |reg x y z=>simp
 |last L x e y z=>simp
 |sema x y=>
  refine .inr ⟨rfl,rfl,h.Wb a ?_ (.inl rfl) (.fin (by rw[upd_same];trivial) λi b=>by rw[upd_ne ro _ cM];exact y i b)⟩;have:=h.clq;grind
 |fin x _=>simp
def Mode.ofFin(h:Mode n m0 ro st sm)(b:isFin (ro (m0+n))):AllQuit n m0 ro/\st=0/\sm=0:=by
 cases h with
 |opn a c d=>revert a b;generalize ro (m0+n)=x;unfold isOpen isFin;grind
 |reg a _ _=>revert a b;generalize ro (m0+n)=x;unfold isW3 isFin;grind
 |last L a _ _ _=>revert a b;generalize ro (m0+n)=x;unfold isW3 isFin;grind
 |sema a _=>obtain a|a:=a<;>rw[a]at b<;>exact b.elim
 |fin a c=>grind
def Pl.KH(h:Pl n m0 ro cl G size st sm){c c':CT}(b:ro (m0+n)=.cl c)(f:isFin (.cl c))(g:isFin (.cl c')){cl':Bool}(d:cl'=true↔c'=.quit)(a:cl'=cl\/∀r S,ro 0≠ .rc r S 1):Pl n m0 (upd ro (m0+n) (.cl c')) cl' G size st sm:=by obtain⟨x,rfl,rfl⟩:=h.mode.ofFin cL;have j:=h.pos;exact h.Wb b d a (.fin (by rw[upd_same];omega) λi e=>by rw[upd_ne ro _ cM];exact x i e)
def Pl.vY(h:Pl n m0 ro cl G size st sm){c:CT}(t:ro (m0+n)=.cl c)(u:isFin (.cl c)):∃S s,ro 0=.rc 0 S s/\(∀i,i<n->∃k,ro (m0+i)=.wk k 1)/\size=m0+n+1:=by
 have⟨x,_,_⟩:=h.mode.ofFin cL;cases h.lay with
 |st g j e m v l f b w=>grind
 |uC e l f b=>grind
 |rc g d j e l f b y m=>
  have o:∀i,i<n->d i=true:=λi a=>by have⟨p,q,z,A,B⟩:=b i a;have:=x i a;grind [kQ]
  have C:sumTo n (λi=>if d i then 1 else 0)=n:=by have:sumTo n (λi=>if d i then 1 else 0)=sumTo n λ_=>1:=sumTo_congr cL;rw[this,CB]
  have r:g=0:=cM;subst r;refine⟨d,j,e,λi a=>?_,f⟩;have⟨p,q,_⟩:=b i a;have:=x i a;grind [kQ]
end
section
variable{G:Gh}{g d n m Wg:Nat}
def Se:oE G g d n m #[]:=λj e h=>by simp at h
def rE{e:Event}(a:(MemAct.ofEvent e).touch?=none)(b:(MemAct.ofEvent e).low m):oE G g d n m #[e]:=by intro j x h;grind
def FX{w:Bool}(c:G.wg h.block)(e:G.user g)(f:g=G.sayer)(b:h.block<m):oE G g d n m #[mk (if w then .write h else .read h)]:=by
 intro j x i;have:x=mk (if w then .write h else .read h):=by grind
 subst this;cases w<;>refine⟨λt a _=>?_,b⟩<;>(simp[mk,MemAct.ofEvent,MemAct.touch?]at a;subst a;exact⟨h.block,rfl,cL⟩)
def rF{c:Array Event}(p:G.wg Wg)(q:G.user g)(i:Wg<m) (h:∀(j:Nat) (e:Event),c[j]? =some e->((MemAct.ofEvent e).touch?=none/\(MemAct.ofEvent e).low m)\/((∃a b,e=⟨.cell a,b,true⟩/\a.block=Wg)/\0<deafBehind d (c.extract 0 j))):oE G g d n m c:=by
 intro j e k;obtain⟨r,s⟩|⟨⟨a,b,rfl,l⟩,u⟩:=h j e k;grind;subst l;have o:MemAct.ofEvent ⟨.cell a,b,true⟩=.access ⟨.cell a,b,true⟩:=by cases b<;>rfl
 rw[o];refine⟨λt f _=>?_,i⟩;simp only[MemAct.touch?,iN]at f;subst f;exact⟨a.block,rfl,cL⟩
def zZ(b:G.wg Wg)(c:G.user g)(f:Wg<m)(h:0<d):oE G g d n m #[ConcR.rd (stA Wg)]:=rF b c f λj e a=>.inr (by
 match j,a with
 |0,a=>simp at a;subst a;exact⟨⟨_,_,rfl,rfl⟩,by simpa[deafBehind]using h⟩
 |j+1,a=>grind)
def Vm(b:G.wg Wg)(c:G.user g)(f:Wg<m)(h:0<d):oE G g d n m #[ConcR.wr (stA Wg)]:=rF b c f λj e a=>.inr (by
 match j,a with
 |0,a=>simp at a;subst a;exact⟨⟨_,_,rfl,rfl⟩,by simpa[deafBehind]using h⟩
 |j+1,a=>grind)
def sW(c:G.wg Wg)(f:G.user g)(h:Wg<m)(b:0<d):oE G g d n m #[ConcR.rd (stA Wg),ConcR.wr (stA Wg)]:=rF c f h λj e a=>.inr (by
 match j,a with
 |0,a=>simp at a;subst a;exact⟨⟨_,_,rfl,rfl⟩,by simpa[deafBehind]using b⟩
 |1,a=>simp at a;subst a;exact⟨⟨_,_,rfl,rfl⟩,by simpa[deafBehind,ConcR.rd]using b⟩
 |j+2,a=>grind)
def KJ(b:G.wg Wg)(c:G.user g)(f:Wg<m):oE G g d n m (semEvents (smA Wg)):=rF b c f λj e a=>by
 match j,a with
 |0,a=>simp[semEvents]at a;subst a;exact .inl (by trivial)
 |1,a=>simp[semEvents]at a;subst a;exact .inr ⟨⟨_,_,rfl,rfl⟩,by simp[deafBehind,semEvents]⟩
 |2,a=>simp[semEvents]at a;subst a;exact .inr ⟨⟨_,_,rfl,rfl⟩,by simp[deafBehind,semEvents]⟩
 |3,a=>simp[semEvents]at a;subst a;exact .inl (by trivial)
 |j+4,a=>simp[semEvents]at a
def Sf{o:Array Event}(i:G.Fits n)(b:n<=m)(h:∀e∈o,EvW (G.own g) (G.rd g) n m e):oE G g d n m o:=by
 intro j e p;obtain⟨a,c,rfl,k⟩|⟨r,c,rfl,k⟩|rfl:=h e (xZ p);have l:MemAct.ofEvent ⟨.cell a,c,false⟩=.access ⟨.cell a,c,false⟩:=by cases c<;>rfl
 rw[l];refine⟨λt f _=>?_,?_⟩;simp only[MemAct.touch?,iN]at f;subst f;exact⟨a.block,rfl,cL⟩;show a.block<m;obtain h|⟨_,h⟩|h:=k;exact ew (i.own _ _ h) b;exact ew (i.rd _ _ h) b;grind;have l:MemAct.ofEvent ⟨.obj r,c,false⟩=.access ⟨.obj r,c,false⟩:=by cases c<;>rfl
 rw[l];refine⟨λt f _=>?_,?_⟩;simp only[MemAct.touch?,iN]at f;subst f;exact⟨r,rfl,cL⟩;show r<m;obtain h|h:=k;exact ew (i.own _ _ h) b;grind;exact⟨λt f=>by simp[MemAct.ofEvent,MemAct.touch?]at f,trivial⟩
def OZ{b f:dp}{c:Array Event}(h:∀e∈c,EvW b f n m e)(d:Nat):deafBehind d c=d:=
 deafBehind_still (λe g=>by obtain⟨a,i,rfl,_⟩|⟨r,i,rfl,_⟩|rfl:=h e g<;>simp) d
def O0{a:Array Event}(h:∀e∈a,e.mute=true):oE G g d n m a:=λj e b=>⟨λt c=>by grind [touch_mute,Array.mem_of_getElem?],low_mute cL m⟩
end
section
variable(P:cU)(ty:cR)(Wg Ch n:Nat)(rd0:Nat->Prop)(val:Nat->cK->(Nat->Prop)->cJ->Prop)(End:iV)(w0:cJ)(B0 m0:Nat)
def z0(G:Gh)(cl:Bool)(t:Trace):Prop:=cl=true->∃p,t.act? p=some (.close Ch)/\t.heard p/\t.g? p=some (m0+n)/\∀i a,G.t0<=i->touchAt t i=some a->a.loc.isMemory=true->t.g? i=some (m0+n)->i<p
def fg(X:dp)(T0:Nat)(a:Mu)(m:Machine)(t:Trace):Prop:=
 ∃(gs:Array cQ) (w:cJ) (sl:Option (Nat×Nat)) (ro:Nat->eQ) (rk:Nat->WT) (dd:Nat->Nat) (G:Gh) (cl:Bool) (st sm:Int),m=crowd gs w sl/\Com P ty Wg Ch n rd0 val End w0 B0 ro rk dd G cl gs w t/\WgAt ty Wg w st sm/\Pl n m0 ro cl G gs.size st sm/\z0 Ch n m0 G cl t/\G.x=X/\G.t0=T0/\a=⟨meas n m0 ro,gs.size,rk,IT (ro (m0+n))⟩
end
section
variable{P:cU}{ty:cR}{Wg Ch n:Nat}{rd0:Nat->Prop}{val:Nat->cK->(Nat->Prop)->cJ->Prop}{End:iV}{w0:cJ}{B0 m0:Nat}{X:Nat->Prop}{T0:Nat} {ro:Nat->eQ}{rk:Nat->WT}{dd:Nat->Nat}{G:Gh}{cl:Bool}{gs:Array cQ}{w w':cJ}{sl:Option (Nat×Nat)}{t:Trace}{st sm:Int}
theorem Pl.ZA{a:Gh}{size:Nat}(h:Pl n m0 ro cl G size st sm)(b:a.user=G.user)(c:a.sayer=G.sayer)(d:a.done=G.done):Pl n m0 ro cl a size st sm:=
 ⟨h.pos,h.lay,h.old,h.clq,h.mode,by rw[b];exact h.usr,by rw[c];exact h.say,by rw[d];exact h.done⟩
theorem z0.app{u:Trace}(h:z0 Ch n m0 G cl t){c:Gh}(o:c.t0=G.t0)(q:cl=true->∀b∈u,b.g=m0+n->b.act.touch?=none):z0 Ch n m0 c cl (t++u):=by intro d;have⟨p,e,f,r,s⟩:=h d;have j:=lt_of_act? e;refine⟨p,by grind [act?_old],(heard_old j).2 f,by grind [g?_old],λi a v k w x=>?_⟩;have⟨b,l,m⟩:=touch_of k;grind [getElem?_append_cases,touchAt_of,g?_old,Option.some.injEq,Trace.g?]
theorem Pl.IV{size:Nat}(h:Pl n m0 ro cl G size st sm)(a:size=gs.size)(b:cl=true){x:Nat}(k:x<gs.size):(∀r S,ro x≠ .rc r S 1)/\∀i,ro x≠ .wk i 8:=by
 have l:=h.clq.1 b;have⟨S,s,m,u,v⟩:=h.vY l trivial;subst a;obtain rfl|⟨o,p⟩|⟨i,s,w,rfl,e,_⟩|⟨rfl,c,e⟩:=h.lt_size k;rw[m];refine⟨λr y e=>?_,cL⟩;cases e;cases h.lay with
 |st q t d gs z f g j A=>grind
 |uC d f g j=>grind
 |rc q B t d f g j C gs=>
  grind
 rw[h.old x o p];grind;grind;grind
theorem fg.go(h:Com P ty Wg Ch n rd0 val End w0 B0 ro rk dd G cl gs w t)(v:Pl n m0 ro cl G gs.size st sm)(y:z0 Ch n m0 G cl t)(E:G.x=X)(F:G.t0=T0) {k:Nat}{g b:cQ}{u:Array Event}{r':eQ}{τ':WT}{st' sm':Int}(B:gs[k]? =some g)(z:stepG P (k==0) g w=.go b w' u) (H:zW Wg (G.own k) w w')(l:WgAt ty Wg w' st' sm')(A:oE G k (dd k) w.heap.size w'.heap.size u)(I:G.done k->w'.heap.size=w.heap.size) (J:mD P ty Wg Ch n rd0 val End r' τ' (deafBehind (dd k) u) ((G.grow k w.heap.size w'.heap.size).own k) (G.rd k) b w')
 (m:Pl n m0 (upd (λx=>qe (lU P g b) (ro x)) k r') cl G gs.size st' sm')
 (K:cl=true->k=m0+n->∀e∈u,(MemAct.ofEvent e).touch?=none) (d:meas n m0 (upd (λx=>qe (lU P g b) (ro x)) k r')<meas n m0 ro\/(meas n m0 (upd (λx=>qe (lU P g b) (ro x)) k r')=meas n m0 ro/\WT.Sub τ' (rk k))):
 ∃c o p,runT P (crowd gs w sl) k=(.next c,o)/\Mu.Lt p ⟨meas n m0 ro,gs.size,rk,IT (ro (m0+n))⟩/\fg P ty Wg Ch n rd0 val End w0 B0 m0 X T0 p c (t++o):=by
 have q:=runT_crowd_go (P:=P) (sl:=sl) (i:=k) B z;have r:k<gs.size:=cL;have s:=h.go (r':=r') (τ':=τ') B (λC x L=>v.IV rfl C L) H ⟨_,_,l⟩ A I J;refine⟨_,_,⟨meas n m0 (upd (λx=>qe (lU P g b) (ro x)) k r'),((gs.map (woken P g b w')).setIfInBounds k b).size,upd rk k τ',IT (upd (λx=>qe (lU P g b) (ro x)) k r' (m0+n))⟩,q,?_,_,w',sl,_,_,_,_,cl,st',sm',rfl,s,l,?_,?_,E,F,rfl⟩;obtain d|⟨M,D⟩:=d;exact .a d;refine .f M dq ⟨k,r,by grind [upd_same],λj _ Q=>by grind [upd_ne]⟩;have:((gs.map (woken P g b w')).setIfInBounds k b).size=gs.size:=dq;rw[this];exact m.ZA rfl rfl rfl;refine y.app rfl λC R N O=>?_;grind [Go.Conc.mem_ofEvents]
end
def zW.z7{Wg:Nat}{a:dp}{w w':cJ}(h:Aside Wg w w'):zW Wg a w w':=⟨h.tape,h.os,h.output,by rw[h.size];grind,λb _ _ c=>h.block b c⟩
section
variable{P:cU}{ty:cR}{Wg Ch n:Nat}{rd0:Nat->Prop}{val:Nat->cK->(Nat->Prop)->cJ->Prop}{End:iV}{w0:cJ}{B0 m0:Nat}{X:Nat->Prop}{T0:Nat} {ro:Nat->eQ}{rk:Nat->WT}{dd:Nat->Nat}{G:Gh}{cl:Bool}{gs:Array cQ}{w w':cJ}{sl:Option (Nat×Nat)}{t:Trace}{st sm:Int}
theorem Com.at(h:Com P ty Wg Ch n rd0 val End w0 B0 ro rk dd G cl gs w t)(d:Nat):Com P ty Wg Ch n rd0 val End w0 B0 ro rk dd G cl gs (w.at d) t:=
 {h with sit:=λk g a=>(h.sit k g a).rely (eP.at _ _ (λ_ _ x=>x) w d)}
def Goal(P:cU)(ty:cR)(Wg Ch n:Nat)(rd0:dp)(val:Nat->cK->(dp)->dC)(End:iV)(w0:cJ)(B0 m0:Nat)(X:dp)(T0:Nat) (ro:Nat->eQ)(rk:Nat->WT)(gs:Array cQ)(w:cJ)(sl:Option (Nat×Nat))(t:Trace)(k:Nat):Prop:=
 ∃a b c,runT P (crowd gs w sl) k=(.next a,b)/\Mu.Lt c ⟨meas n m0 ro,gs.size,rk,IT (ro (m0+n))⟩/\fg P ty Wg Ch n rd0 val End w0 B0 m0 X T0 c a (t++b)
variable(dR:Com P ty Wg Ch n rd0 val End w0 B0 ro rk dd G cl gs w t)(fV:Pl n m0 ro cl G gs.size st sm)(kG:z0 Ch n m0 G cl t)(hX:G.x=X)(hT:G.t0=T0)(ix:WgAt ty Wg w st sm)
include dR fV kG hX hT ix
theorem fg.KM{k:Nat}{g:cQ}{r:eQ}{S:iV}{j:WT}(s:gs[k]? =some g)(u:Way P (k==0) (G.rd k) (Lv ty Wg) S j (G.own k) g w)(m:rk k=j)(v:ro k=r)(J:r≠ .cl .blk)(K:r≠ .cl .quit)(y:¬G.done k) (z:∀j d g w,Way P (k==0) (G.rd k) (Lv ty Wg) S j d g w->mD P ty Wg Ch n rd0 val End r j (dd k) d (G.rd k) g w):(∀p,eP (G.own k) (G.rd k) (Lv ty Wg) w p->S (G.own k) g p)\/Goal P ty Wg Ch n rd0 val End w0 B0 m0 X T0 ro rk gs w sl t k:=by
 cases u with
 |here h=>grind
 | @step f d g _ L A B=>
  right;have⟨o,w',q,c,e,a⟩:=A w (.refl _ _ _ _);have C:=B w o w' q c (.refl _ _ _ _) e a;have M:c=(G.grow k w.lG w'.lG).own k:=by funext b;apply propext;rw[a.owns];exact⟨Or.imp id λx=>⟨rfl,x⟩,Or.imp id λx=>x.2⟩
  have D:deafBehind (dd k) q=dd k:=OZ a.evs _;have l:upd (λx=>qe (lU P g o) (ro x)) k r=λx=>qe (lU P g o) (ro x):=by grind [xh,qN]
  have i:w'.heap[Wg]? =w.heap[Wg]? :=a.same Wg dR.wglow λx=>dR.fits.ownwg _ _ x ((dR.wg _).2 (.inl rfl));refine fg.go dR fV kG hX hT (st':=st) (sm':=sm) (r':=r) (τ':=f w) s e ⟨a.tape,a.os,a.output,a.size,λb E F _=>a.same b E F⟩ (ix.of_block i) (Sf dR.fits a.size a.evs) cL ?_ ?_ (λH I=>?_) (.inr ⟨?_,?_⟩);grind;rw[l];exact fV.Sd _;exfalso;have:=fV.clq.1 H;grind;rw[l];exact vX _;rw[m];exact .mk f w
theorem fg.idle{k:Nat}{g:cQ}{r:eQ}{S:iV}{a:WT}(i:gs[k]? =some g)(j:Way P (k==0) (G.rd k) (Lv ty Wg) S a (G.own k) g w)(c:rk k=a)(d:ro k=r)(l:r≠ .cl .blk)(m:r≠ .cl .quit)(e:¬G.done k) (f:∀a b g w,Way P (k==0) (G.rd k) (Lv ty Wg) S a b g w->mD P ty Wg Ch n rd0 val End r a (dd k) b (G.rd k) g w):S (G.own k) g w\/Goal P ty Wg Ch n rd0 val End w0 B0 m0 X T0 ro rk gs w sl t k:=
 (fg.KM dR fV kG hX hT ix i j c d l m e f).imp (λh=>h w (.refl _ _ _ _)) id
theorem fg.quiet{k m:Nat}{g:cQ}{r:eQ}{S:cQ->dC}(f:gs[k]? =some g)(i:k≠0)(j:Goes P false (eP dr dr (Lv ty Wg)) ConcR.DC0 S m g w)(l:rk k=.num m)(o:ro k=r)(s:r≠ .cl .blk) (b:∀m g w,Goes P false (eP dr dr (Lv ty Wg)) ConcR.DC0 S m g w->mD P ty Wg Ch n rd0 val End r (.num m) (dd k) (G.own k) (G.rd k) g w):S g w\/Goal P ty Wg Ch n rd0 val End w0 B0 m0 X T0 ro rk gs w sl t k:=by
 obtain h|⟨p,rfl,h⟩:=Goes.cases j;exact .inl (h w (.refl _ _ _ _));right;obtain⟨d,w',u,e,⟨rfl,rfl⟩,c⟩:=h w (.refl _ _ _ _);have a:upd (λx=>qe (lU P g d) (ro x)) k r=λx=>qe (lU P g d) (ro x):=by grind [xh,qN]
 have q:(k==0)=false:=cL;refine fg.go dR fV kG hX hT (st':=st) (sm':=sm) (r':=r) (τ':=.num p) f (by rw[q];omega) (zW.z7 (.refl Wg _)) ix Se cL ?_ ?_ cL (.inr ⟨?_,?_⟩);rw[Gh.tY];exact b _ _ _ c;rw[a];exact fV.Sd _;rw[a];exact vX _;grind [WT.KF]
theorem fg.book{k:Nat}{g d:cQ}{f:Array Event}{r':eQ}{τ':WT}{st' sm':Int}(l:gs[k]? =some g)(h:stepG P (k==0) g w=.go d w' f)(i:Aside Wg w w')(b:WgAt ty Wg w' st' sm') (m:oE G k (dd k) w.heap.size w.heap.size f)(u:mD P ty Wg Ch n rd0 val End r' τ' (deafBehind (dd k) f) (G.own k) (G.rd k) d w') (v:ro k≠ .cl .quit) (c:∀a,Pl n m0 a cl G gs.size st sm->(∀x,ro x≠ .cl .blk->a x=ro x)->V n m0 a=V n m0 ro->(lU P g d=true->a (m0+n)≠ .cl .blk)->Pl n m0 (upd a k r') cl G gs.size st' sm'/\meas n m0 (upd a k r')<meas n m0 a):Goal P ty Wg Ch n rd0 val End w0 B0 m0 X T0 ro rk gs w sl t k:=by have o:=i.size;have⟨p,j⟩:=c (λx=>qe (lU P g d) (ro x)) (fV.Sd _) (λx q=>xh q) (Cz _) (λy e=>by grind [rD,lU,qe,blk]);rw[vX]at j;refine fg.go dR fV kG hX hT (st':=st') (sm':=sm') (r':=r') (τ':=τ') l h (.z7 i) b cL cL (by rw[o,Gh.tY];grind) p (λr s=>?_) (.inl j);exfalso;have:=fV.clq.1 r;grind
theorem fg.slip{k q d:Nat}{g:cQ}{r:eQ}(j:gs[k]? =some g)(l:k≠0)(y:r≠ .cl .blk)(h:QuitsD P q d g)(c:g.status=.running)(m:rk k=.num q)(o:dd k=d)(p:ro k=r) (s:∀q d g w,QuitsD P q d g->mD P ty Wg Ch n rd0 val End r (.num q) d (G.own k) (G.rd k) g w):Goal P ty Wg Ch n rd0 val End w0 B0 m0 X T0 ro rk gs w sl t k:=by
 cases q with
 |zero=>rw[h.1]at c;grind
 |succ q=>
  obtain⟨z,_⟩|⟨_,i,A,a,b,B⟩:=h;grind;have f:upd (λx=>qe (lU P g i) (ro x)) k r=λx=>qe (lU P g i) (ro x):=by grind [xh,qN]
  have u:(k==0)=false:=cL;refine fg.go dR fV kG hX hT (st':=st) (sm':=sm) (r':=r) (τ':=.num q) j (by rw[u];exact b w) (zW.z7 (.refl Wg _)) ix (O0 a) cL ?_ ?_ (λ_ _ e v=>touch_mute (a e v)) (.inr ⟨?_,?_⟩);grind [Gh.tY];rw[f];exact fV.Sd _;rw[f];exact vX _;grind [WT.KF]
end
section
variable{P:cU}{ty:cR}{Wg Ch n:Nat}{rd0:Nat->Prop}{val:Nat->cK->(Nat->Prop)->cJ->Prop}{End:iV}{w0:cJ}{B0 m0:Nat}{X:Nat->Prop}{T0:Nat} {ro:Nat->eQ}{rk:Nat->WT}{dd:Nat->Nat}{G:Gh}{cl:Bool}{gs:Array cQ}{w w':cJ}{sl:Option (Nat×Nat)}{t:Trace}{st sm:Int}
variable(dR:Com P ty Wg Ch n rd0 val End w0 B0 ro rk dd G cl gs w t)(fV:Pl n m0 ro cl G gs.size st sm)(kG:z0 Ch n m0 G cl t)(hX:G.x=X)(hT:G.t0=T0)(ix:WgAt ty Wg w st sm)
include dR fV kG hX hT ix
theorem fg.Sh(hn:n<2147483647){i s:Nat}{g:cQ}(c:i<n)(j:gs[m0+i]? =some g)(e:ro (m0+i)=.wk i s)(hs:s<=7)(H:g.status=.running):Goal P ty Wg Ch n rd0 val End w0 B0 m0 X T0 ro rk gs w sl t (m0+i):=by
 have z:=fV.pos;have M:=dR.sit _ g j;have U:m0+i<gs.size:=cL;have f:G.user (m0+i):=(fV.usr _).2 cM;have I:=(dR.wg Wg).2 (.inl rfl);have p:=dR.wglow;have A:(m0+i==0)=false:=cL;have k:ro (m0+i)≠ .cl .quit:=cL;generalize l:rk (m0+i)=τ at M;generalize o:dd (m0+i)=d at M;rw[e]at M;cases M with
 |R5 h=>omega
 |u4 h=>omega
 |r0 h=>
  obtain⟨_,D,x,m,b⟩|h:=fg.quiet (sl:=sl) dR fV kG hX hT ix j cM h l e dq (λm g w h=>by rw[o];exact .r0 h);refine fg.book (r':=.wk i 6) (τ':=.num m) dR fV kG hX hT ix j (by rw[A];omega) (.refl Wg w) ix (rE (e:=mk (.releaseMerge (stA Wg))) rfl p) (by rw[o];exact .k1 b) k λa r E F _=>?_;have u:a (m0+i)=.wk i 7:=cL;exact⟨r.WH c u dq dq,nV z c (by grind [kQ])⟩;grind
 |k1 h=>
  obtain⟨_,D,x,m,b⟩|h:=fg.quiet (sl:=sl) dR fV kG hX hT ix j cM h l e dq (λm g w h=>by rw[o];exact .k1 h);refine fg.book (r':=.wk i 5) (τ':=.num m) dR fV kG hX hT ix j (by rw[A];omega) (.refl Wg w) ix (rE (e:=mk .disable) rfl trivial) (by rw[o];exact .d1 b) k λa r E F _=>?_;have u:a (m0+i)=.wk i 6:=cL;exact⟨r.WH c u dq dq,nV z c (by grind [kQ])⟩;grind
 |d1 h=>
  obtain⟨_,J⟩|h:=fg.quiet (sl:=sl) dR fV kG hX hT ix j cM h l e dq (λm g w h=>by rw[o];exact .d1 h);have⟨v,N,k1,k2,y,B,_,_⟩:=fV.d1 c e;subst y B;have⟨D,x,V,W⟩:=J v N k1 cM ix;by_cases O:v=0/\N=1;have⟨m,b⟩:=V O;refine fg.book (r':=.wk i 4) (τ':=.num m) dR fV kG hX hT ix j (by rw[A];omega) (aside_setCell w (stA Wg) _) (ix.setSt _) (sW I f p cM) (by rw[o];exact .d2 b) k λa r E F _=>?_;have u:a (m0+i)=.wk i 5:=cL;have⟨Q,C,Y,Z,j3,j4,S,T⟩:=r.d1 c u;have:Q=v/\C=N:=by grind [KK]
  obtain⟨rfl,rfl⟩:=this;exact⟨S O,nV z c (by grind [kQ])⟩;have⟨q,K⟩:=W O;refine fg.book (r':=.wk i 1) (τ':=.num q) dR fV kG hX hT ix j (by rw[A];omega) (aside_setCell w (stA Wg) _) (ix.setSt _) (sW I f p cM) (by rw[o];exact .quit K) k λa r E F _=>?_;have u:a (m0+i)=.wk i 5:=cL;have⟨Q,C,Y,Z,j3,j4,S,T⟩:=r.d1 c u;have:Q=v/\C=N:=by grind [KK]
  obtain⟨rfl,rfl⟩:=this;exact⟨T O,nV z c (by grind [kQ])⟩;grind
 |d2 h=>
  obtain⟨_,L⟩|h:=fg.quiet (sl:=sl) dR fV kG hX hT ix j cM h l e dq (λm g w h=>by rw[o];exact .d2 h);have⟨_,_,y,B⟩:=fV.isLast c e dq;simp only[Nat.reduceEqDiff,fq]at y;subst y B;have⟨D,x,m,b⟩:=L ix;refine fg.book (r':=.wk i 3) (τ':=.num m) dR fV kG hX hT ix j (by rw[A];omega) (.refl Wg w) ix (zZ I f p cM) (by rw[o];exact .d3 b) k λa r E F _=>?_;have u:a (m0+i)=.wk i 4:=cL;exact⟨r.last c u cM,nV z c (by grind [kQ])⟩;grind
 |d3 h=>
  obtain⟨_,L⟩|h:=fg.quiet (sl:=sl) dR fV kG hX hT ix j cM h l e dq (λm g w h=>by rw[o];exact .d3 h);have⟨_,_,y,B⟩:=fV.isLast c e dq;simp only[Nat.reduceEqDiff,fq]at y;subst y B;have⟨D,x,m,b⟩:=L ix;refine fg.book (r':=.wk i 2) (τ':=.num m) dR fV kG hX hT ix j (by rw[A];omega) (aside_setCell w (stA Wg) _) (ix.setSt 0) (Vm I f p cM) (by rw[o];exact .d4 b) k λa r E F _=>?_;have u:a (m0+i)=.wk i 3:=cL;exact⟨r.last c u cM,nV z c (by grind [kQ])⟩;grind
 |d4 h=>
  obtain⟨_,aa,L⟩|h:=fg.quiet (sl:=sl) dR fV kG hX hT ix j cM h l e dq (λm g w h=>by rw[o];exact .d4 h);have⟨_,_,y,B⟩:=fV.isLast c e dq;simp only[em]at y;subst y B;have⟨D,x,q,K⟩:=L ix;have R:D.status=.running:=by
   cases q with
   |zero=>exact absurd K.2 cL
   |succ q=>exact K.elim cL cL
  refine fg.book (r':=.wk i 1) (τ':=.num q) dR fV kG hX hT ix j (by rw[A];omega) (aside_setCell w (smA Wg) _) (ix.setSm 1) (KJ I f p) (by rw[o];exact .quit (d:=deafBehind 1 (semEvents (smA Wg))) (by simpa[deafBehind,semEvents]using K)) k λa r E F h4=>?_;have u:a (m0+i)=.wk i 2:=cL;exact⟨r.raise c u (h4 (by grind [lU])),nV z c (by grind [kQ])⟩;grind
 |quit h=>exact fg.slip dR fV kG hX hT ix j cM dq h H l o e λ_ _ _ _ h=>.quit h
theorem fg.IW(hn:n<2147483647){c:CT}{g:cQ}(o:gs[m0+n]? =some g)(e:ro (m0+n)=.cl c)(R:g.status=.running):Goal P ty Wg Ch n rd0 val End w0 B0 m0 X T0 ro rk gs w sl t (m0+n)\/(c=.cl/\V9 P Ch (G.own (m0+n)) g w/\dd (m0+n)=0)\/(c=.w3/\stepG P false g w=.go {g with status:=.blocked} w #[]/\(∀w1,eP (G.own (m0+n)) (G.rd (m0+n)) (Lv ty Wg) w w1->WE P ty Wg Ch (G.rd (m0+n)) (G.own (m0+n)) g w1)/\dd (m0+n)=1/\sm=0):=by
 have E:=fV.pos;have Q:=dR.sit _ g o;have af:m0+n<gs.size:=cL;have l:G.user (m0+n):=(fV.usr _).2 cM;have L:=(dR.wg Wg).2 (.inl rfl);have A:=dR.wglow;have j:(m0+n==0)=false:=cL;have u:¬G.done (m0+n):=λh=>by obtain x|⟨i,s,x,_⟩:=(fV.done _).1 h;omega;grind
 have T:m0+n=G.sayer:=by rw[fV.say,e];rfl
 generalize p:rk (m0+n)=H at Q;generalize q:dd (m0+n)=d at Q;generalize B:G.own (m0+n)=v at Q;generalize a:G.rd (m0+n)=rc at Q;rw[e]at Q;cases Q with
 |Un F h=>
  obtain⟨_,J,y,ab,C⟩|h:=fg.idle (sl:=sl) dR fV kG hX hT ix (k:=m0+n) o (by rw[j,B,a];exact h) p e dq dq u (λH v g w h=>by rw[q,a];rw[j,a]at h;exact .Un F h);have⟨τ',b⟩:=Way.bind C F.walk;refine .inl (fg.book (r':=.cl .w1) (τ':=τ') dR fV kG hX hT ix o (by rw[j];omega) (.refl Wg w) ix (rE (e:=mk .disable) rfl trivial) (by rw[q,a];exact .R7 F b) cL λf m I D _=>?_);have z:f (m0+n)=.cl .kd:=cL;exact⟨m.zY z trivial trivial dq,mZ E (by grind [OW,qf])⟩;grind
 |R7 F h=>
  obtain⟨_,U⟩|h:=fg.idle (sl:=sl) dR fV kG hX hT ix (k:=m0+n) o (by rw[j,B,a];exact h) p e dq dq u (λH v g w h=>by rw[q,a];rw[j,a]at h;exact .R7 F h);have⟨r,S,s,h0,hz,M,_⟩:=fV.recv e;have⟨_,_,N,W⟩:=fV.mode.zX (by rw[e];trivial);rw[M,pB]at N;subst N W;have ad:=OW n m0 ro;have⟨J,y,ha,Y⟩:=U (V n m0 ro) cM ix;by_cases K:V n m0 ro=0;have⟨τ',b⟩:=ha K;refine .inl (fg.book (r':=.cl .ke) (τ':=τ') dR fV kG hX hT ix o (by rw[j];omega) (.refl Wg w) ix (zZ L l A cM) (by rw[q,a];exact .Sa b) cL λf m I D _=>?_);have z:f (m0+n)=.cl .w1:=cL;have⟨j1,j2,j3⟩:=m.Vl z (D.trans K);refine⟨cL,mZ E (by grind [qf])⟩;have⟨τ',b⟩:=Y K;refine .inl (fg.book (r':=.cl (.w2 (V n m0 ro))) (τ':=τ') dR fV kG hX hT ix o (by rw[j];omega) (.refl Wg w) ix (zZ L l A cM) (by rw[q,a];exact .Uo F b) cL λf m I D _=>?_);have z:f (m0+n)=.cl .w1:=cL;refine⟨m.zY z trivial trivial cL,mZ E (by grind [qf])⟩;grind
 | @Uo _ _ _ ae vs _ _ F h=>
  obtain⟨_,U⟩|h:=fg.idle (sl:=sl) dR fV kG hX hT ix (k:=m0+n) o (by rw[j,B,a];exact h) p e dq dq u (λH v g w h=>by rw[q,a];rw[j,a]at h;exact .Uo F h);have⟨r,S,s,h0,hz,M,_⟩:=fV.recv e;have⟨_,Z,N,W⟩:=fV.mode.zX (by rw[e];trivial);have Z:=Z _ e;rw[M,pB]at N;subst N W;have ad:=OW n m0 ro;have⟨ha,Y⟩:=U (V n m0 ro) cM ix;by_cases K:V n m0 ro=vs;have⟨J,y,τ',b⟩:=ha K;refine .inl (fg.book (r':=.cl .sw) (τ':=τ') dR fV kG hX hT ix o (by rw[j];omega) (aside_setCell w (stA Wg) _) (ix.setSt _) (sW L l A cM) (by rw[q,a];exact .Up b) cL λf m I D _=>?_);have z:f (m0+n)=.cl (.w2 vs):=cL;refine⟨by rw[K];exact m.Zz z (D.trans K),mZ E (by grind [qf])⟩;have⟨J,y,ab,C⟩:=Y K;have⟨τ',b⟩:=Way.bind C F.walk;refine .inl (fg.book (r':=.cl .w1) (τ':=τ') dR fV kG hX hT ix o (by rw[j];omega) (.refl Wg w) ix (zZ L l A cM) (by rw[q,a];exact .R7 F b) cL λf m I D _=>?_);have z:f (m0+n)=.cl (.w2 vs):=cL;refine⟨m.zY z trivial trivial dq,mZ E (by grind [qf])⟩;grind
 |Up h=>
  obtain⟨_,J,y,τ',b⟩|h:=fg.idle (sl:=sl) dR fV kG hX hT ix (k:=m0+n) o (by rw[j,B,a];exact h) p e dq dq u (λH v g w h=>by rw[q,a];rw[j,a]at h;exact .Up h);refine .inl (fg.book (r':=.cl .w3) (τ':=τ') dR fV kG hX hT ix o (by rw[j];exact y) (.refl Wg w) ix (FX (w:=true) L l T A) (by rw[q,a];exact .R8 b) cL λf m I D _=>?_);have z:f (m0+n)=.cl .sw:=cL;exact⟨m.WJ z trivial trivial dq,mZ E (by grind [qf])⟩;grind
 |R8 h=>
  obtain aa|h:=fg.KM (sl:=sl) dR fV kG hX hT ix (k:=m0+n) o (by rw[j,B,a];exact h) p e dq dq u (λH v g w h=>by rw[q,a];rw[j,a]at h;exact .R8 h);have O:=aa w (.refl _ _ _ _);rw[B]at O;have⟨_,ag,ha,Y⟩:=O;obtain h0|⟨rfl,rfl,_⟩:=fV.FW e;grind;have⟨J,y,τ',b⟩:=Y ix;refine .inl (fg.book (r':=.cl .w4) (τ':=τ') dR fV kG hX hT ix o (by rw[j];omega) (aside_setCell w (smA Wg) _) (ix.setSm 0) (KJ L l A) (by rw[q,a,B];exact .Uq b) cL λf m I D _=>?_);have z:f (m0+n)=.cl .w3:=cL;obtain x|⟨_,_,x⟩:=m.FW z;grind;exact⟨x,mZ E (by grind [qf])⟩;grind
 |R9 h=>grind
 |Uq h=>
  obtain⟨_,U⟩|h:=fg.idle (sl:=sl) dR fV kG hX hT ix (k:=m0+n) o (by rw[j,B,a];exact h) p e dq dq u (λH v g w h=>by rw[q,a];rw[j,a]at h;exact .Uq h);have⟨_,N,W⟩:=fV.mode.ofFin (by rw[e];trivial);subst N W;have⟨J,y,τ',b⟩:=U ix;refine .inl (fg.book (r':=.cl .ke) (τ':=τ') dR fV kG hX hT ix o (by rw[j];omega) (.refl Wg w) ix (zZ L l A cM) (by rw[q,a];exact .Sa b) cL λf m I D _=>?_);have z:f (m0+n)=.cl .w4:=cL;exact⟨m.KH (c':=.ke) z trivial trivial (by have:=m.clq;grind) (.inl rfl),mZ E (by grind [qf])⟩;grind
 |Sa h=>
  obtain⟨_,J,y,τ',b⟩|h:=fg.idle (sl:=sl) dR fV kG hX hT ix (k:=m0+n) o (by rw[j,B,a];exact h) p e dq dq u (λH v g w h=>by rw[q,a];rw[j,a]at h;exact .Sa h);refine .inl (fg.book (r':=.cl .ac) (τ':=τ') dR fV kG hX hT ix o (by rw[j];omega) (.refl Wg w) ix (rE (e:=mk .enable) rfl trivial) (by rw[q,a];exact .Ur b) cL λf m I D _=>?_);have z:f (m0+n)=.cl .ke:=cL;exact⟨m.KH (c':=.ac) z trivial trivial (by have:=m.clq;grind) (.inl rfl),mZ E (by grind [qf])⟩;grind
 |Ur h=>
  obtain⟨_,J,y,τ',b⟩|h:=fg.idle (sl:=sl) dR fV kG hX hT ix (k:=m0+n) o (by rw[j,B,a];exact h) p e dq dq u (λH v g w h=>by rw[q,a];rw[j,a]at h;exact .Ur h);refine .inl (fg.book (r':=.cl .cl) (τ':=τ') dR fV kG hX hT ix o (by rw[j];omega) (.refl Wg w) ix (rE (e:=mk (.acquire (stA Wg))) rfl A) (by rw[q,a];exact .Us b) cL λf m I D _=>?_);have z:f (m0+n)=.cl .ac:=cL;exact⟨m.KH (c':=.cl) z trivial trivial (by have:=m.clq;grind) (.inl rfl),mZ E (by grind [qf])⟩;grind
 |Us h=>
  obtain O|h:=fg.idle (sl:=sl) dR fV kG hX hT ix (k:=m0+n) o (by rw[j,B,a];exact h) p e dq dq u (λH v g w h=>by rw[q,a];rw[j,a]at h;exact .Us h);grind;grind
 |RJ h=>exact .inl (fg.slip dR fV kG hX hT ix o cM dq h R p q e λ_ _ _ _ h=>.RJ h)
end
end Go.dA.Cr
namespace Go.dA.Kn
open Go.Conc Go.dA
def nw{t u:Trace}(f:∀b∈u,b.act.touch?=none){a:Touch}(c:touchAt (t++u) i=some a):i<t.size/\touchAt t i=some a:=by have⟨b,d,e⟩:=touch_of c;grind [getElem?_append_cases,touchAt_of]
def Gh.child(G:Gh)(k c:Nat)(a:dp):Gh where
 own:=λx b=>if x=0 then G.own 0 b/\¬a b else if x=k then False else G.own x b
 rd:=λx b=>if x=k then G.rd 0 b\/a b else G.rd x b
 wg:=G.wg
 user:=λx=>G.user x\/x=k
 sayer:=c
 x:=G.x
 done:=G.done
 t0:=G.t0
theorem Gh.Fits.child{G:Gh}(h:G.Fits m)(t:k≠0)(r:¬G.done k)(j:i=G.sayer\/i=k)(l:∀b,A b->G.own 0 b):(G.child k i A).Fits m:=by
 have f:∀x b,(G.child k i A).own x b->G.own x b/\(x=0->¬A b)/\x≠k:=by intro x b a;grind [Gh.child,absurd]
 have n:∀x b,(G.child k i A).rd x b->(x≠k/\G.rd x b)\/(x=k/\(G.rd 0 b\/A b)):=by intro x b a;grind [Gh.child]
 refine⟨λx b a=>h.own x b (f x b a).1,λx b a=>?_,h.wg,λx y b d c=>h.one x y b (f x b d).1 (f y b c).1,λx y b d c=>?_,λx b d c=>h.ownwg x b (f x b d).1 c,λx b d c=>?_,λx o=>?_⟩;obtain⟨_,a⟩|⟨_,a|a⟩:=n x b a;exact h.rd x b a;exact h.rd 0 b a;exact h.own 0 b (l b a);have⟨g,p,q⟩:=f x b d;obtain⟨_,a⟩|⟨_,a|a⟩:=n y b c;exact h.still x y b g a;exact h.still x 0 b g a;have:=h.one x 0 b g (l b a);grind;obtain⟨_,a⟩|⟨_,a|a⟩:=n x b d;exact h.rdwg x b a c;exact h.rdwg 0 b a c;exact h.ownwg 0 b (l b a) c;have s:x≠k:=λe=>r (e▸o);have⟨g,p,q,u⟩:=h.done x o;refine⟨g,?_,λb a=>q b (f x b a).1,λb a=>?_⟩;obtain e|e:=j;exact e▸p;show i≠x;omega;grind
theorem gF.child{G:Gh}{t:Trace}{x y:MemOp}(h:gF G m t)(s:x.g=0/\x.act=.go k)(u:y.g=k/\y.act=.start)(H:Deaf t 0=0)(I:Deaf t k=0)(J:G.user 0) (v:i=G.sayer\/(i=k/\G.sayer=0))(K:∀b,A b->G.own 0 b)(L:k≠0):gF (G.child k i A) m (t++#[x,y]):=by
 have n:∀o∈#[x,y],o=x\/o=y:=by grind
 have w:∀o∈#[x,y],o.act.touch?=none:=by
  intro o p;obtain rfl|rfl:=n o p
  ·rw[s.2];rfl
  ·rw[u.2];rfl
 have r:gF G m (t++#[x,y]):=h.KE w λo p=>by
  obtain rfl|rfl:=n o p
  ·rw[s.2];trivial
  ·rw[u.2];trivial
 have D:∀{f},Knows t 0 f->Knows (t++#[x,y]) k f:=λM=>FU s u H I M;refine r.FT (λz b d f a j c=>?_) (λz b d f a j c E=>?_) (λb d f a j c=>?_) rfl λz f q a j B C=>?_
 ·simp only[Gh.child]at d;split at d
  ·next e=>subst e;exact r.own f a 0 b j c d.1
  ·split at d
   ·grind
   ·exact r.own f a z b j c d
 ·simp only[Gh.child]at d;split at d
  ·next e=>
   subst e;have⟨_,l⟩:=nw w j;obtain d|d:=d
   ·exact D (h.rd f a 0 b l c d E)
   ·exact D (h.own f a 0 b l c (K b d))
  ·exact r.rd f a z b j c d E
 ·have⟨_,l⟩:=nw w j;obtain e|⟨e,N⟩|e:=h.wg f a b l c d
  ·grind
  ·refine .inr (.inl ⟨e,?_⟩);show Knows _ i f;obtain F|⟨F,O⟩:=v
   ·rw[F];exact N.app _
   grind
  ·refine .inr (.inr λz q=>?_);obtain q|q:=q
   ·exact(e z q).app _
   grind
 ·exact r.told f a z j B C q
def Gh.hand(G:Gh)(j:Nat):Gh where
 own:=λx b=>if x=0 then G.own 0 b\/G.own j b else if x=j then False else G.own x b
 rd:=λx b=>if x=j then False else G.rd x b
 wg:=G.wg
 user:=G.user
 sayer:=G.sayer
 x:=G.x
 done:=λx=>G.done x\/x=j
 t0:=G.t0
theorem Gh.Fits.hand{G:Gh}(h:G.Fits m)(p:j≠0)(l:G.sayer≠j):(G.hand j).Fits m:=by
 have g:∀x b,(G.hand j).own x b->(x=0/\(G.own 0 b\/G.own j b))\/(x≠0/\x≠j/\G.own x b):=by intro x b f;grind [Gh.hand]
 have i:∀x b,(G.hand j).rd x b->G.rd x b/\x≠j:=by intro x b f;grind [Gh.hand]
 refine⟨λx b f=>?_,λx b f=>h.rd x b (i x b f).1,h.wg,λx y b a c=>?_,λx y b a c=>?_,λx b a c=>?_,λx b a c=>h.rdwg x b (i x b a).1 c,λx d=>?_⟩;obtain⟨_,a|a⟩|⟨_,_,a⟩:=g x b f;exact h.own 0 b a;exact h.own j b a;exact h.own x b a;obtain⟨rfl,a|a⟩|⟨q,n,a⟩:=g x b a<;>obtain⟨rfl,c|c⟩|⟨r,o,c⟩:=g y b c;rfl;rfl;exact h.one _ _ _ a c;rfl;rfl;exact absurd (h.one _ _ _ a c).symm o;exact h.one _ _ _ a c;exact absurd (h.one _ _ _ a c) n;exact h.one _ _ _ a c;obtain⟨_,a|a⟩|⟨_,_,a⟩:=g x b a;exact h.still 0 y b a (i y b c).1;exact h.still j y b a (i y b c).1;exact h.still x y b a (i y b c).1;obtain⟨_,a|a⟩|⟨_,_,a⟩:=g x b a;exact h.ownwg _ _ a c;exact h.ownwg _ _ a c;exact h.ownwg _ _ a c;have k:x≠0:=by obtain d|rfl:=d;exact(h.done x d).1;grind
 refine⟨k,?_,λb f=>?_,λb f=>?_⟩;obtain d|rfl:=d;exact(h.done x d).2.1;exact l;obtain⟨e,_⟩|⟨_,e,f⟩:=g x b f;grind;obtain d|d:=d;exact(h.done x d).2.2.1 b f;grind;have⟨f,e⟩:=i x b f;obtain d|d:=d;exact(h.done x d).2.2.2 b f;grind
theorem gF.hand{G:Gh}{n j c s cap:Nat}{t:Trace}{p q r u:MemOp}(h:gF G n t)(B:p.g=j/\p.act=.send c s)(C:q.g=0/\q.act=.recv c s cap)(D:r.g=j/\r.act=.sendDone c s)(E:u.g=0/\u.act=.recvDone c s) (J:Deaf t j=0)(F:Deaf t 0=0)(A:c<n):gF (G.hand j) n (t++#[p,q,r,u]):=by
 have v:∀k∈#[p,q,r,u],k=p\/k=q\/k=r\/k=u:=by simp
 have H:∀k∈#[p,q,r,u],k.act.touch?=none:=by
  intro k m;obtain rfl|rfl|rfl|rfl:=v k m
  ·rw[B.2];rfl
  ·rw[C.2];rfl
  ·rw[D.2];rfl
  ·rw[E.2];rfl
 have w:gF G n (t++#[p,q,r,u]):=h.KE H λk m=>by
  obtain rfl|rfl|rfl|rfl:=v k m
  ·rw[B.2];exact A
  ·rw[C.2];exact A
  ·rw[D.2];exact A
  ·rw[E.2];exact A
 have K:∀{i},Knows t j i->Knows (t++#[p,q,r,u]) 0 i:=λI=>DX B C D E J F I;refine w.FT (λz b d i a l f=>?_) (λz b d i a l f L=>?_) (λb d i a l f=>w.wg i a b l f d) rfl λz i x a l y o=>?_
 ·simp only[Gh.hand]at d;split at d
  ·next e=>
   subst e;obtain d|d:=d
   ·exact w.own i a 0 b l f d
   ·exact K (h.own i a j b (nw H l).2 f d)
  ·split at d
   ·grind
   ·exact w.own i a z b l f d
 ·simp only[Gh.hand]at d;split at d
  ·grind
  ·exact w.rd i a z b l f d L
 ·obtain(x|rfl)|x:=x
  ·exact w.told i a z l y o (.inl x)
  ·have⟨I,M⟩:=nw H l;rw[g?_old I]at o;have⟨k,m,N⟩:=iU.1 o;grind [knows_own]
  ·exact w.told i a z l y o (.inr x)
theorem qO{t:Trace}(k:Nat):∀(l:List MemOp),(∀a∈l,a.act≠ .mark .disable/\a.act≠ .mark .enable)->Deaf (t++l.toArray) k=Deaf t k:=by
 intro l b;rw[Deaf_append];generalize Deaf t k=d;induction l with
 |nil=>rfl
 |cons y l c=>
  grind [deafStep,absurd]
def gF.shut{G:Gh}{t:Trace}{y:MemOp}(h:gF G m t)(J:t.act? p=some (.close k))(K:t.heard p)(A:t.g? p=some i)(B:∀c a,G.t0<=c->touchAt t c=some a->a.loc.isMemory=true->t.g? c=some i->c<p)
 (C:y.g=0/\y.act=.recvClosed k)(L:Deaf t 0=0)(M:k<m)(H:∀c g,G.t0<=c->t.g? c=some g->g=0\/G.done g\/g=i):Past (pD λb=>G.wg b\/G.x b) m (t++#[y]):=by
 have I:∀j∈#[y],j.act.touch?=none:=by intro j e;have:j=y:=cL;subst this;rw[C.2];rfl
 have o:gF G m (t++#[y]):=h.KE I λj e=>by have:j=y:=cL;subst this;rw[C.2];exact M
 let N:Gh:={own:=λ_ _=>False,rd:=λ_ _=>False,wg:=G.wg,user:=λ_=>False,sayer:=G.sayer,x:=G.x,done:=λx=>G.done x\/x=i,t0:=G.t0};have O:gF N m (t++#[y]):=o.FT (λ_ _ q=>q.elim) (λ_ _ q=>q.elim) (λb q c a n D=>(o.wg c a b n D q).imp id (Or.imp id λ_ _ l=>l.elim)) rfl λz c l a n f d=>by obtain(l|rfl)|l:=l;exact o.told c a z n f d (.inl l);obtain r|r:=gC c G.t0;exact o.told c a z n f d (.inr r);have⟨s,E⟩:=nw I n;rw[g?_old s]at d;have F:=B c a r E f d;have⟨j,e,u⟩:=iU.1 d;have⟨P,v,w⟩:=iU.1 A;exact .inl (DY J K (.inr (hb_po F e v (u.trans w.symm))) C L);exact o.told c a z n f d (.inr l)
 have Q:Deaf (t++#[y]) 0=0:=by grind [qO]
 refine O.past (λc g R=>?_) Q;obtain r|r:=gC c G.t0;grind;obtain s|S:=gC c t.size;grind [g?_old];have⟨j,e,u⟩:=iU.1 R;grind
end Go.dA.Kn
namespace Go.dA.Cr
open Go.Conc Go.dA Go.dA.Kn
open Go.ConcR (KK wgBlock WgAt stA smA mk)
open Go.ConcN (sumTo upd sumTo_upd upd_ne upd_same sumTo_congr le_sumTo sumTo_le)
section
variable{P:cU}{ty:cR}{Wg Ch n:Nat}{rd0:Nat->Prop}{val:Nat->cK->(Nat->Prop)->cJ->Prop}{End:iV}{w0:cJ}{B0 m0:Nat}{X:Nat->Prop}{T0:Nat} {ro:Nat->eQ}{rk:Nat->WT}{dd:Nat->Nat}{G:Gh}{cl:Bool}{gs:Array cQ}{w w':cJ}{sl:Option (Nat×Nat)}{t:Trace}{st sm:Int}
theorem Gh.IX(G:Gh){k c:Nat}{a:dp}:(G.child k c a).own 0=λb=>G.own 0 b/\¬a b:=by grind [Gh.child]
theorem Gh.IY(G:Gh){k b:Nat}{a:dp}(c:k≠0):(G.child k b a).own k=dr:=by grind [Gh.child]
theorem Gh.Mm(G:Gh){k b x:Nat}{a:dp}(c:x≠0)(d:x≠k):(G.child k b a).own x=G.own x:=by grind [Gh.child]
theorem Gh.Mn(G:Gh){k c:Nat}{a:dp}:(G.child k c a).rd k=λb=>G.rd 0 b\/a b:=by grind [Gh.child]
theorem Gh.FY(G:Gh){k b x:Nat}{a:dp}(c:x≠k):(G.child k b a).rd x=G.rd x:=by grind [Gh.child]
theorem Com.spawn(h:Com P ty Wg Ch n rd0 val End w0 B0 ro rk dd G cl gs w t){g z child:cQ}{r0' rc':eQ}{τ0 τc:WT}{sy:Nat}{give:dp}{fn fn':dZ}{pos pos':String}(I:gs[0]? =some g)(f:dd 0=0) (A:∀b,give b->G.own 0 b)(p:sy=G.sayer\/(sy=gs.size/\G.sayer=0))(q:G.user 0)(r:¬G.done gs.size)
 (D:mD P ty Wg Ch n rd0 val End r0' τ0 0 (λb=>G.own 0 b/\¬give b) (G.rd 0) z w)(E:mD P ty Wg Ch n rd0 val End rc' τc 0 dr (λb=>G.rd 0 b\/give b) child w):
 Com P ty Wg Ch n rd0 val End w0 B0 (upd (upd ro gs.size rc') 0 r0') (upd (upd rk gs.size τc) 0 τ0) dd (G.child gs.size sy give) cl ((gs.setIfInBounds 0 z).push child) w (t++#[{g:=0,fn,pos,act:=.go gs.size},{g:=gs.size,fn:=fn',pos:=pos',act:=.start}]):=by
 have j:0<gs.size:=cL;have c:gs.size≠0:=cM;have u:dd gs.size=0:=h.above _ (di _);refine⟨λx o d=>?_,?_,?_,λx=>?_,λx B=>?_,h.wg,λx b a=>?_,h.wgch,h.wglow,λi x F B=>?_,λx b a=>?_,h.base,h.grown,h.world,h.live,h.ch⟩
 ·rw[vO]at d;split at d
  ·grind [Option.some.inj,upd_ne,upd_same,Gh.IY,Gh.Mn]
  ·next e=>
   have m:x≠gs.size:=cL;by_cases k:x=0
   ·subst k;rw[ou j]at d;obtain rfl:=dT d;rw[upd_same,upd_same,Gh.IX,Gh.FY _ (jg c),f];grind
   ·rw[gd (jg k)]at d;rw[upd_ne _ _ k,upd_ne _ _ m,upd_ne _ _ k,upd_ne _ _ m,Gh.Mm _ k m,Gh.FY _ m];exact h.sit x o d
 ·exact h.kn.child ⟨rfl,rfl⟩ ⟨rfl,rfl⟩ (by rw[h.deaf,f]) (by rw[h.deaf,u]) q p A c
 ·exact h.fits.child c r cM A
 ·have:=qO (t:=t) x [{g:=0,fn,pos,act:=.go gs.size},{g:=gs.size,fn:=fn',pos:=pos',act:=.start}] dq;exact this.trans (h.deaf x)
 ·have H:gs.size+1<=x:=cL;exact h.above x cM
 ·have J:Ch<w.lG:=by have⟨s,K⟩:=h.ch;grind
  obtain a|a:=a
  ·refine h.off x b (.inl ?_);grind [Gh.child]
  ·simp only[Gh.child]at a;split at a
   ·obtain a|a:=a
    ·exact h.off 0 b (.inr a)
    ·exact h.off 0 b cL
   ·exact h.off x b (.inr a)
 ·have⟨L,v,y⟩:=iU.1 B;obtain⟨_,l⟩|⟨_,C⟩:=getElem?_append_cases v
  ·have:=h.gsz i x F (by simp[Trace.g?,l,y]);grind
  grind
 ·simp only[Gh.child]at a;split at a
  ·next e=>exact h.new 0 b a.1
  ·split at a
   ·grind
   ·exact h.new x b a
theorem Gh.Mo(G:Gh){j:Nat}:(G.hand j).own 0=λb=>G.own 0 b\/G.own j b:=by grind [Gh.hand]
theorem Gh.O1(G:Gh){j x:Nat}(a:x≠0)(b:x≠j):(G.hand j).own x=G.own x:=by grind [Gh.hand]
theorem Gh.KN(G:Gh){j x:Nat}(a:x≠j):(G.hand j).rd x=G.rd x:=by grind [Gh.hand]
structure sX(Ch:Nat)(w w':cJ):Prop where
 tape:w'.tape=w.tape
 os:w'.os=w.os
 output:w'.output=w.output
 size:w'.heap.size=w.heap.size
 same:∀b,b≠Ch->w'.heap[b]? =w.heap[b]?
theorem sX.set(w:cJ)(d a:Nat)(c:eH)(cl:Bool)(s r:Nat)(e:Bool):sX Ch w ((w.at d).setChan Ch a c cl s r e):=by refine⟨rfl,rfl,rfl,by simp[World.setChan,World.at],λb f=>?_⟩;simp[World.setChan,World.at,gd (jg f)]
theorem setChan_at(w:cJ)(d a:Nat)(b:eH)(cl:Bool)(s r:Nat)(c:Bool)(h:Ch<w.heap.size):((w.at d).setChan Ch a b cl s r c).heap[Ch]? =some (.chan a b cl s r c):=by simp[World.setChan,World.at,h]
theorem sX.rely(h:sX Ch w w'){own rd:dp}(a:∀b,own b\/rd b->b≠Ch)(c:Wg≠Ch):eP own rd (Lv ty Wg) w w':=
 ⟨h.tape,h.os,h.output,by rw[h.size];grind,λb _ d=>h.same b (a b d),λ⟨st,sm,e⟩=>⟨st,sm,e.of_block (h.same Wg c)⟩⟩
theorem Com.hand(h:Com P ty Wg Ch n rd0 val End w0 B0 ro rk dd G cl gs w t){j:Nat}{d:Array cQ}{a b:cQ}{r0' rj':eQ}{τ0 τj:WT}{s cap:Nat}{fn fn' fn2 fn3:dZ}{pos pos' pos2 pos3:String} (f:j≠0)(J:j<gs.size)(E:0<gs.size)(k:dd 0=0)(v:dd j=0)(l:G.sayer≠j) (y:d.size=gs.size)(K:d[0]? =some a)(c:d[j]? =some b)(m:∀x,x≠0->x≠j->d[x]? =gs[x]?)(e:sX Ch w w')(z:∃s,w'.heap[Ch]? =some (.chan 0 #[] cl s s false))
 (L:mD P ty Wg Ch n rd0 val End r0' τ0 0 (λx=>G.own 0 x\/G.own j x) (G.rd 0) a w')(M:∀A N,mD P ty Wg Ch n rd0 val End rj' τj 0 A N b w'):
 Com P ty Wg Ch n rd0 val End w0 B0 (upd (upd ro j rj') 0 r0') (upd (upd rk j τj) 0 τ0) dd (G.hand j) cl d w' (t++#[{g:=j,fn,pos,act:=.send Ch s},{g:=0,fn:=fn',pos:=pos',act:=.recv Ch s cap},{g:=j,fn:=fn2,pos:=pos2,act:=.sendDone Ch s},{g:=0,fn:=fn3,pos:=pos3,act:=.recvDone Ch s}]):=by
 have B:Ch<w.lG:=by have⟨s,S⟩:=h.ch;grind
 refine⟨λx o u=>?_,?_,?_,λx=>?_,λx F=>h.above x cL,h.wg,λx b c=>?_,h.wgch,by rw[e.size];exact h.wglow,λi x O F=>?_,λx b c=>?_,λb c Q H=>(e.same b H).trans (h.base b c Q H),by rw[e.size];exact h.grown,
  ⟨e.tape.trans h.world.1,e.os.trans h.world.2.1,e.output.trans h.world.2.2⟩,?_,z⟩
 by_cases p:x=0;subst p;rw[K]at u;obtain rfl:=dT u;rw[upd_same,upd_same,Gh.Mo,Gh.KN _ (jg f),k];grind;by_cases q:x=j;grind [Option.some.inj,upd_ne,upd_same];rw[m x p q]at u;rw[upd_ne _ _ p,upd_ne _ _ q,upd_ne _ _ p,upd_ne _ _ q,Gh.O1 _ p q,Gh.KN _ q];exact(h.sit x o u).rely (e.rely (h.off x) h.wgch);rw[e.size];exact h.kn.hand ⟨rfl,rfl⟩ ⟨rfl,rfl⟩ ⟨rfl,rfl⟩ ⟨rfl,rfl⟩ (by rw[h.deaf,v]) (by rw[h.deaf,k]) B;rw[e.size];exact h.fits.hand f l;have:=qO (t:=t) x [{g:=j,fn,pos,act:=.send Ch s},{g:=0,fn:=fn',pos:=pos',act:=.recv Ch s cap},{g:=j,fn:=fn2,pos:=pos2,act:=.sendDone Ch s},{g:=0,fn:=fn3,pos:=pos3,act:=.recvDone Ch s}] dq;exact this.trans (h.deaf x);obtain c|c:=c;simp only[Gh.hand]at c;split at c;obtain c|c:=c;exact h.off _ b (.inl c);exact h.off _ b (.inl c);split at c;grind;exact h.off x b (.inl c);simp only[Gh.hand]at c;split at c;grind;exact h.off x b (.inr c);rw[y];have⟨T,C,D⟩:=iU.1 F;obtain⟨_,r⟩|⟨_,I⟩:=getElem?_append_cases C;exact h.gsz i x O (by simp[Trace.g?,r,D]);grind;simp only[Gh.hand]at c;split at c;obtain c|c:=c;exact h.new _ b c;exact h.new _ b c;split at c;grind;exact h.new x b c;have⟨st,sm,R⟩:=h.live;exact⟨st,sm,R.of_block (e.same Wg h.wgch)⟩
theorem Com.u4(h:Com P ty Wg Ch n rd0 val End w0 B0 ro rk dd G cl gs w t){k:Nat}{g':cQ}{r':eQ}{τ':WT}(c:k<gs.size)(f:mD P ty Wg Ch n rd0 val End r' τ' (dd k) (G.own k) (G.rd k) g' w):Com P ty Wg Ch n rd0 val End w0 B0 (upd ro k r') (upd rk k τ') dd G cl (gs.setIfInBounds k g') w t:=
 {h with
  sit:=λx o a=>by by_cases e:x=k;subst e;rw[ou c]at a;grind [Option.some.inj,upd_same];rw[gd (jg e)]at a;rw[upd_ne _ _ e,upd_ne _ _ e];exact h.sit x o a
  above:=λx b=>h.above x cL
  gsz:=λi x d b=>fB (h.gsz i x d b)}
end
section
variable{P:cU}{ty:cR}{Wg Ch n:Nat}{rd0:Nat->Prop}{val:Nat->cK->(Nat->Prop)->cJ->Prop}{End:iV}{w0:cJ}{B0 m0:Nat}{X:Nat->Prop}{T0:Nat} {ro:Nat->eQ}{rk:Nat->WT}{dd:Nat->Nat}{G:Gh}{cl:Bool}{gs:Array cQ}{w w':cJ}{sl:Option (Nat×Nat)}{t:Trace}{st sm:Int}
theorem mD.Si{r:eQ}{c:WT}{d:Nat}{a e:dp}{g:cQ}(h:mD P ty Wg Ch n rd0 val End r c d a e g w):offersAt g Ch true=[]\/∃i v z b,r=.wk i 8/\d=0/\g=parked b #[scase Ch v z] .send/\AtSend P ty Wg Ch val i v z a b w:=by
 obtain f|⟨_,f⟩:=h.running;grind [offersAt_of_not_blocked];cases h with
 |u4 h=>exact .inr ⟨_,_,_,_,rfl,rfl,rfl,h w (.refl _ _ _ _)⟩
 |Om h=>exact .inl (offersAt_parked_recv' _ _ _ _ _)
 |R9 h=>
  have j:=h w (.refl _ _ _ _);left;unfold offersAt;simp only[j.2.1]
 |old h=>exact .inl (offersAt_of_not_blocked (by obtain x|x:=h.status<;>rw[x]<;>simp) _ _)
 |quit h=>exact .inl (offersAt_of_not_blocked (by obtain x|x:=h.status<;>rw[x]<;>simp) _ _)
 |RJ h=>exact .inl (offersAt_of_not_blocked (by obtain x|x:=h.status<;>rw[x]<;>simp) _ _)
 |skd _ h=>exact .inl (offersAt_of_not_blocked (by rw[Way.running (λ_ _ _ x=>x.1) h];simp) _ _)
 |sa1 _ h=>exact .inl (offersAt_of_not_blocked (by rw[Way.running (λ_ _ _ x=>x.1) h];simp) _ _)
 |Um _ h=>exact .inl (offersAt_of_not_blocked (by rw[Way.running (λ_ _ _ x=>x.1) h];simp) _ _)
 |ske _ h=>exact .inl (offersAt_of_not_blocked (by rw[Way.running (λ_ _ _ x=>x.1) h];simp) _ _)
 |sgo _ h=>exact .inl (offersAt_of_not_blocked (by rw[Way.running (λ_ _ _ x=>x.1) h];simp) _ _)
 |R4 h=>exact .inl (offersAt_of_not_blocked (by rw[Way.running (λ_ _ _ x=>x.1) h];simp) _ _)
 |src h=>grind [offersAt_of_not_blocked,Way.running,ki]
 |sup h=>grind
 |R5 h=>exact .inl (offersAt_of_not_blocked (by rw[Way.running (λ_ _ _ ⟨_,_,x⟩=>x.1) h];simp) _ _)
 |r0 h=>exact .inl (offersAt_of_not_blocked (by rw[Goes.running (λ_ _ x=>x.1) w (.refl _ _ _ _) h];simp) _ _)
 |k1 h=>exact .inl (offersAt_of_not_blocked (by rw[Goes.running (λ_ _ x=>x.1) w (.refl _ _ _ _) h];simp) _ _)
 |d1 h=>exact .inl (offersAt_of_not_blocked (by rw[Goes.running (λ_ _ x=>x.1) w (.refl _ _ _ _) h];simp) _ _)
 |d2 h=>exact .inl (offersAt_of_not_blocked (by rw[Goes.running (λ_ _ x=>x.1) w (.refl _ _ _ _) h];simp) _ _)
 |d3 h=>exact .inl (offersAt_of_not_blocked (by rw[Goes.running (λ_ _ x=>x.1) w (.refl _ _ _ _) h];simp) _ _)
 |d4 h=>exact .inl (offersAt_of_not_blocked (by rw[Goes.running (λ_ _ x=>x.1) w (.refl _ _ _ _) h];simp) _ _)
 |Un _ h=>exact .inl (offersAt_of_not_blocked (by rw[Way.running (λ_ _ _ x=>x.1) h];simp) _ _)
 |R7 _ h=>exact .inl (offersAt_of_not_blocked (by rw[Way.running (λ_ _ _ x=>x.1) h];simp) _ _)
 |Uo _ h=>exact .inl (offersAt_of_not_blocked (by rw[Way.running (λ_ _ _ x=>x.1) h];simp) _ _)
 |Up h=>exact .inl (offersAt_of_not_blocked (by rw[Way.running (λ_ _ _ x=>x.1) h];simp) _ _)
 |R8 h=>exact .inl (offersAt_of_not_blocked (by rw[Way.running (λ_ _ _ x=>x.1) h];simp) _ _)
 |Uq h=>exact .inl (offersAt_of_not_blocked (by rw[Way.running (λ_ _ _ x=>x.1) h];simp) _ _)
 |Sa h=>exact .inl (offersAt_of_not_blocked (by rw[Way.running (λ_ _ _ x=>x.1) h];simp) _ _)
 |Ur h=>exact .inl (offersAt_of_not_blocked (by rw[Way.running (λ_ _ _ x=>x.1) h];simp) _ _)
 |Us h=>exact .inl (offersAt_of_not_blocked (by rw[Way.running (λ_ _ _ x=>x.1) h];simp) _ _)
theorem mD.KP{r:eQ}{e:WT}{d:Nat}{b f:dp}{g:cQ}(h:mD P ty Wg Ch n rd0 val End r e d b f g w):offersAt g Ch false=[]\/∃q S z c,r=.rc q S 1/\d=0/\g=parked c #[rcase Ch z] (.recv true)/\pE P ty Wg Ch n rd0 val End z q S b c w:=by
 by_cases a:g.status=.blocked;cases h with
 |u4 h=>exact .inl (offersAt_parked_send' _ _ _ _ _ _)
 |Om h=>exact .inr ⟨_,_,_,_,rfl,rfl,rfl,h w (.refl _ _ _ _)⟩
 |R9 h=>
  have i:=h w (.refl _ _ _ _);left;unfold offersAt;simp only[i.2.1]
 |old h=>obtain x|x:=h.status<;>rw[x]at a<;>cases a
 |quit h=>obtain x|x:=h.status<;>rw[x]at a<;>cases a
 |RJ h=>obtain x|x:=h.status<;>rw[x]at a<;>cases a
 |skd _ h=>rw[Way.running (λ_ _ _ x=>x.1) h]at a;grind
 |sa1 _ h=>rw[Way.running (λ_ _ _ x=>x.1) h]at a;grind
 |Um _ h=>rw[Way.running (λ_ _ _ x=>x.1) h]at a;grind
 |ske _ h=>rw[Way.running (λ_ _ _ x=>x.1) h]at a;grind
 |sgo _ h=>rw[Way.running (λ_ _ _ x=>x.1) h]at a;grind
 |R4 h=>rw[Way.running (λ_ _ _ x=>x.1) h]at a;grind
 |src h=>grind [Way.running,ki]
 |sup h=>grind
 |R5 h=>rw[Way.running (λ_ _ _ ⟨_,_,x⟩=>x.1) h]at a;grind
 |r0 h=>rw[Goes.running (λ_ _ x=>x.1) w (.refl _ _ _ _) h]at a;grind
 |k1 h=>rw[Goes.running (λ_ _ x=>x.1) w (.refl _ _ _ _) h]at a;grind
 |d1 h=>rw[Goes.running (λ_ _ x=>x.1) w (.refl _ _ _ _) h]at a;grind
 |d2 h=>rw[Goes.running (λ_ _ x=>x.1) w (.refl _ _ _ _) h]at a;grind
 |d3 h=>rw[Goes.running (λ_ _ x=>x.1) w (.refl _ _ _ _) h]at a;grind
 |d4 h=>rw[Goes.running (λ_ _ x=>x.1) w (.refl _ _ _ _) h]at a;grind
 |Un _ h=>rw[Way.running (λ_ _ _ x=>x.1) h]at a;grind
 |R7 _ h=>rw[Way.running (λ_ _ _ x=>x.1) h]at a;grind
 |Uo _ h=>rw[Way.running (λ_ _ _ x=>x.1) h]at a;grind
 |Up h=>rw[Way.running (λ_ _ _ x=>x.1) h]at a;grind
 |R8 h=>rw[Way.running (λ_ _ _ x=>x.1) h]at a;grind
 |Uq h=>rw[Way.running (λ_ _ _ x=>x.1) h]at a;grind
 |Sa h=>rw[Way.running (λ_ _ _ x=>x.1) h]at a;grind
 |Ur h=>rw[Way.running (λ_ _ _ x=>x.1) h]at a;grind
 |Us h=>rw[Way.running (λ_ _ _ x=>x.1) h]at a;grind
 exact .inl (offersAt_of_not_blocked a _ _)
def O2(P:cU)(Wg Ch:Nat)(End:iV)(w0:cJ)(B0:Nat)(X:dp)(m:Machine)(t:Trace):Prop:=
 ∃(gs:Array cQ) (w:cJ) (sl:Option (Nat×Nat)) (a:cQ) (q:Nat->Nat) (c:dp),
  m=crowd gs w sl/\gs[0]? =some a/\End c a w/\Leavers P t gs q/\Past (pD λb=>b=Wg\/b=Ch\/X b) w.heap.size t/\(∀b,c b->B0<=b/\b<w.heap.size/\b≠Wg/\b≠Ch)/\
   (∀b,b<B0->b≠Wg->b≠Ch->w.heap[b]? =w0.heap[b]?)/\B0<=w.heap.size/\(w.tape=w0.tape/\w.os=w0.os/\w.output=w0.output)/\Wg<w.heap.size
variable(dR:Com P ty Wg Ch n rd0 val End w0 B0 ro rk dd G cl gs w t)(fV:Pl n m0 ro cl G gs.size st sm)(kG:z0 Ch n m0 G cl t)(hX:G.x=X)(hT:G.t0=T0)(ix:WgAt ty Wg w st sm)
include dR fV kG hX hT ix
omit kG hX hT ix in
theorem open_of {i s:Nat} (hi:i<n) (e:ro (m0+i)=.wk i s) (hs:s≠1):cl=false:=by
 cases hc:cl with
 |false=>rfl
 |true=>
  have hq:=fV.clq.1 hc;obtain⟨S,s',_,hw,_⟩:=fV.vY hq trivial;grind
theorem fg.meet{i s:Nat}{r:Nat}{S:Nat->Bool}{R:Nat}{z v T:cK}{a M:cQ}{k:Nat}{h:Array cQ}{c:Nat}{w':cJ}{fn fn' fn2 fn3:dZ}{pos pos' pos2 pos3:String}(N:i<n)(e:ro (m0+i)=.wk i s)(U:s=9\/s=8)(V:ro 0=.rc r S R)(C:dd 0=0)(D:dd (m0+i)=0) (o:0<gs.size)(p:m0+i<gs.size)(E:G.rd 0=rd0) (W:pE P ty Wg Ch n rd0 val End z r S (G.own 0) a w)(O:AtSend P ty Wg Ch val i v T (G.own (m0+i)) M w)(Y:w.heap[Ch]? =some (.chan 0 #[] cl c c false)) (F:h.size=gs.size)(Z:h[0]? =some (Conc.served a (.tuple #[v,.bool true])))(j:h[m0+i]? =some (Conc.served M undef))(q:∀x,x≠0->x≠m0+i->h[x]? =gs[x]?) (H:∃d,w'=(w.at d).setChan Ch 0 #[] cl (c+1) (c+1) false) (u:runT P (crowd gs w sl) k=(.next (crowd h w' sl),#[{g:=m0+i,fn,pos,act:=.send Ch c},{g:=0,fn:=fn',pos:=pos',act:=.recv Ch c 0},{g:=m0+i,fn:=fn2,pos:=pos2,act:=.sendDone Ch c},{g:=0,fn:=fn3,pos:=pos3,act:=.recvDone Ch c}])):Goal P ty Wg Ch n rd0 val End w0 B0 m0 X T0 ro rk gs w sl t k:=by
 obtain⟨d,rfl⟩:=H;have hp:=fV.pos;have I:=lt_of_heap Y;have f:sX Ch w ((w.at d).setChan Ch 0 #[] cl (c+1) (c+1) false):=.set w d _ _ _ _ _ _;obtain⟨J,r',rfl,Q,A⟩:=fV.hand (G':=G.hand (m0+i)) N e V U rfl rfl (λk=>qF);have B:G.sayer≠m0+i:=by rw[fV.say];obtain x|x|⟨i2,s2,x,_⟩|⟨x,_⟩:=fV.lt_size p;omega;omega;unfold sayOf;grind;grind
 have⟨aa,ab,K⟩:=W;have⟨τ0,L⟩:=K i v (G.own (m0+i)) N J O.2.2.1 λb j ho=>by have:=dR.fits.one _ _ _ j ho;omega
 have⟨m,hm⟩:=O.2.2.2;have l:=dR.hand (r0':=.rc r' (upd S i true) 2) (rj':=.wk i 7) (τ0:=τ0) (τj:=.num m) (s:=c) (cap:=0) (fn:=fn) (fn':=fn') (fn2:=fn2) (fn3:=fn3) (pos:=pos) (pos':=pos') (pos2:=pos2) (pos3:=pos3) cM p o C D B F Z j q f ⟨c+1,setChan_at w d _ _ _ _ _ _ I⟩ (by
   rw[E];refine .src (z:=z) (L.rely (f.rely (λb j=>?_) dR.wgch));obtain(j|j)|j:=j;exact dR.off _ b (.inl j);exact dR.off _ b (.inl j);exact dR.off 0 b cL)
  (λ_ _=>.r0 (Goes.rely (λ_ _ _ x y=>x.trans y) hm (f.rely cL dR.wgch)))
 refine⟨_,_,⟨_,h.size,_,_⟩,u,.a A,_,_,sl,_,_,_,_,cl,st,sm,rfl,l,ix.of_block (f.same Wg dR.wgch),?_,?_,hX,hT,rfl⟩;grind;exact kG.app rfl cL
end
section
variable{P:cU}{ty:cR}{Wg Ch n:Nat}{rd0:Nat->Prop}{val:Nat->cK->(Nat->Prop)->cJ->Prop}{End:iV}{w0:cJ}{B0 m0:Nat}{X:Nat->Prop}{T0:Nat} {ro:Nat->eQ}{rk:Nat->WT}{dd:Nat->Nat}{G:Gh}{cl:Bool}{gs:Array cQ}{w w':cJ}{sl:Option (Nat×Nat)}{t:Trace}{st sm:Int}
theorem Goal.mk{k:Nat}{a:Array cQ}{w':cJ}{j:Option (Nat×Nat)}{ro':Nat->eQ}{rk':Nat->WT}{dd':Nat->Nat}{G':Gh}{cl':Bool}{d e:Int}{b:Array MemOp}(f:runT P (crowd gs w sl) k=(.next (crowd a w' j),b)) (c:Com P ty Wg Ch n rd0 val End w0 B0 ro' rk' dd' G' cl' a w' (t++b))(g:WgAt ty Wg w' d e)(h:Pl n m0 ro' cl' G' a.size d e)(i:z0 Ch n m0 G' cl' (t++b))(l:G'.x=X)(m:G'.t0=T0) (o:Mu.Lt ⟨meas n m0 ro',a.size,rk',IT (ro' (m0+n))⟩ ⟨meas n m0 ro,gs.size,rk,IT (ro (m0+n))⟩):Goal P ty Wg Ch n rd0 val End w0 B0 m0 X T0 ro rk gs w sl t k:=
 ⟨_,_,_,f,o,_,_,_,_,_,_,_,_,_,_,rfl,c,g,h,i,l,m,rfl⟩
variable(dR:Com P ty Wg Ch n rd0 val End w0 B0 ro rk dd G cl gs w t)(fV:Pl n m0 ro cl G gs.size st sm)(kG:z0 Ch n m0 G cl t)(hX:G.x=X)(hT:G.t0=T0)(ix:WgAt ty Wg w st sm)
include dR fV kG hX hT ix
theorem fg.O3{i:Nat}{g:cQ}(O:i<n)(Q:gs[m0+i]? =some g)(e:ro (m0+i)=.wk i 9)(A:0<gs.size):Goal P ty Wg Ch n rd0 val End w0 B0 m0 X T0 ro rk gs w sl t (m0+i):=by
 have hp:=fV.pos;have E:=dR.sit _ g Q;have F:m0+i<gs.size:=cL;have T:(m0+i==0)=false:=cL;have U:¬G.done (m0+i):=λh=>by obtain x|⟨i,s,x,_⟩:=(fV.done _).1 h;omega;grind
 have H:cl=false:=open_of dR fV O e dq;generalize V:rk (m0+i)=τ at E;generalize W:dd (m0+i)=d at E;generalize ho:G.own (m0+i)=Y at E;generalize y:G.rd (m0+i)=rc at E;rw[e]at E;cases E with
 |R5 h=>
  obtain B|h:=fg.KM (sl:=sl) dR fV kG hX hT ix (k:=m0+i) Q (by rw[T,ho,y];exact h) V e dq dq U (λτ Y g w h=>by rw[W,y];rw[T,y]at h;exact .R5 h);have⟨v,z,Z⟩:=B w (.refl _ _ _ _);have⟨c,hc⟩:=dR.ch;rw[H]at hc;have m:stepG P (m0+i==0) g w=.comm g #[scase Ch v z] true .send w #[]:=by rw[T];exact Z.2.1 w
  have I:=λx (o:cQ) (C:gs[x]? =some o)=>(dR.sit x o C).KP;by_cases aa:∃r S,ro 0=.rc r S 1;have⟨r,S,R⟩:=aa;have⟨ga,J⟩:∃ga,gs[0]? =some ga:=cL;have b:=dR.sit 0 ga J;obtain C|⟨q,S2,z2,K,L,ab,rfl,hL⟩:=b.KP
  ·exfalso;rw[R]at b;generalize dd 0=d0 at b;generalize G.rd 0=x0 at b;cases b with
   |Om h=>simp[offersAt_parked_recv]at C
  have M:=L;rw[R]at M;cases M;have f:partners (gs.setIfInBounds (m0+i) ph) Ch false=[(0,0)]:=by rw[partners_one (j:=0) (g:=parked K #[rcase Ch z2] (.recv true)) cL λx o ae C=>?_];simp[offersAt_parked_recv];obtain⟨_,rfl⟩|⟨_,p⟩:=getElem?_stand gs (m0+i) x o C;rfl;obtain h|⟨_,_,_,_,L,_⟩:=I x o p;grind;exfalso;obtain k0|⟨k1,D⟩|⟨_,_,_,_,D,_⟩|⟨_,_,D⟩:=fV.lt_size (iS.1 p).1;grind;rw[fV.old x k1 D]at L;grind;grind;grind
  have l:=crowd_send_meets (sl:=sl) Q m hc cM J f;have N:G.rd 0=rd0:=by
   generalize hq:G.rd 0=x at b;rw[R]at b;generalize dd 0=d0 at b;generalize parked K #[rcase Ch z2] (.recv true)=gg at b;cases b with
   |Om h=>rfl
  refine fg.meet (w':=w.setChan Ch 0 #[] cl (c+1) (c+1) false) dR fV kG hX hT ix O e (.inl rfl) R ab W A F N hL Z cL ?_ ?_ ?_ ?_ ⟨w.drawn,rfl⟩ (by simp only[MemOp.ofEvents,H]at l⊢;simpa using l);simp;rw[gd cM,ou A];rw[finishComm_recv];rfl;rw[ou cL];rw[finishComm_send];grind;have f:partners (gs.setIfInBounds (m0+i) ph) Ch false=[]:=partners_nil λx o C=>by obtain⟨_,rfl⟩|⟨_,p⟩:=getElem?_stand gs (m0+i) x o C;rfl;obtain h|⟨q,S,_,_,L,_⟩:=I x o p;grind;exfalso;obtain k0|⟨k1,D⟩|⟨_,_,_,_,D,_⟩|⟨_,_,D⟩:=fV.lt_size (iS.1 p).1;grind;rw[fV.old x k1 D]at L;grind;grind;grind
  have l:=crowd_waits (sl:=sl) Q m λcc af=>by have:cc=scase Ch v z:=cL;subst this;exact ways_send_none hc (gh _) f
  have ad:=fV.WG O e cL;have u:=dR.u4 (r':=.wk i 8) (τ':=rk (m0+i)) F (g':=parked g #[scase Ch v z] .send) (by rw[W,ho,y];refine .u4 λw1 ag=>?_;have⟨v1,z1,ac⟩:=B w1 cL;have:=(ac.2.1 w).symm.trans (Z.2.1 w);simp only[GStep.comm.injEq,Wo,Cn,scase,CommCase.mk.injEq,iN,and_true,true_and]at this;grind);rw[qN]at u;refine Goal.mk l (ro':=upd ro (m0+i) (.wk i 8)) (by simpa[MemOp.ofEvents]using u) ix cL (by simpa[MemOp.ofEvents]using kG) hX hT (.a (nV hp O (r':=.wk i 8) (by grind [kQ])));grind
theorem fg.Mp{g:cQ}(k:gs[m0+n]? =some g)(e:ro (m0+n)=.cl .w3)(l:stepG P false g w=.go {g with status:=.blocked} w #[])(m:∀h,eP (G.own (m0+n)) (G.rd (m0+n)) (Lv ty Wg) w h->WE P ty Wg Ch (G.rd (m0+n)) (G.own (m0+n)) g h)(o:dd (m0+n)=1)(p:sm=0):Goal P ty Wg Ch n rd0 val End w0 B0 m0 X T0 ro rk gs w sl t (m0+n):=by
 have s:=fV.pos;have f:m0+n<gs.size:=cL;have q:(m0+n==0)=false:=cL;have c:=runT_crowd_go (P:=P) (sl:=sl) (i:=m0+n) k (by rw[q];omega);have d:gs.map (woken P g {g with status:=.blocked} w)=gs:=by grind [Array.map_id,woken,blocked,id]
 rw[d]at c;have j:=fV.WJ (c':=.blk) e trivial trivial cL;have r:meas n m0 (upd ro (m0+n) (.cl .blk))=meas n m0 ro:=by unfold meas;rw[qM cM,sV cM,upd_same,upd_ne _ _ cM,e];rfl
 have a:=dR.u4 (r':=.cl .blk) (τ':=rk (m0+n)) f (g':={g with status:=.blocked}) (by rw[o];exact .R9 m);rw[qN]at a;refine Goal.mk c (ro':=upd ro (m0+n) (.cl .blk)) (by simpa[MemOp.ofEvents]using a) ix cL (by simpa[MemOp.ofEvents]using kG) hX hT (.b r dq rfl ?_);grind [upd_same,IT,upd,blk]
theorem fg.Mq{g:cQ}(hk:gs[m0+n]? =some g)(e:ro (m0+n)=.cl .cl)(ai:0<gs.size)(hC:V9 P Ch (G.own (m0+n)) g w)(D:dd (m0+n)=0):Goal P ty Wg Ch n rd0 val End w0 B0 m0 X T0 ro rk gs w sl t (m0+n):=by
 have hp:=fV.pos;have U:m0+n<gs.size:=(iS.1 hk).1;have e0:(m0+n==0)=false:=cL;have⟨S,s0,V,hw,hz⟩:=fV.vY e trivial;have E:cl=false:=by
  cases hc:cl with
  |false=>rfl
  |true=>have:=fV.clq.1 hc;grind
 have⟨c,u⟩:=dR.ch;rw[E]at u;have v:=lt_of_heap u;have⟨_,al,W,Y,Z,q,hq⟩:=hC;have am:=Z c c u;have F:=runT_crowd_go (P:=P) (sl:=sl) (i:=m0+n) hk (by rw[e0];omega);have aa:lU P g W=true:=by grind [lU]
 have d:sX Ch w (w.setChan Ch 0 #[] true c c false):=sX.set w w.drawn _ _ _ _ _ _;have m:(w.setChan Ch 0 #[] true c c false).heap[Ch]? =some (.chan 0 #[] true c c false):=setChan_at w w.drawn _ _ _ _ _ _ v;have H:MemOp.ofEvents (m0+n) g.frame.fn g.frame.place #[⟨.obj Ch,false,true⟩,⟨.obj Ch,true,true⟩]=MemOp.ofEvents (m0+n) g.frame.fn g.frame.place #[⟨.obj Ch,false,true⟩]++MemOp.ofEvents (m0+n) g.frame.fn g.frame.place #[⟨.obj Ch,true,true⟩]:=by simp[MemOp.ofEvents]
 have ab:¬G.done (m0+n):=by intro D;obtain⟨_,x⟩|⟨i,s,x,_⟩:=(fV.done _).1 D;omega;grind
 have ac:Kn.oE G (m0+n) (Deaf t (m0+n)) w.lG w.lG #[⟨.obj Ch,false,true⟩]:=by
  intro j ev I;match j,I with
  |0,I=>
   simp at I;subst I;refine⟨λx z _=>?_,v⟩;simp only[MemAct.ofEvent,MemAct.touch?,iN]at z;subst z;exact⟨Ch,rfl,.inr (.inl ⟨rfl,(dR.wg Ch).2 (.inr rfl),(fV.usr _).2 (.inr ⟨dq,U⟩),λD=>absurd D ab⟩)⟩
  |j+1,I=>grind
 have ad:∀k∈MemOp.ofEvents (m0+n) g.frame.fn g.frame.place #[⟨.obj Ch,false,true⟩,⟨.obj Ch,true,true⟩],k.g=m0+n/\k.act≠ .mark .disable/\k.act≠ .mark .enable:=by intro k f;obtain⟨x,z,rfl⟩:=Go.Conc.mem_ofEvents f;have:x=⟨.obj Ch,false,true⟩\/x=⟨.obj Ch,true,true⟩:=cL;obtain rfl|rfl:=this;exact⟨rfl,by simp[MemAct.ofEvent],by simp[MemAct.ofEvent]⟩;exact⟨rfl,by simp[MemAct.ofEvent],by simp[MemAct.ofEvent]⟩
 have hu:∀k∈MemOp.ofEvents (m0+n) g.frame.fn g.frame.place #[⟨.obj Ch,true,true⟩],k.g=m0+n/\k.act=.close Ch:=by intro k f;obtain⟨x,z,rfl⟩:=Go.Conc.mem_ofEvents f;have:x=⟨.obj Ch,true,true⟩:=cL;subst this;exact⟨rfl,rfl⟩
 have ae:∀k∈MemOp.ofEvents (m0+n) g.frame.fn g.frame.place #[⟨.obj Ch,true,true⟩],k.act.touch?=none:=λk f=>by rw[(hu k f).2];rfl
 have J:Pl n m0 (upd ro 0 (.rc 0 S 2)) cl G gs.size st sm:=fV.Zy V;have aj:=J.KH (c:=.cl) (c':=.quit) (cl':=true) (by grind [upd_ne]) trivial trivial dq (.inr λr S' x=>by grind [upd_same]);have A:Com P ty Wg Ch n rd0 val End w0 B0 (upd (upd ro 0 (.rc 0 S 2)) (m0+n) (.cl .quit)) (upd rk (m0+n) (.num q)) dd G true ((gs.map (woken P g W (w.setChan Ch 0 #[] true c c false))).setIfInBounds (m0+n) W) (w.setChan Ch 0 #[] true c c false)
  (t++MemOp.ofEvents (m0+n) g.frame.fn g.frame.place #[⟨.obj Ch,false,true⟩,⟨.obj Ch,true,true⟩]):=by
  refine⟨λx o Q=>?_,?_,by rw[d.size];exact dR.fits,λx=>?_,λx z=>dR.above x cL,dR.wg,dR.off,dR.wgch,by rw[d.size];exact dR.wglow,λi x hi z=>?_,dR.new,λb hb h1 h2=>(d.same b h2).trans (dR.base b hb h1 h2),by rw[d.size];exact dR.grown,
   dR.world,⟨st,sm,ix.of_block (d.same Wg dR.wgch)⟩,⟨c,m⟩⟩
  by_cases R:x=m0+n;subst R;rw[ou cL]at Q;obtain rfl:=dT Q;rw[upd_same,upd_same,D];exact .RJ hq;rw[gd (jg R),vN]at Q;obtain⟨y,hy,rfl⟩:=iU.1 Q;rw[upd_ne _ _ R,upd_ne _ _ R,FV,aa];simp only[em];have B:=(dR.sit x y hy).rely (d.rely (dR.off x) dR.wgch);by_cases K:x=0;subst K;rw[upd_same];rw[V]at B;generalize rk 0=an at B⊢;generalize dd 0=d0 at B⊢;generalize G.own 0=o0 at B⊢;generalize G.rd 0=r0 at B⊢;cases B with
  |src h=>
   rw[again_running _ (.inl (Way.running (λ_ _ _ x=>(ki x).1) h))];exact .src h
  |Om h=>
   rw[again_recv_closed m];exact .sup h
  |sup h=>
   rw[again_running _ (.inl rfl)];exact .sup h
  rw[upd_ne _ _ K];have L:=(iS.1 hy).1;have T:=B.again true m λ_=>?_;obtain k0|⟨k1,p⟩|⟨_,_,_,_,p,_⟩|⟨p,_⟩:=fV.lt_size L;grind;rw[fV.old x k1 p]at T⊢;exact T;rw[p]at T⊢;exact T;grind;obtain k0|⟨k1,p⟩|⟨i,_,hi,rfl,p,_⟩|⟨p,_⟩:=fV.lt_size L;grind;rw[fV.old x k1 p];grind;grind;grind;rw[d.size];rw[H,<-Array.append_assoc];have M:=dR.kn.step (fn:=g.frame.fn) (pos:=g.frame.place) dR.fits (di _) (λ_=>rfl) ac;rw[Kn.Gh.tY]at M;exact M.KE ae λk f=>by rw[(hu k f).2];exact v
  have:=qO (t:=t) x (MemOp.ofEvents (m0+n) g.frame.fn g.frame.place #[⟨.obj Ch,false,true⟩,⟨.obj Ch,true,true⟩]).toList (λk f=>(ad k (Array.mem_toList_iff.1 f)).2);rw[<-dR.deaf x,<-this];have⟨k,f,af⟩:=iU.1 z;obtain⟨_,N⟩|⟨_,ak⟩:=getElem?_append_cases f;have:=dR.gsz i x hi (by simp[Trace.g?,N,af]);grind;grind
 have C:meas n m0 (upd (upd ro 0 (.rc 0 S 2)) (m0+n) (.cl .quit))<meas n m0 ro:=by unfold meas;rw[qM (.inr (di _)),qM (.inl hp),sV (.inr (di _)),sV (.inl hp),upd_same,upd_ne _ _ cM,upd_same,V,e];grind [u5,qf]
 refine Goal.mk F A (ix.of_block (d.same Wg dR.wgch)) cL ?_ hX hT (.a C);intro _;have l:(t++MemOp.ofEvents (m0+n) g.frame.fn g.frame.place #[⟨.obj Ch,false,true⟩,⟨.obj Ch,true,true⟩])[t.size+1]? =some {g:=m0+n,fn:=g.frame.fn,pos:=g.frame.place,act:=.close Ch}:=by rw[DM dq,ofEvents_eq];simp[MemAct.ofEvent]
 have ag:(t++MemOp.ofEvents (m0+n) g.frame.fn g.frame.place #[⟨.obj Ch,false,true⟩,⟨.obj Ch,true,true⟩]).size=t.size+2:=by simp[MemOp.ofEvents]
 refine⟨t.size+1,by rw[act?_of l],⟨m0+n,by simp only[Trace.g?,l,mg],?_⟩,by simp only[Trace.g?,l,mg],λi a _ ha _ _=>?_⟩;rw[deaf_inside _ _ _ _ _ 1 dq,dR.deaf (m0+n),D];simp[deafBehind];have⟨k,f,ah⟩:=touch_of ha;have O:=(iS.1 f).1;rw[ag]at O;obtain h|h:=gC i (t.size+1);grind;have:i=t.size+1:=cM;subst this;rw[l]at f;cases f;cases ah
end
section
variable{P:cU}{ty:cR}{Wg Ch n:Nat}{rd0:Nat->Prop}{val:Nat->cK->(Nat->Prop)->cJ->Prop}{End:iV}{w0:cJ}{B0 m0:Nat}{X:Nat->Prop}{T0:Nat} {ro:Nat->eQ}{rk:Nat->WT}{dd:Nat->Nat}{G:Gh}{cl:Bool}{gs:Array cQ}{w w':cJ}{sl:Option (Nat×Nat)}{t:Trace}{st sm:Int}
variable(dR:Com P ty Wg Ch n rd0 val End w0 B0 ro rk dd G cl gs w t)(fV:Pl n m0 ro cl G gs.size st sm)(kG:z0 Ch n m0 G cl t)(hX:G.x=X)(hT:G.t0=T0)(ix:WgAt ty Wg w st sm)
include dR fV kG hX hT ix
theorem fg.FZ{r:Nat}{S:Nat->Bool}{z:cK}{g a:cQ}(O:gs[0]? =some g)(h0:ro 0=.rc r S 2)(hL:∀w1,eP (G.own 0) rd0 (Lv ty Wg) w w1->pE P ty Wg Ch n rd0 val End z r S (G.own 0) a w1)(U:G.rd 0=rd0)(V:dd 0=0) (af:∀w,stepG P true g w=.comm a #[rcase Ch z] true (.recv true) w #[]):(∃H W,runT P (crowd gs w sl) 0=(.next H,W)/\O2 P Wg Ch End w0 B0 X H (t++W))\/Goal P ty Wg Ch n rd0 val End w0 B0 m0 X T0 ro rk gs w sl t 0:=by
 have hp:=fV.pos;have A:0<gs.size:=cL;have⟨c,Q⟩:=dR.ch;have ag:=lt_of_heap Q;have l:stepG P (0==0) g w=.comm a #[rcase Ch z] true (.recv true) w #[]:=af w;have Y:=λx (o:cQ) (m:gs[x]? =some o)=>(dR.sit x o m).Si;have Z:=hL w (.refl _ _ _ _);by_cases ah:∃i,i<n/\ro (m0+i)=.wk i 8
 ·right;have ai:partners (gs.setIfInBounds 0 ph) Ch true≠[]:=by
   have⟨i,J,e⟩:=ah;have B:m0+i<gs.size:=by
    cases fV.lay with
    |st r2 s2 g0 gs gr gc gz gw gn=>grind
    |uC g0 gc gz gw=>omega
    |rc r2 S2 s2 g0 gc gz gw gS gs=>omega
   intro ar;have m:gs[m0+i]? =some gs[m0+i]:=nh B;have F:=dR.sit _ _ m;have au:(m0+i,0)∈partners (gs.setIfInBounds 0 ph) Ch true:=by
    refine mem_partners.2 ⟨gs[m0+i],cL,?_⟩;rw[e]at F;generalize gs[m0+i]=o at F⊢;generalize dd (m0+i)=d0 at F;cases F with
    |u4 h=>simp[offersAt_parked_send]
   grind
  have aa:∀j k,(j,k)∈partners (gs.setIfInBounds 0 ph) Ch true->k=0/\j≠0/\∃gj R T K,gs[j]? =some (parked gj #[scase Ch R T] K):=by intro j k aj;have⟨o,ho,ak⟩:=mem_partners.1 aj;obtain⟨_,rfl⟩|⟨al,m⟩:=getElem?_stand gs 0 j o ho;cases ak;grind [offersAt_parked_send]
  have⟨j,gj,R,T,K,d,al,L,f⟩:=crowd_recv_meets_some (sl:=sl) O l Q ai aa;obtain h|⟨i,v,z2,ab,hr,am,he,hA⟩:=Y j _ L;simp[offersAt_parked_send]at h;have J:i<n/\j=m0+i:=by obtain k0|⟨I,s⟩|⟨M,_,C,rfl,s,_⟩|⟨_,_,s⟩:=fV.lt_size (iS.1 L).1;omega;rw[fV.old j I s]at hr;grind;grind;grind
  obtain⟨J,rfl⟩:=J;have e1:(R=v/\T=z2)/\K=.send:=by have:=dH Goroutine.offers he;simpa[parked,scase]using this
  obtain⟨⟨rfl,rfl⟩,rfl⟩:=e1;have e2:gj.finishComm P #[scase Ch R T] .send 0 gU false=Conc.served ab gU:=by rw[<-finishComm_parked P gj #[scase Ch R T] #[scase Ch R T] .send .send,he,finishComm_parked,finishComm_send]
  have e3:gj.frame=ab.frame:=by have:=dH Goroutine.frame he;grind [parked]
  have B:=(iS.1 L).1;refine fg.meet (w':=(w.at d).setChan Ch 0 #[] cl (c+1) (c+1) false) dR fV kG hX hT ix J hr (.inr rfl) h0 V am A B U Z hA Q ?_ ?_ ?_ ?_ ⟨d,rfl⟩ (by simp only[MemOp.ofEvents]at f⊢;simpa using f);simp;rw[ou cL,finishComm_recv];rfl;grind;grind
 have N:partners (gs.setIfInBounds 0 ph) Ch true=[]:=partners_nil λx o m=>by obtain⟨_,rfl⟩|⟨aw,ac⟩:=getElem?_stand gs 0 x o m;rfl;obtain h|⟨i,_,_,_,hr,_⟩:=Y x o ac;omega;exfalso;obtain k0|⟨I,s⟩|⟨M,_,C,rfl,s,_⟩|⟨_,_,s⟩:=fV.lt_size (iS.1 ac).1;omega;rw[fV.old x I s]at hr;grind;grind;grind
 cases D:cl with
 |false=>
  right;rw[D]at Q;have f:=crowd_waits (sl:=sl) O l λcc ax=>by grind [ways_recv_none]
  have av:=fV.WI h0 D λi J h8=>by
   cases fV.lay with
   |st r2 s2 g0 gs gr gc gz gw gn=>grind
   |uC g0 gc gz gw=>grind
   |rc r2 S2 s2 g0 gc gz gw gS gs=>
    grind [kQ]
  have E:=dR.u4 (r':=.rc r S 1) (τ':=rk 0) A (g':=parked a #[rcase Ch z] (.recv true)) (by rw[V,U];exact .Om hL);rw[qN]at E;exact Goal.mk f (ro':=upd ro 0 (.rc r S 1)) (by simpa[MemOp.ofEvents]using E) ix cL (by simpa[MemOp.ofEvents]using kG) hX hT (.a (oG hp (by grind [u5])))
 |true=>
  left;rw[D]at Q;have hq:=fV.clq.1 D;have⟨S2,s2,ad,hw,hz⟩:=fV.vY hq trivial;rw[h0]at ad;cases ad;have f:=crowd_recv_closed (sl:=sl) O l Q N;have⟨p,I,s,k3,k4⟩:=kG D;have an:=dR.kn.shut (y:={g:=0,fn:=a.frame.fn,pos:=a.frame.place,act:=.recvClosed Ch}) I s k3 k4 ⟨rfl,rfl⟩ (by rw[dR.deaf];omega) ag λi x J m=>by have B:=dR.gsz i x J m;obtain k0|⟨I,s⟩|⟨M,_,C,rfl,s,_⟩|⟨s,_⟩:=fV.lt_size B;omega;exact .inr (.inl ((fV.done _).2 cL));refine .inr (.inl ?_);have⟨k,O⟩:=hw M C;exact(fV.done _).2 cL;omega
  have ao:∀j x,0<j->gs[j]? =some x->∃q,QuitsD P q (dd j) x:=λj x L m=>by
   have u:=dR.sit j x m;obtain k0|⟨I,s⟩|⟨M,_,C,rfl,_⟩|⟨rfl,_⟩:=fV.lt_size (iS.1 m).1;omega;rw[fV.old j I s]at u;generalize rk j=τ at u;generalize dd j=d at u⊢;cases u with
   |old h=>grind
   have⟨k,O⟩:=hw M C;rw[O]at u;generalize rk (m0+M)=τ at u;generalize dd (m0+M)=d at u⊢;cases u with
   |quit h=>grind
   rw[hq]at u;generalize rk (m0+n)=τ at u;generalize dd (m0+n)=d at u⊢;cases u with
   |RJ h=>grind
  have ap:∀j,Deaf (t++#[({g:=0,fn:=a.frame.fn,pos:=a.frame.place,act:=.recvClosed Ch}:MemOp)]) j=dd j:=λj=>by have:=qO (t:=t) j [({g:=0,fn:=a.frame.fn,pos:=a.frame.place,act:=.recvClosed Ch}:MemOp)] dq;exact this.trans (dR.deaf j)
  refine⟨_,_,f,gs.setIfInBounds 0 (a.finishComm P #[rcase Ch z] (.recv true) 0 z false),w,sl,_,(λj=>open Classical in if h:∃q,∀x,gs[j]? =some x->QuitsD P q (dd j) x then Classical.choose h else 0),G.own 0,rfl,ou A,?_,⟨λj x L m=>?_,λj L=>?_⟩,?_,λb hb=>?_,dR.base,dR.grown,dR.world,dR.wglow⟩;rw[finishComm_recv];exact Z.2.2;rw[gd cM]at m;have⟨q,ay⟩:=ao j x L m;have ae:∃q,∀x,gs[j]? =some x->QuitsD P q (dd j) x:=⟨q,cL⟩;simp only[dif_pos ae];have:=jG ae x m;show QuitsD P _ (Deaf (t++(#[]++#[_])) j) x;grind;have aq:gs.size<=j:=cL;have:=dR.above j aq;show Deaf (t++(#[]++#[_])) j=0;grind;have e:(λb=>b=Wg\/b=Ch\/X b)=λb=>G.wg b\/G.x b:=by funext b;rw[hX];exact propext (or_assoc.symm.trans (or_congr (dR.wg b).symm qF))
  grind [MemOp.ofEvents];exact⟨dR.new 0 b hb,dR.fits.own 0 b hb,λe=>dR.fits.ownwg 0 b hb ((dR.wg b).2 (.inl e)),dR.off 0 b (.inl hb)⟩
theorem fg.O4(hn:n<2147483647){g:cQ}(o:gs[0]? =some g)(u:g.status=.running):(∃L aa,runT P (crowd gs w sl) 0=(.next L,aa)/\O2 P Wg Ch End w0 B0 X L (t++aa))\/Goal P ty Wg Ch n rd0 val End w0 B0 m0 X T0 ro rk gs w sl t 0:=by
 have hp:=fV.pos;have ah:0<gs.size:=cL;have hS:=dR.sit 0 g o;have v:G.user 0:=(fV.usr _).2 (.inl rfl);have hw:=(dR.wg Wg).2 (.inl rfl);have R:=dR.wglow;have C:¬G.done 0:=λh=>(dR.fits.done 0 h).1 rfl;generalize D:rk 0=A at hS;generalize B:dd 0=d at hS;generalize E:G.own 0=f at hS;generalize c:G.rd 0=rc at hS;generalize y:ro 0=r at hS;cases hS with
 | @skd r A f g w j h=>
  right;obtain⟨_,g',m,τ',l⟩|h:=fg.idle (sl:=sl) dR fV kG hX hT ix (k:=0) o (by rw[E,c];exact h) D y dq dq C (λA f g w h=>by rw[B,c];rw[c]at h;exact .skd j h);refine fg.book (r':=.st r 5) (τ':=τ') dR fV kG hX hT ix o m (.refl Wg w) ix (rE (e:=mk .disable) rfl trivial) (by rw[B,c];exact .sa1 j l) cL λp J h2 h3 _=>?_;have K:p 0=.st r 6:=cL;exact⟨J.DZ K dq dq,oG hp (by grind [u5])⟩;omega
 | @sa1 r A f g w j h=>
  right;obtain⟨_,hx⟩|h:=fg.idle (sl:=sl) dR fV kG hX hT ix (k:=0) o (by rw[E,c];exact h) D y dq dq C (λA f g w h=>by rw[B,c];rw[c]at h;exact .sa1 j h);have⟨k1,k2,_⟩:=fV.IU (s':=4) y (.inl rfl);subst k1 k2;have ak:=OW n m0 ro;have⟨g',m,ha,hb⟩:=hx (V n m0 ro) cM ix;by_cases hV:V n m0 ro=0;have⟨τ',l⟩:=ha hV;refine fg.book (r':=.st r 4) (τ':=τ') dR fV kG hX hT ix o m (aside_setCell w (stA Wg) _) (ix.setSt _) (sW hw v R cM) (by rw[B,c,E];exact .Um j cL) cL λp J h2 h3 _=>?_;have K:p 0=.st r 5:=cL;have:=(J.IU (s':=4) K (.inl rfl)).2.2;rw[h3]at this;exact⟨this,oG hp (by grind [u5])⟩;have⟨τ',l⟩:=hb hV;refine fg.book (r':=.st r 3) (τ':=τ') dR fV kG hX hT ix o m (aside_setCell w (stA Wg) _) (ix.setSt _) (sW hw v R cM) (by rw[B,c,E];exact .ske j cL) cL λp J h2 h3 _=>?_;have K:p 0=.st r 5:=cL;have:=(J.IU (s':=3) K (.inr rfl)).2.2;rw[h3]at this;exact⟨this,oG hp (by grind [u5])⟩;omega
 | @Um r A f g w j h=>
  right;obtain⟨_,g',m,τ',l⟩|h:=fg.idle (sl:=sl) dR fV kG hX hT ix (k:=0) o (by rw[E,c];exact h) D y dq dq C (λA f g w h=>by rw[B,c];rw[c]at h;exact .Um j h);refine fg.book (r':=.st r 3) (τ':=τ') dR fV kG hX hT ix o m (.refl Wg w) ix (FX (w:=false) hw v (by rw[fV.say,(fV.D5 y).1];rfl) R) (by rw[B,c];exact .ske j l) cL λp J h2 h3 _=>?_;have K:p 0=.st r 4:=cL;exact⟨J.DZ K dq dq,oG hp (by grind [u5])⟩;omega
 | @ske r A f g w j h=>
  right;obtain⟨_,g',m,τ',l⟩|h:=fg.idle (sl:=sl) dR fV kG hX hT ix (k:=0) o (by rw[E,c];exact h) D y dq dq C (λA f g w h=>by rw[B,c];rw[c]at h;exact .ske j h);refine fg.book (r':=.st r 2) (τ':=τ') dR fV kG hX hT ix o m (.refl Wg w) ix (rE (e:=mk .enable) rfl trivial) (by rw[B,c];exact .sgo j l) cL λp J h2 h3 _=>?_;have K:p 0=.st r 3:=cL;exact⟨J.DZ K dq dq,oG hp (by grind [u5])⟩;omega
 | @sgo r A f g w j h=>
  right;obtain⟨_,g',child,give,m,ae,T,⟨τc,U⟩,l⟩|h:=fg.idle (sl:=sl) dR fV kG hX hT ix (k:=0) o (by rw[E,c];exact h) D y dq dq C (λA f g w h=>by rw[B,c];rw[c]at h;exact .sgo j h);rw[E]at T l;have u:=runT_crowd_spawn (P:=P) (sl:=sl) (i:=0) o m;have W:=(fV.D5 y).2.2;have⟨ab,Y⟩:=fV.spawn (G':=G.child gs.size G.sayer give) y (λk=>qF) rfl rfl
  have H:¬G.done gs.size:=λh=>by
   obtain x|⟨i,s,x,_⟩:=(fV.done _).1 h;omega;cases fV.lay with
   |st r2 s2 F I gr M N O gn=>
    grind
   |uC F M N O=>omega
   |rc r2 S2 s2 F M N O gS I=>omega
  have⟨τ0,af⟩:∃τ0,mD P ty Wg Ch n rd0 val End (qh r) τ0 0 (λb=>G.own 0 b/\¬give b) (G.rd 0) g' w:=by
   rw[E,c];cases r with
   |zero=>
    have⟨τ0,hx⟩:=l;exact⟨τ0,.R4 hx⟩
   |succ r=>
    have⟨τ0,hx⟩:=l;exact⟨τ0,.skd cM hx⟩
  have q:=dR.spawn (r0':=qh r) (rc':=.wk (n-(r+1)) 9) (τ0:=τ0) (τc:=τc) (sy:=G.sayer) (give:=give) (fn:=g.frame.fn) (fn':=child.frame.fn) (pos:=g.frame.place) (pos':=g.frame.place) o B cL (.inl rfl) v H af (by rw[c];exact .R5 U);refine Goal.mk (G':=G.child gs.size G.sayer give) (rk':=upd (upd rk gs.size τc) 0 τ0) (dd':=dd) (cl':=cl) u (by simpa[MemOp.ofEvents]using q) ix cL ?_ hX hT (.a Y);refine kG.app rfl λ_ op Z _=>?_;have Q:op={g:=0,fn:=g.frame.fn,pos:=g.frame.place,act:=.go gs.size}\/op={g:=gs.size,fn:=child.frame.fn,pos:=g.frame.place,act:=.start}:=by simpa[MemOp.ofEvents]using Z
  grind;omega
 | @R4 A f g w h=>
  right;obtain⟨_,g',child,give,z,m,ae,T,⟨ai,hA,τc,U⟩,⟨τ0,l⟩⟩|h:=fg.idle (sl:=sl) dR fV kG hX hT ix (k:=0) o (by rw[E,c];exact h) D y dq dq C (λA f g w h=>by rw[B,c];rw[c]at h;exact .R4 h);rw[E]at T l;have u:=runT_crowd_spawn (P:=P) (sl:=sl) (i:=0) o m;have⟨W,ab,Y⟩:=fV.Vk (G':=G.child gs.size (m0+n) give) y (λk=>qF) rfl rfl;have ag:ro (m0+n)=.none:=by
   cases fV.lay with
   |st r2 s2 F I gr M N O gn=>omega
   |uC F M N O=>omega
   |rc r2 S2 s2 F M N O gS I=>omega
  have H:¬G.done gs.size:=λh=>by obtain x|⟨i,s,x,_⟩:=(fV.done _).1 h;omega;grind
  have aj:G.sayer=0:=by rw[fV.say,ag];rfl
  have q:=dR.spawn (r0':=.rc n (λ_=>false) 2) (rc':=.cl .kd) (τ0:=τ0) (τc:=τc) (sy:=m0+n) (give:=give) (fn:=g.frame.fn) (fn':=child.frame.fn) (pos:=g.frame.place) (pos':=g.frame.place) o B cL cM v H (by rw[E,c];exact .src l) (by rw[c];exact .Un hA U);rw[W]at q;refine Goal.mk (G':=G.child gs.size (m0+n) give) (rk':=upd (upd rk (m0+n) τc) 0 τ0) (dd':=dd) (cl':=cl) u (by simpa[MemOp.ofEvents,W]using q) ix cL ?_ hX hT (.a Y);refine kG.app rfl λ_ op Z _=>?_;have Q:op={g:=0,fn:=g.frame.fn,pos:=g.frame.place,act:=.go gs.size}\/op={g:=gs.size,fn:=child.frame.fn,pos:=g.frame.place,act:=.start}:=by simpa[MemOp.ofEvents]using Z
  obtain rfl|rfl:=Q<;>rfl;omega
 | @src r S z A f g w h=>
  obtain ac|h:=fg.KM (sl:=sl) dR fV kG hX hT ix (k:=0) o (by rw[E,c];exact h) D y dq dq C (λA f g w h=>by rw[B,c];rw[c]at h;exact .src h);refine fg.FZ dR fV kG hX hT ix o y cL c B (ki (ac w (.refl _ _ _ _))).2;grind
 | @Om r S z A f g w h=>cases u
 | @sup S z A f g w h=>
  have hx:=ki (h w (.refl _ _ _ _));refine fg.FZ (a:=g) dR fV kG hX hT ix o y (λw1 ad=>by rw[E]at ad⊢;exact h w1 ad) c B λw1=>?_;rw[stepG_tries];have e:({g with status:=.running}:cQ)=g:=by have⟨fr,cl,s,dy,of⟩:=g;grind
  grind
 |_=>
  exfalso;cases fV.lay with
  |st r2 s2 F I gr M N O gn=>rw[y]at F;cases F
  |uC F M N O=>rw[y]at F;cases F
  |rc r2 S2 s2 F M N O gS I=>rw[y]at F;cases F
end
section
variable{P:cU}{ty:cR}{Wg Ch n:Nat}{rd0:Nat->Prop}{val:Nat->cK->(Nat->Prop)->cJ->Prop}{End:iV}{w0:cJ}{B0 m0:Nat}{X:Nat->Prop}{T0:Nat} {ro:Nat->eQ}{rk:Nat->WT}{dd:Nat->Nat}{G:Gh}{cl:Bool}{gs:Array cQ}{w w':cJ}{sl:Option (Nat×Nat)}{t:Trace}{st sm:Int}
theorem WL:∀{n:Nat},1<=V n m0 ro->∃i,i<n/\5<=kQ (ro (m0+i))
 |0,h=>by grind [V,sumTo]
 |n+1,h=>by
  by_cases a:5<=kQ (ro (m0+n));grind;have:1<=V n m0 ro:=by grind [D8,V,sumTo]
  have⟨i,b,c⟩:=WL this;grind
theorem Sj(o:Com P ty Wg Ch n rd0 val End w0 B0 ro rk dd G cl gs w t)(j:Pl n m0 ro cl G gs.size st sm)(b:0<gs.size):∃(i:Nat) (g:cQ),gs[i]? =some g/\g.status=.running:=by
 have x:∀i,i<gs.size->∃g,gs[i]? =some g:=λi d=>⟨gs[i],nh d⟩;have a:∀i,i<gs.size->¬(ro i).idle->∃(i:Nat) (g:cQ),gs[i]? =some g/\g.status=.running:=λi d k=>by have⟨g,B⟩:=x i d;obtain h|⟨h,_⟩:=(o.sit i g B).running;grind;grind
 cases j.lay with
 |st r s p _ _ _ _ _ _=>exact a 0 b (by rw[p];exactλh=>h)
 |uC p _ _ _=>exact a 0 b (by rw[p];exactλh=>h)
 |rc r S s p l I y J C=>
  obtain rfl|⟨rfl,z,D⟩:=C;exact a 0 b (by rw[p];exactλh=>h)
  ·by_cases E:∃i,i<n/\kQ (ro (m0+i))=9;have⟨i,d,e⟩:=E;have⟨s,f,_⟩:=y i d;rw[f]at e;simp only[kQ]at e;subst e;exact a (m0+i) cM (by rw[f];exactλh=>h);have⟨c,l⟩:=l;by_cases k:(ro (m0+n)).idle;have F:c=.blk:=by
    rw[l]at k;cases c<;>first|rfl|exact k.elim|skip
    exfalso;have:=j.clq.2 l;grind
   subst F;cases K:j.mode with
   |opn m _ _=>rw[l]at m;exact m.elim
   |reg _ _ q=>
    have⟨i,d,A⟩:=WL q;have⟨s,f,M,N,_⟩:=y i d;have u:=D i d;have v:kQ (ro (m0+i))≠9:=cL;rw[f]at A u v;simp only[kQ]at A u v;refine a (m0+i) cM ?_;rw[f];obtain rfl|rfl|rfl:s=5\/s=6\/s=7:=cM;all_goals exactλh=>h
   |last L _ H q _=>
    have⟨s,f,_⟩:=y L H;rw[f]at q;simp only[kQ]at q;refine a (m0+L) cM ?_;rw[f];obtain rfl|rfl|rfl:=q;all_goals exactλh=>h
   |sema m _=>grind
   |fin m _=>rw[l]at m;exact m.elim
   grind
theorem O5(a:Com P ty Wg Ch n rd0 val End w0 B0 ro rk dd G cl gs w t):∀g∈gs,awake g:=by intro g b d;have⟨i,c⟩:=Array.mem_iff_getElem?.1 b;obtain h|⟨_,h|h⟩:=(a.sit i g c).running<;>rw[h]<;>simp
theorem fg.step(C:n<2147483647){J:Mu}{m:Machine}(h:fg P ty Wg Ch n rd0 val End w0 B0 m0 X T0 J m t):(∃j q,stepT P m=(.next j,q)/\O2 P Wg Ch End w0 B0 X j (t++q))\/∃j q B,stepT P m=(.next j,q)/\Mu.Lt B J/\fg P ty Wg Ch n rd0 val End w0 B0 m0 X T0 B j (t++q):=by
 obtain⟨gs,w,sl,ro,rk,dd,G,cl,st,sm,rfl,u,D,b,o,z,A,rfl⟩:=h;have v:0<gs.size:=by
  cases b.lay with
  |st r s K E hr L M N C=>grind
  |uC K L M N=>grind
  |rc r S s K L M N x E=>omega
 have⟨k,g,d,p,y,l,F⟩:=crowd_pick (P:=P) (w:=w) (sl:=sl) (O5 u) (Sj u b v);rw[F];have a:=u.at d;have f:WgAt ty Wg (w.at d) st sm:=D;obtain rfl|⟨O,Q⟩|⟨i,s,R,rfl,e,_,_⟩|⟨rfl,c,e⟩:=b.lt_size (iS.1 y).1;exact fg.O4 (sl:=p) a b o z A f C y l;right;have x:=a.sit k g y;rw[b.old k O Q]at x;generalize H:rk k=τ at x;generalize I:dd k=T at x;generalize ho:G.own k=U at x;generalize V:G.rd k=rc at x;cases x with
 |old h=>exact fg.slip (sl:=p) a b o z A f y cM dq h l H I (b.old k O Q) λ_ _ _ _ h=>.old h
 right;by_cases E:s<=7;exact fg.Sh (sl:=p) a b o z A f C R y e E l;obtain rfl|rfl:=(show s=9\/s=8 by omega);exact fg.O3 (sl:=p) a b o z A f R y e v;have x:=a.sit _ g y;rw[e]at x;generalize dd (m0+i)=T at x;cases x with
 |u4 h=>cases l
 right;obtain h|⟨rfl,h,I⟩|⟨rfl,W,Y,Z,h4⟩:=fg.IW (sl:=p) a b o z A f C y e l;exact h;exact fg.Mq (sl:=p) a b o z A f y e v h I;exact fg.Mp (sl:=p) a b o z A f y e W Y Z h4
theorem fg.runs(k:n<2147483647):∀(d:Mu) (m:Machine) (t:Trace),fg P ty Wg Ch n rd0 val End w0 B0 m0 X T0 d m t->∃N e f,runNT P N m t=(.next e,f)/\O2 P Wg Ch End w0 B0 X e f:=by
 intro d;induction d using Mu.wf.induction with
 |_ d l=>
  intro m t h;obtain⟨a,b,c,g⟩|⟨a,b,i,c,j,o⟩:=h.step k;exact⟨1,a,t++b,lT c,g⟩;have⟨N,e,f,p,g⟩:=l i j a (t++b) o;exact⟨1+N,e,f,Go.dA.runNT_add (lT c) p,g⟩
theorem phase(hn:n<2147483647){q:Nat->Nat}{a:cQ}(Z:gs[0]? =some a)(hL:Leavers P t gs q)(E:Past (pD X) w.heap.size t)(j:∀b,rd0 b->b<w.heap.size/\¬X b/\b≠Wg/\b≠Ch) (F:Wg≠Ch)(H:¬X Wg)(I:¬X Ch)(l:WgAt ty Wg w 0 0){c:Nat}(z:w.heap[Ch]? =some (.chan 0 #[] false c c false))(hS:qd P ty Wg Ch n rd0 val End n dr a w):∃N m' t',runNT P N (crowd gs w sl) t=(.next m',t')/\O2 P Wg Ch End w w.heap.size X m' t':=by
 have A:0<gs.size:=(iS.1 Z).1;let G:Gh:={own:=λ_ _=>False,rd:=λg b=>g=0/\rd0 b,wg:=λb=>b=Wg\/b=Ch,user:=λg=>g=0,sayer:=0,x:=X,done:=λg=>g≠0/\g<gs.size,t0:=t.size};have J:Kn.gF G w.lG t:=by
  have f:=gF.begin (m0:=gs.size) E (rd0:=rd0) λb f=>(j b f).2.1;refine f.FT (λ_ _ h=>h.elim) (λg b h i a B m hw=>f.rd i a g b B m h hw) (λb h i a B m=>?_) rfl λg i hz a B hm K=>?_;refine .inr (.inr λg K=>?_);have L:g=0:=K;subst L;obtain x|⟨x,_⟩:=E.known i a B (oF m);exact x;exfalso;have o:b=Wg\/b=Ch:=h;have M:¬X b:=by obtain rfl|rfl:=o;exact H;exact I
  clear h o;apply M;revert m x;cases a.loc<;>simp_all[blk,pD]<;>(intro x e;subst e;exact x);obtain x|⟨x,⟨b,O,Q⟩,y⟩:=f.told i a g B hm K hz;exact .inl x;exact .inr ⟨x,⟨b,O,Q.imp (λh=>h.elim) id⟩,y⟩
 have p:G.Fits w.lG:=by refine⟨λ_ _ h=>h.elim,λg b h=>(j b h.2).1,λb h=>?_,λ_ _ _ h=>h.elim,λ_ _ _ h=>h.elim,λ_ _ h=>h.elim,λg b h h2=>h2.elim (j b h.2).2.2.1 (j b h.2).2.2.2,λg h=>⟨h.1,jg h.1,λb h=>h.elim,λb f=>h.1 f.1⟩⟩;have o:b=Wg\/b=Ch:=h;obtain rfl|rfl:=o;exact lt_of_heap l;exact lt_of_heap z
 let ro:Nat->eQ:=λk=>if k=0 then qh n else if k<gs.size then .old else .none
 have⟨u,R⟩:∃u,mD P ty Wg Ch n rd0 val End (qh n) u 0 dr rd0 a w:=by
  cases n with
  |zero=>
   have⟨u,S⟩:=hS;exact⟨u,.R4 S⟩
  |succ r=>
   have⟨u,S⟩:=hS;exact⟨u,.skd cM S⟩
 let rk:Nat->WT:=λk=>if k=0 then u else .num (q k)
 have C:Com P ty Wg Ch n rd0 val End w w.lG ro rk (Deaf t) G false gs w t:=by
  refine⟨λk g v=>?_,J,p,λ_=>rfl,hL.above,λb=>qF,λk b f=>?_,F,lt_of_heap l,λi k D v=>?_,λ_ _ h=>h.elim,λ_ _ _ _=>rfl,di _,⟨rfl,rfl,rfl⟩,⟨_,_,l⟩,⟨c,z⟩⟩;by_cases e:k=0;subst e;rw[Z]at v;obtain rfl:=dT v;have e1:G.own 0=dr:=rfl;have e2:G.rd 0=rd0:=by funext b;simp[G]
  simp only[ro,rk,em];rw[E.hears,e1,e2];exact R;have T:=(iS.1 v).1;simp only[ro,rk,cS e,cV T];exact .old (hL.old k g cM v);obtain f|f:=f;exact f.elim;exact(j b f.2).2.2.2;exfalso;have:t.size<=i:=D;have⟨op,U,_⟩:=iU.1 v;have:=lt_size_of_getElem? U;omega
 have hV:V n gs.size ro=0:=by
  have:V n gs.size ro=sumTo n λ_=>0:=sumTo_congr λi D=>by simp only[ro];rw[cS cM,cS cM];rfl
  rw[this,u6]
 have d:∀i,ro (gs.size+i)=.none:=λi=>by simp only[ro];rw[cS cM,cS cM]
 have W:Pl n gs.size ro false G gs.size 0 0:=by
  refine⟨A,?_,λk k1 k2=>?_,?_,?_,λk=>?_,?_,λk=>?_⟩;cases n with
  |zero=>exact .uC rfl (d 0) cM λi D=>cM
  |succ r=>exact .st r 6 rfl cM cM (d _) cM (λi D=>cM) λi _ _=>d i
  simp only[ro];rw[cS cM,cV k2];rw[d];simp;have:=Mode.opn (n:=n) (m0:=gs.size) (ro:=ro) (by rw[d];trivial) (λi D=>.inl (by rw[d];rfl)) (λvs hv=>by rw[d]at hv;cases hv);have Y:pend (ro 0)=0:=by simp only[ro,em];cases n<;>rfl
  rw[hV,Y]at this;simpa using this;show k=0↔_;omega;rw[d];rfl;show(k≠0/\k<gs.size)↔_;constructor;exactλh=>.inl ⟨cM,h.2⟩;rintro(h|⟨i,s,e,_⟩);exact⟨cM,h.2⟩;simp only[ro]at e;split at e;revert e;cases n<;>simp[qh];split at e<;>cases e
 exact fg.runs hn _ _ _ ⟨gs,w,sl,ro,rk,Deaf t,G,false,0,0,rfl,C,l,W,(λh=>(nomatch h)),rfl,rfl,rfl⟩
end
end Go.dA.Cr
namespace Go.dA.Wg
open Go.Conc Go.ConcN Go.RowKit Go.Conc.Lib Go.ConcR.Gen Go.ConcN.Gen
open Go.ConcR (KK wgBlock WgAt stA smA mk Payload DC0)
variable{L:WgLink}
section
variable(P:cU)(main:Bool)(R:cJ->cJ->Prop)(Wg:Nat)
def z8(m:Mark)(a:cQ->dC)(g:cQ)(w:cJ):Prop:=g.status=.running/\∃b,stepG P main g w=.go b w #[mk m]/\∃k,Goes P main R DC0 a k b w
def YW(b:cR)(Fin:cQ->dC)(g:cQ)(w:cJ):Prop:=g.status=.running/\∀v:Nat,v<2147483647->WgAt b Wg w (v*KK) 0->∃a,stepG P main g w=.go a (w.setCell (stA Wg) (.int .u64 ((v+1)*KK))) #[ConcR.rd (stA Wg),ConcR.wr (stA Wg)]/\(v=0->∃k,Goes P main R DC0 (z8 P main R (.read (smA Wg)) (z8 P main R .enable Fin)) k a (w.setCell (stA Wg) (.int .u64 ((v+1)*KK))))/\(v≠0->∃k,Goes P main R DC0 (z8 P main R .enable Fin) k a (w.setCell (stA Wg) (.int .u64 ((v+1)*KK))))
end
section
variable{R:cJ->cJ->Prop}{Wg:Nat}{F:cJ->Prop}{main:Bool}{Fin:cQ->cJ->Prop} {b₀:Frame}{a₀:Act}{ops₀:Array Oper}{i₀:Nat}{rest₀:List Nat}{k₀:List Item}{cs:List Frame}
def X7{P:cU}(H:WgLib P L)(b:∀{w e},F w/\WgLive L.tWg Wg w->R w e->F e/\WgLive L.tWg Wg e)(q:∀w x,F w->F (w.setCell (stA Wg) x))
 (r:Fin=λg w=>g=G (b₀.at (a₀.put ((ops₀[i₀]?).bind (·.dst)) (.tuple #[])) (.inRegion ops₀ rest₀::k₀)) cs/\F w/\WgLive L.tWg Wg w)
 (w:cJ)(a:F w/\WgLive L.tWg Wg w):∃k,Goes P main R DC0 (z8 P main R .disable (YW P main R Wg L.tWg Fin)) k (G ((base L.add).at ⟨#[.pointer (some ⟨Wg,0,none⟩),.int .i64 1]++Array.replicate ((addFn L).ntmps-2) undef,[]⟩ [.code (body_add L)]) (b₀.at a₀ (.inRegion ops₀ (i₀::rest₀)::k₀)::cs)) w:=by
 lib_facts;refine⟨60,?_⟩;simp only[body_add,addFn,kK,Nat.reduceSub,Array.replicate,List.replicate];u_c dk b a;u_cond true b a;iterate 2 u_c dk b a
 u_reg b a;iterate 2 u_op b a
 u_c cZ b a;u_cond false b a;u_c fC b a;u_c dk b a;u_reg b a;refine jH (λe l=>?_);replace a:=b a l;clear l;refine⟨rfl,_,stepG_mark0 .disable dq rfl rfl (by k_ne) rfl H.f_disable (x_disable_n L) (x_disable_b L) (x_disable_x L) (x_disable_f L),100,?_⟩;walk_nrm;u_c cZ b a;u_reg b a;u_defer b a;u_c cZ b a;u_c dk b a;u_reg b a;u_op b a;u_c cZ b a;iterate 2 u_c dk b a
 u_reg b a;u_bub b a;u_c cZ b a;u_cond false b a;u_c fC b a;u_c dk b a;u_reg b a;iterate 6 u_op b a
 u_call H.f_uAdd (nm_uAdd L) uAddFn b a;u_c dk b a;u_reg b a;u_op b a;u_c cZ b a;u_c dk b a;u_reg b a;iterate 4 u_op b a
 refine jH (λc m=>?_);replace a:=b a m;clear m;refine⟨rfl,λv D j=>?_⟩;obtain rfl|y:=nt v
 ·replace j:WgAt L.tWg Wg c 0 0:=cL;have z:(((0:Nat):Int)+1)*KK=KK:=dq;rw[z];have A:IntKind.u64.wrap (0+4294967296)=KK:=kg;refine⟨_,(stepG_add_atomic rfl rfl (by k_ne) rfl H.f_addU64 (x_addU64_n L) (x_addU64_b L) (x_addU64_x L) .u64 (x_addU64_f L) rfl rfl j.cellSt (j.thaw 0)).trans (by rw[A];rfl),λ_=>⟨100,?_⟩,λh=>absurd rfl h⟩;replace a:F (c.setCell (stA Wg) (.int .u64 KK))/\WgLive L.tWg Wg (c.setCell (stA Wg) (.int .u64 KK)):=⟨q _ _ a.1,⟨_,_,j.setSt _⟩⟩;clear j;simp only[KK]at a⊢;walk_nrm;u_op b a;u_c cZ b a;u_c stepG_ret' b a;u_leave1 H.f_uAdd b a;u_op b a;u_c cZ b a;iterate 2 u_c dk b a
  u_reg b a;iterate 4 u_op b a
  iterate 2 u_skip b a
  u_op b a;u_c cZ b a;u_cond false b a;u_c fC b a;u_c dk b a;u_reg b a;iterate 4 u_op b a
  u_c cZ b a;u_c dk b a;u_reg b a;iterate 4 u_op b a
  u_c cZ b a;iterate 2 u_c dk b a
  u_reg b a;iterate 10 u_op b a
  u_c cZ b a;u_cond true b a;u_reg b a;iterate 3 u_op b a
  u_conv H.underlying_tPU32 H.room_tU32 (WgLive.cell1 a.2).choose_spec b a;refine jH (λs n=>?_);replace a:=b a n;clear n;refine⟨rfl,_,stepG_markAt .read dq rfl rfl (by k_ne) rfl H.f_raceRead (x_raceRead_n L) (x_raceRead_b L) (x_raceRead_x L) (x_raceRead_f L) (ad:=(dt Wg 1)) (by simp[Act.eval]),100,?_⟩;walk_nrm;u_c cZ b a;iterate 2 u_c dk b a
  u_reg b a;iterate 2 u_op b a
  u_c cZ b a;u_cond false b a;u_c fC b a;iterate 2 u_c dk b a
  u_reg b a;iterate 3 u_op b a
  iterate 2 u_skip b a
  iterate 2 u_op b a
  iterate 4 u_skip b a
  u_op b a;u_c cZ b a;u_cond false b a;u_c fC b a;iterate 2 u_c dk b a
  u_reg b a;iterate 3 u_op b a
  iterate 2 u_skip b a
  u_op b a;u_c cZ b a;u_cond true b a;u_c stepG_ret' b a;refine jH (λo d=>?_);replace a:=b a d;clear d;refine⟨rfl,_,stepG_unwind_entry (v:=.tuple #[]) (evs:=#[mk .enable]) rfl H.f_enable (x_enable_n L) (x_enable_b L) (x_enable_x L) (x_enable_f L) (by simp[Extern.Race.none_]) (by simp[mk]) (by simp[mk]),10,?_⟩;u_leave0 H.f_add b a;subst r;exact jH λp i=>⟨rfl,b a i⟩
 ·obtain⟨S,f⟩:∃S:Int,S=((v:Int)+1)*KK:=⟨_,rfl⟩;obtain⟨V,t⟩:∃V:Int,V=(v:Int)+1:=⟨_,rfl⟩;have u:IntKind.u64.wrap ((v:Int)*KK+4294967296)=S:=by rw[IntKind.wrap_u64,f];simp only[KK];omega
  rw[<-f];have E:S/4294967296=V:=by rw[f,t];simp only[KK];omega
  have I:bits .and .u64 S 2147483648=0:=by rw[f];have:=st_flag (v+1) 0 cM cM;simpa[KK]using this
  have J:bits .and .u64 S 2147483647=0:=by rw[f];have:=st_waiters (v+1) 0 cM cM;simpa[KK]using this
  have K:IntKind.i32.wrap V=V:=by rw[IntKind.wrap_i32];omega
  have B:1<V:=cM;have C:V<2147483648:=cM;have M:(V==1)=false:=rp;have N:decide (V=1)=false:=lK cM;have O:decide (V<0)=false:=lK cM;have Q:decide (0<V)=true:=decide_eq_true cM;have T:(V==0)=false:=rp;have U:decide (V=0)=false:=lK cM;refine⟨_,(stepG_add_atomic rfl rfl (by k_ne) rfl H.f_addU64 (x_addU64_n L) (x_addU64_b L) (x_addU64_x L) .u64 (x_addU64_f L) rfl rfl j.cellSt (j.thaw 0)).trans (by rw[u];rfl),λh=>absurd h cM,λ_=>⟨110,?_⟩⟩;replace a:F (c.setCell (stA Wg) (.int .u64 S))/\WgLive L.tWg Wg (c.setCell (stA Wg) (.int .u64 S)):=⟨q _ _ a.1,⟨_,_,j.setSt _⟩⟩;clear j f t u;walk_nrm;u_op b a;u_c cZ b a;u_c stepG_ret' b a;u_leave1 H.f_uAdd b a;u_op b a;u_c cZ b a;iterate 2 u_c dk b a
  u_reg b a;iterate 4 u_op b a
  iterate 2 u_skip b a
  u_op b a;u_c cZ b a;u_cond false b a;u_c fC b a;u_c dk b a;u_reg b a;iterate 4 u_op b a
  u_c cZ b a;u_c dk b a;u_reg b a;iterate 4 u_op b a
  u_c cZ b a;iterate 2 u_c dk b a
  u_reg b a;iterate 10 u_op b a
  u_c cZ b a;u_cond false b a;u_c fC b a;iterate 2 u_c dk b a
  u_reg b a;iterate 2 u_op b a
  u_c cZ b a;u_cond false b a;u_c fC b a;iterate 2 u_c dk b a
  u_reg b a;iterate 3 u_op b a
  iterate 2 u_skip b a
  iterate 2 u_op b a
  iterate 4 u_skip b a
  u_op b a;u_c cZ b a;u_cond false b a;u_c fC b a;iterate 2 u_c dk b a
  u_reg b a;iterate 3 u_op b a
  iterate 2 u_skip b a
  u_op b a;u_c cZ b a;u_cond true b a;u_c stepG_ret' b a;refine jH (λo d=>?_);replace a:=b a d;clear d;refine⟨rfl,_,stepG_unwind_entry (v:=.tuple #[]) (evs:=#[mk .enable]) rfl H.f_enable (x_enable_n L) (x_enable_b L) (x_enable_x L) (x_enable_f L) (by simp[Extern.Race.none_]) (by simp[mk]) (by simp[mk]),10,?_⟩;u_leave0 H.f_add b a;subst r;exact jH λp i=>⟨rfl,b a i⟩
end
variable{L:WgLink}
section
variable(P:cU)(main:Bool)(R:cJ->cJ->Prop)(Wg:Nat)
def CC(m:Mark)(a:cQ->dC)(g:cQ)(w:cJ):Prop:=g.status=.running/\∃b,stepG P main g w=.go b w #[mk m]/\∃k,Goes P main R DC0 a k b w
def X8(Fin:cQ->dC):cQ->dC:=CC P main R .enable (CC P main R (.acquire (stA Wg)) Fin)
def ZB(b:cR)(Fin:cQ->dC)(g:cQ)(w:cJ):Prop:=g.status=.running/\(WgAt b Wg w 0 0->∃a,stepG P main g w=.go a w #[ConcR.rd (stA Wg)]/\∃k,Goes P main R DC0 (X8 P main R Wg Fin) k a w)
def ZC(a:cR)(Fin:cQ->dC)(g:cQ)(w:cJ):Prop:=g.status=.running/\g.offers=none/\((∃c,WgAt a Wg w c 0)->stepG P main g w=.go {g with status:=.blocked} w #[])/\
 (WgAt a Wg w 0 1->∃b,stepG P main g w=.go b (w.setCell (smA Wg) (.int .u32 0)) (semEvents (smA Wg))/\∃k,Goes P main R DC0 (ZB P main R Wg a Fin) k b (w.setCell (smA Wg) (.int .u32 0)))
def ZD(c:cR)(a Fin:cQ->dC)(d:Nat)(g:cQ)(w:cJ):Prop:=g.status=.running/\∀v:Nat,v<2147483648->WgAt c Wg w (v*KK) 0->(v=d->∃b,stepG P main g w=.go b (w.setCell (stA Wg) (.int .u64 (v*KK+1))) #[ConcR.rd (stA Wg),ConcR.wr (stA Wg)]/\∃k,Goes P main R DC0 (CC P main R (.write (smA Wg)) (ZC P main R Wg c Fin)) k b (w.setCell (stA Wg) (.int .u64 (v*KK+1))))/\(v≠d->∃b,stepG P main g w=.go b w #[ConcR.rd (stA Wg)]/\∃k,Goes P main R DC0 a k b w)
def YX(c:cR)(a Fin:cQ->dC)(g:cQ)(w:cJ):Prop:=g.status=.running/\∀v:Nat,v<2147483648->WgAt c Wg w (v*KK) 0->∃b,stepG P main g w=.go b w #[ConcR.rd (stA Wg)]/\(v=0->∃k,Goes P main R DC0 (X8 P main R Wg Fin) k b w)/\(v≠0->∃k,Goes P main R DC0 (ZD P main R Wg c a Fin v) k b w)
end
section
variable{R:cJ->cJ->Prop}{Wg:Nat}{F:cJ->Prop}{main:Bool}{Fin:cQ->cJ->Prop} {b₀:Frame}{a₀:Act}{ops₀:Array Oper}{i₀:Nat}{rest₀:List Nat}{k₀:List Item}{cs:List Frame}
def IZ{P:cU}(H:WgLib P L)(c:∀{w a},F w/\WgLive L.tWg Wg w->R w a->F a/\WgLive L.tWg Wg a)(w:cJ)(b:F w/\WgLive L.tWg Wg w):∃k,Goes P main R DC0 (CC P main R .disable (AnchWN L F Wg (b₀.at a₀ (.inRegion ops₀ (i₀::rest₀)::k₀)) cs)) k (G ((base L.wait).at ⟨#[.pointer (some ⟨Wg,0,none⟩)]++Array.replicate ((waitFn L).ntmps-1) undef,[]⟩ [.code (body_wait L)]) (b₀.at a₀ (.inRegion ops₀ (i₀::rest₀)::k₀)::cs)) w:=by lib_facts;refine⟨30,?_⟩;simp only[body_wait,waitFn,kK,Nat.reduceSub,Array.replicate,List.replicate];u_c dk c b;u_cond true c b;u_reg c b;refine jH (λa d=>?_);replace b:=c b d;clear d;refine⟨rfl,_,stepG_mark0 .disable dq rfl rfl (by k_ne) rfl H.f_disable (x_disable_n L) (x_disable_b L) (x_disable_x L) (x_disable_f L),3,?_⟩;walk_nrm;u_c cZ c b;u_c sM c b;u_c stepG_loop c b;exact jH (λf e=>⟨_,rfl,dq,dq,c b e⟩)
def I0{P:cU}(H:WgLib P L)(b:∀{w d},F w/\WgLive L.tWg Wg w->R w d->F d/\WgLive L.tWg Wg d)(K:∀w x,F w->F (w.setCell (stA Wg) x))(E:∀w x,F w->F (w.setCell (smA Wg) x))
 (o:Fin=λg w=>g=G (b₀.at (a₀.put ((ops₀[i₀]?).bind (·.dst)) (.tuple #[])) (.inRegion ops₀ rest₀::k₀)) cs/\F w/\WgLive L.tWg Wg w)
 (g:cQ)(w:cJ)(h:AnchWN L F Wg (b₀.at a₀ (.inRegion ops₀ (i₀::rest₀)::k₀)) cs g w):∃k,Goes P main R DC0 (YX P main R Wg L.tWg (AnchWN L F Wg (b₀.at a₀ (.inRegion ops₀ (i₀::rest₀)::k₀)) cs) Fin) k g w:=by
 lib_facts;obtain⟨T,rfl,y,I,a⟩:=h;obtain⟨v0,v1,v2,v3,v4,v5,v6,v7,v8,v9,M,N,O,Q,U,V,W,X,Y,Z,aa,ab,ac,ae,af,ag,ah,ai,aj,ak,al,am,an,ao,ap,aq,ar,au,av,aw,ax,ay,az,aA,aB,aC,aD,aE,aF,aG,aH,aI,aJ,aK,aL,aM,aN,aO,aP,aQ,aR,aS,aT,aU,aV,aW,aX,aY,aZ,a0,a2,a3,a4,a5,a6,a7,a8,a9,ba,bb,bc,bd,be,bf,rfl⟩:=array84 T y;simp only[FD,Kv,iN]at I;subst I;refine⟨40,?_⟩;simp only[L7,body_wait,waitFn,kK];u_c sM b a;u_c dk b a;u_reg b a;iterate 3 u_op b a
 u_call H.f_uLoad (nm_uLoad L) uLoadFn b a;u_c dk b a;u_reg b a;u_op b a;u_c cZ b a;u_c dk b a;u_reg b a;iterate 3 u_op b a
 refine jH (λd p=>?_);replace a:=b a p;clear p;refine⟨rfl,λv hv c=>?_⟩;obtain rfl|bg:=nt v
 ·replace c:WgAt L.tWg Wg d 0 0:=cL;refine⟨_,stepG_load_atomic (v:=0) rfl rfl (by k_ne) rfl H.f_loadU64 (x_loadU64_n L) (x_loadU64_b L) (x_loadU64_x L) .u64 (x_loadU64_f L) rfl c.cellSt,λ_=>⟨80,?_⟩,λh=>absurd rfl h⟩;clear c;walk_nrm;u_op b a;u_c cZ b a;u_c stepG_ret' b a;u_leave1 H.f_uLoad b a;u_op b a;u_c cZ b a;u_c dk b a;u_reg b a;iterate 4 u_op b a
  u_c cZ b a;u_c dk b a;u_reg b a;iterate 4 u_op b a
  u_c cZ b a;iterate 2 u_c dk b a
  u_reg b a;iterate 2 u_op b a
  u_c cZ b a;u_cond true b a;u_c dk b a;u_cond true b a;u_c dk b a;u_reg b a;refine jH (λz f=>?_);replace a:=b a f;clear f;refine⟨rfl,_,stepG_mark0 .enable dq rfl rfl (by k_ne) rfl H.f_enable (x_enable_n L) (x_enable_b L) (x_enable_x L) (x_enable_f L),20,?_⟩;walk_nrm;u_c cZ b a;u_reg b a;u_op b a;u_conv H.underlying_tWgP H.room_tWg (WgLive.cell0 a.2).choose_spec b a;refine jH (λA i=>?_);replace a:=b a i;clear i;refine⟨rfl,_,stepG_markAt .acquire dq rfl rfl (by k_ne) rfl H.f_acquire (x_acquire_n L) (x_acquire_b L) (x_acquire_x L) (x_acquire_f L) (by simp[Act.eval,stA]),40,?_⟩;walk_nrm;u_c cZ b a;iterate 2 u_c dk b a
  u_reg b a;iterate 8 u_op b a
  iterate 2 u_skip b a
  u_op b a;u_c cZ b a;u_cond false b a;u_c fC b a;u_c stepG_ret' b a;u_leave0 H.f_wait b a;subst o;exact jH λB m=>⟨rfl,b a m⟩
 ·have⟨S,j⟩:∃S:Int,(v:Int)*KK=S:=⟨_,rfl⟩;have a1:S/4294967296=(v:Int):=by rw[<-j];simp only[KK];simp
  have b1:bits .and .u64 S 2147483648=0:=by rw[<-j];have:=st_flag v 0 cM dq;grind [KK]
  have b2:bits .and .u64 S 2147483647=0:=by rw[<-j];have:=st_waiters v 0 cM dq;grind [KK]
  have c1:IntKind.i32.wrap (v:Int)=(v:Int):=by rw[IntKind.wrap_i32];omega
  have w1:IntKind.u64.wrap (S+1)=S+1:=by rw[IntKind.wrap_u64,<-j];simp only[KK];omega
  have q3:decide ((v:Int)<0)=false:=lK cM;have q4:decide (0<(v:Int))=true:=decide_eq_true cM;have q5:((v:Int)==0)=false:=rp;have q6:decide ((v:Int)=0)=false:=lK cM;rw[j]at c;refine⟨_,stepG_load_atomic (v:=S) rfl rfl (by k_ne) rfl H.f_loadU64 (x_loadU64_n L) (x_loadU64_b L) (x_loadU64_x L) .u64 (x_loadU64_f L) rfl c.cellSt,λh0=>absurd h0 cM,λ_=>⟨80,?_⟩⟩;clear c;walk_nrm;u_op b a;u_c cZ b a;u_c stepG_ret' b a;u_leave1 H.f_uLoad b a;u_op b a;u_c cZ b a;u_c dk b a;u_reg b a;iterate 4 u_op b a
  u_c cZ b a;u_c dk b a;u_reg b a;iterate 4 u_op b a
  u_c cZ b a;iterate 2 u_c dk b a
  u_reg b a;iterate 2 u_op b a
  u_c cZ b a;u_cond false b a;u_c fC b a;u_c dk b a;u_reg b a;iterate 6 u_op b a
  u_call H.f_uCas (nm_uCas L) uCasFn b a;u_c dk b a;u_reg b a;u_op b a;u_c cZ b a;u_c dk b a;u_reg b a;iterate 5 u_op b a
  refine jH (λq r=>?_);replace a:=b a r;clear r;refine⟨rfl,λv' bh c=>⟨λe=>?_,λe=>?_⟩⟩
  ·subst e;rw[j]at c⊢;refine⟨_,(stepG_cas_hit (v:=S) (n:=S+1) rfl rfl (by k_ne) rfl H.f_casU64 (x_casU64_n L) (x_casU64_b L) (x_casU64_x L) .u64 (x_casU64_f L) rfl rfl rfl c.cellSt (c.thaw 0)).trans (by rfl),80,?_⟩;replace a:F (q.setCell (stA Wg) (.int .u64 (S+1)))/\WgLive L.tWg Wg (q.setCell (stA Wg) (.int .u64 (S+1))):=⟨K _ _ a.1,⟨_,_,c.setSt _⟩⟩;clear c;walk_nrm;u_op b a;u_c cZ b a;u_c stepG_ret' b a;u_leave1 H.f_uCas b a;u_c cZ b a;u_cond true b a;iterate 2 u_c dk b a
   u_reg b a;iterate 4 u_op b a
   u_c cZ b a;u_cond true b a;u_reg b a;iterate 3 u_op b a
   u_conv H.underlying_tPU32 H.room_tU32 (WgLive.cell1 a.2).choose_spec b a;refine jH (λC l=>?_);replace a:=b a l;clear l;refine⟨rfl,_,stepG_markAt .write dq rfl rfl (by k_ne) rfl H.f_raceWrite (x_raceWrite_n L) (x_raceWrite_b L) (x_raceWrite_x L) (x_raceWrite_f L) (ad:=(dt Wg 1)) (by simp[Act.eval]),60,?_⟩;walk_nrm;u_c cZ b a;u_c dk b a;u_reg b a;u_op b a;u_c cZ b a;iterate 2 u_c dk b a
   u_reg b a;iterate 4 u_op b a
   u_skip b a;u_op b a;u_c cZ b a;u_cond false b a;u_c fC b a;u_c dk b a;u_reg b a;iterate 4 u_op b a
   refine jH (λs t=>?_);replace a:=b a t;clear t;refine⟨rfl,rfl,λ⟨st,c⟩=>stepG_semacquire_wait rfl rfl rfl H.f_semacquire (x_semacquire_n L) (x_semacquire_b L) (x_semacquire_x L) (x_semacquire_f L) (by simp[Act.eval,smA]) c.cellSm,λD=>?_⟩;refine⟨_,(stepG_semacquire (n:=1) rfl rfl (by k_ne) rfl H.f_semacquire (x_semacquire_n L) (x_semacquire_b L) (x_semacquire_x L) (x_semacquire_f L) (by simp[Act.eval,smA]) D.cellSm (by k_ne) (D.thaw 1)).trans (by rfl),50,?_⟩;replace a:F (s.setCell (smA Wg) (.int .u32 0))/\WgLive L.tWg Wg (s.setCell (smA Wg) (.int .u32 0)):=⟨E _ _ a.1,⟨_,_,D.setSm 0⟩⟩;clear D;walk_nrm;u_c cZ b a;u_c dk b a;u_reg b a;iterate 3 u_op b a
   u_call H.f_uLoad (nm_uLoad L) uLoadFn b a;u_c dk b a;u_reg b a;u_op b a;u_c cZ b a;u_c dk b a;u_reg b a;iterate 3 u_op b a
   refine jH (λJ u=>?_);replace a:=b a u;clear u;refine⟨rfl,λc=>⟨_,stepG_load_atomic (v:=0) rfl rfl (by k_ne) rfl H.f_loadU64 (x_loadU64_n L) (x_loadU64_b L) (x_loadU64_x L) .u64 (x_loadU64_f L) rfl c.cellSt,50,?_⟩⟩;clear c;walk_nrm;u_op b a;u_c cZ b a;u_c stepG_ret' b a;u_leave1 H.f_uLoad b a;iterate 2 u_op b a
   u_c cZ b a;u_c dk b a;u_cond true b a;u_c dk b a;u_reg b a;refine jH (λz f=>?_);replace a:=b a f;clear f;refine⟨rfl,_,stepG_mark0 .enable dq rfl rfl (by k_ne) rfl H.f_enable (x_enable_n L) (x_enable_b L) (x_enable_x L) (x_enable_f L),20,?_⟩;walk_nrm;u_c cZ b a;u_reg b a;u_op b a;u_conv H.underlying_tWgP H.room_tWg (WgLive.cell0 a.2).choose_spec b a;refine jH (λA i=>?_);replace a:=b a i;clear i;refine⟨rfl,_,stepG_markAt .acquire dq rfl rfl (by k_ne) rfl H.f_acquire (x_acquire_n L) (x_acquire_b L) (x_acquire_x L) (x_acquire_f L) (by simp[Act.eval,stA]),40,?_⟩;walk_nrm;u_c cZ b a;iterate 2 u_c dk b a
   u_reg b a;u_op b a;u_c cZ b a;u_cond false b a;u_c fC b a;u_c stepG_ret' b a;u_leave0 H.f_wait b a;subst o;exact jH λB m=>⟨rfl,b a m⟩
  ·refine⟨_,stepG_cas_miss (v:=(v':Int)*KK) (old:=S) (n:=S+1) rfl rfl (by k_ne) rfl H.f_casU64 (x_casU64_n L) (x_casU64_b L) (x_casU64_x L) .u64 (x_casU64_f L) rfl rfl rfl c.cellSt (c.thaw 0) (by rw[<-j];simp only[KK];omega),12,?_⟩;clear c;walk_nrm;u_op b a;u_c cZ b a;u_c stepG_ret' b a;u_leave1 H.f_uCas b a;u_c cZ b a;u_cond false b a;u_c fC b a;u_c stepG_inBlock b a;u_c stepG_inLoop b a;refine jH (λC l=>?_);replace a:=b a l;exact⟨_,rfl,dq,dq,a⟩
end
end Go.dA.Wg
namespace Go.dA.Cr
open Go.Conc Go.dA Go.dA.Kn Go.dA.Wg
open Go.ConcR (KK wgBlock WgAt stA smA mk DC0)
open Go.ConcN (sumTo upd)
section
variable{P:cU}{main:Bool}{own rd:Nat->Prop}{L:cJ->Prop}
theorem yo{D:cJ->cJ->Array Event->Prop}{S:cQ->dC}{j:iV}(k:∀w d e,D w d e->Ol own rd w d e own)(f:∀g w,S g w->j own g w):∀{m:Nat} {g:cQ} {w:cJ},Goes P main (eP own rd L) D S m g w->∃i,Way P main rd L j i own g w
 |0,g,w,h=>⟨.leaf,.here λa b=>f _ _ (h a b)⟩
 |m+1,g,w,h=>by
  obtain h|⟨l,h⟩:=h;exact⟨.leaf,.here λa b=>f _ _ (h a b)⟩;refine Way.mk l λa b=>?_;have c:=h a b;revert c;cases n:stepG P main g a with
  |go o d e=>
   intro c;have⟨p,q⟩:=c;have⟨i,r⟩:=yo k f q;exact⟨o,d,e,own,i,rfl,k _ _ _ p,r⟩
  |_=>exactλc=>c.elim
def z9{w:cJ}{a:Array Event}(h:∀e∈a,EvW own rd w.heap.size w.heap.size e):Ol own rd w w a own:=
 ⟨rfl,rfl,rfl,di _,λb=>⟨.inl,λh=>h.elim id λh=>cM⟩,λ_ _ _=>rfl,h⟩
def Sk(w a:cJ)(b:Array Event)(h:DC0 w a b):Ol own rd w a b own:=by obtain⟨rfl,rfl⟩:=h;exact z9 λe c=>by simp at c
variable{ty:cR}{Wg Ch n:Nat}
def pG{S:iV}{w:cJ}(h:∀a,eP own rd (Lv ty Wg) w a->S own Z a):Wy P ty Wg main rd S own Z w:=⟨.leaf,.here h⟩
def jU{S:cQ->dC}{S':iV}{m:Nat}{w:cJ}(h:Goes P main (eP own rd (Lv ty Wg)) DC0 S m Z w)(a:∀Z w,S Z w->S' own Z w):Wy P ty Wg main rd S' own Z w:=
 yo Sk a h
theorem Wy.bind{S a:iV}{g:cQ}{w:cJ}(h:Wy P ty Wg main rd S own g w)(b:∀own g w,S own g w->Wy P ty Wg main rd a own g w):Wy P ty Wg main rd a own g w:=by have⟨c,h⟩:=h;exact Way.bind h b
def vZ{S:cQ->dC}{S':iV}{m:Nat}{w:cJ}(h:Goes P main (eP own rd (Lv ty Wg)) DC0 S m Z w)(a:∀Z w,S Z w->Wy P ty Wg main rd S' own Z w):Wy P ty Wg main rd S' own Z w:=
 (jU (S':=λo Z w=>o=own/\S Z w) h λ_ _ h=>⟨rfl,h⟩).bind λo Z w ⟨e,b⟩=>by subst e;exact a Z w b
def xi{m:Mark}{a:cQ->dC}{N:iV}(b:∀{k:Nat} {Z:cQ} {w:cJ},Goes P main (eP own rd (Lv ty Wg)) DC0 a k Z w->Wy P ty Wg main rd N own Z w){w:cJ} (h:z8 P main (eP own rd (Lv ty Wg)) m a Z w):rC P main m (Wy P ty Wg main rd N) own Z w:=by have⟨c,d,e,k,f⟩:=h;exact⟨c,d,e,b f⟩
def I1{a:dp}{val:Nat->cK->(dp)->dC}{i:Nat}{Next:iV}{b:cQ->dC}{m:Nat}{w:cJ} (h:Goes P true (eP own a (Lv ty Wg)) DC0 (z8 P true (eP own a (Lv ty Wg)) .disable (YW P true (eP own a (Lv ty Wg)) Wg ty b)) m Z w) (g:∀Z w,b Z w->Wy P ty Wg true a (XD P ty Wg Ch a val i Next) own Z w):Wy P ty Wg true a (WF P ty Wg Ch a val i Next) own Z w:=by
 have c:∀{k:Nat} {Z:cQ} {w:cJ},Goes P true (eP own a (Lv ty Wg)) DC0 (z8 P true (eP own a (Lv ty Wg)) .enable b) k Z w->Wy P ty Wg true a (XE P ty Wg Ch a val i Next) own Z w:=λh=>
  jU h λZ w h=>xi (λh=>vZ h g) h
 refine jU h λZ w h=>xi (λh=>jU h λZ w ⟨j,l⟩=>⟨j,λv n o=>?_⟩) h;have⟨p,e,q,r⟩:=l v n o;refine⟨p,e,λd=>?_,λd=>?_⟩;have⟨k,f⟩:=q d;exact jU f λZ w h=>xi c h;have⟨k,f⟩:=r d;exact c f
def rG{m:Mark}{a:cQ->dC}{N:iV}(b:∀{k:Nat} {Z:cQ} {w:cJ},Goes P main (eP own rd (Lv ty Wg)) DC0 a k Z w->Wy P ty Wg main rd N own Z w){w:cJ} (h:CC P main (eP own rd (Lv ty Wg)) m a Z w):rC P main m (Wy P ty Wg main rd N) own Z w:=by have⟨c,d,e,k,f⟩:=h;exact⟨c,d,e,b f⟩
end
end Go.dA.Cr
namespace Go.dA.Wg
open Go.Conc Go.ConcN Go.RowKit Go.Conc.Lib Go.ConcR.Gen Go.ConcN.Gen Go.dA
open Go.ConcR (KK wgBlock WgAt stA smA mk Payload DC0)
variable{L:WgLink}
def gB{b:Frame}{a:Act}{k:List Item}{cs:List Frame}{n d:Nat}{c:Array Oper}{i:Nat}{e:cN}{o:Oper}(f:QuitsD P n d (G (b.at (a.put o.dst x) (.inRegion c e::k)) cs))(g:c[i]? =some o:=by rfl)(h:Region.wanted o (yielded c a.tmps)=true:=by rfl)(j:b.kind≠ .early:=by k_ne)(l:∀w,(execOp a.eval o).run P w=.ok (.value x) w:=by intro _;go_simp;(try(first|omega|(w_num;omega)|w_num|decide));rfl)(m:∀w,(execOp a.eval o).events P w #[]=#[]:=by intro _;simp[go_sem, *]):QuitsD P (n+1) d (G (b.at a (.inRegion c (i::e)::k)) cs):=QuitsD.value x g h j l m f
theorem mK:∀{n a d:Nat} {g:cQ},n<=a->QuitsD P n d g->QuitsD P a d g
 |0,0,_,_,_,h=>h
 |0,_+1,_,_,_,h=>.inl h
 |n+1,0,_,_,b,_=>cL
 |n+1,a+1,_,_,b,h=>h.imp id λ⟨c,e,f,i,j,k⟩=>⟨c,e,f,i,j,mK cM k⟩
section
variable{Wg:Nat}{b₀:Frame}{a₀:Act}{ops₀:Array Oper}{i₀:Nat}{rest₀:List Nat}{k₀:List Item}{cs:List Frame}{qt:Nat}
def Sm{P:cU}(H:WgLib P L)(q:QuitsD P qt 0 (G (b₀.at (a₀.put ((ops₀[i₀]?).bind (·.dst)) (.tuple #[])) (.inRegion ops₀ rest₀::k₀)) cs))(w:cJ)(a:True/\WgLive L.tWg Wg w):
 Goes P false (eP Cr.dr Cr.dr (Cr.Lv L.tWg Wg)) DC0 (Cr.R0 P L.tWg Wg) 40 (G ((base L.add).at ⟨#[.pointer (some ⟨Wg,0,none⟩),.int .i64 (-1)]++Array.replicate ((addFn L).ntmps-2) undef,[]⟩ [.code (body_add L)]) (b₀.at a₀ (.inRegion ops₀ (i₀::rest₀)::k₀)::cs)) w:=by
 have b:∀{w f:cJ},True/\WgLive L.tWg Wg w->eP Cr.dr Cr.dr (Cr.Lv L.tWg Wg) w f->True/\WgLive L.tWg Wg f:=λh r=>⟨trivial,r.live h.2⟩;lib_facts;simp only[body_add,addFn,kK,Nat.reduceSub,Array.replicate,List.replicate];u_c dk b a;u_cond true b a;iterate 2 u_c dk b a
 u_reg b a;iterate 2 u_op b a
 u_c cZ b a;u_cond true b a;u_reg b a;u_op b a;u_conv H.underlying_tWgP H.room_tWg (WgLive.cell0 a.2).choose_spec b a;refine jH (λf g=>?_);replace a:=b a g;clear g;refine⟨rfl,_,stepG_markAt .releaseMerge dq rfl rfl (by k_ne) rfl H.f_relMerge (x_relMerge_n L) (x_relMerge_b L) (x_relMerge_x L) (x_relMerge_f L) (by simp[Act.eval,stA]),20,?_⟩;walk_nrm;u_c cZ b a;u_c dk b a;u_reg b a;refine jH (λt i=>?_);replace a:=b a i;clear i;refine⟨rfl,_,stepG_mark0 .disable dq rfl rfl (by k_ne) rfl H.f_disable (x_disable_n L) (x_disable_b L) (x_disable_x L) (x_disable_f L),80,?_⟩;walk_nrm;u_c cZ b a;u_reg b a;u_defer b a;u_c cZ b a;u_c dk b a;u_reg b a;u_op b a;u_c cZ b a;iterate 2 u_c dk b a
 u_reg b a;u_bub b a;u_c cZ b a;u_cond false b a;u_c fC b a;u_c dk b a;u_reg b a;iterate 6 u_op b a
 u_call H.f_uAdd (nm_uAdd L) uAddFn b a;u_c dk b a;u_reg b a;u_op b a;u_c cZ b a;u_c dk b a;u_reg b a;iterate 4 u_op b a
 refine jH (λe j=>?_);clear j a;refine⟨rfl,λv u y O c=>?_⟩;have A:IntKind.u64.wrap (KK+18446744069414584320)=0:=kg;have B:IntKind.u64.wrap (KK+1+18446744069414584320)=1:=kg;obtain rfl|C:=nt v<;>(obtain rfl|rfl:u=0\/u=1:=cM)
 ·replace c:WgAt L.tWg Wg e KK 0:=cL;have z:((0:Nat):Int)*KK+((0:Nat):Int)=0:=dq;rw[z];refine⟨_,(stepG_add_atomic rfl rfl (by k_ne) rfl H.f_addU64 (x_addU64_n L) (x_addU64_b L) (x_addU64_x L) .u64 (x_addU64_f L) rfl rfl c.cellSt (c.thaw 0)).trans (by rw[A];rfl),cL,λ_=>⟨qt+90,?_⟩⟩;clear c;walk_nrm;(refine gB ?_;walk_nrm);q_c cZ;q_c stepG_ret';q_leave1 H.f_uAdd;(refine gB ?_;walk_nrm);q_c cZ;iterate 2 q_c dk
  q_reg;iterate 4 (refine gB ?_;walk_nrm)
  iterate 2 q_skip
  (refine gB ?_;walk_nrm);q_c cZ;q_cond false;q_c fC;q_c dk;q_reg;iterate 4 (refine gB ?_;walk_nrm)
  q_c cZ;q_c dk;q_reg;iterate 4 (refine gB ?_;walk_nrm)
  q_c cZ;iterate 2 q_c dk
  q_reg;iterate 5 (refine gB ?_;walk_nrm)
  iterate 4 q_skip
  (refine gB ?_;walk_nrm);q_c cZ;q_cond false;q_c fC;iterate 2 q_c dk
  q_reg;iterate 2 (refine gB ?_;walk_nrm)
  q_c cZ;q_cond false;q_c fC;iterate 2 q_c dk
  q_reg;iterate 3 (refine gB ?_;walk_nrm)
  iterate 2 q_skip
  iterate 2 (refine gB ?_;walk_nrm)
  iterate 4 q_skip
  (refine gB ?_;walk_nrm);q_c cZ;q_cond false;q_c fC;iterate 2 q_c dk
  q_reg;iterate 6 (refine gB ?_;walk_nrm)
  q_c cZ;q_cond true;q_c stepG_ret';q_enable;q_leave0 H.f_add;exact mK dq q
 ·replace c:WgAt L.tWg Wg e (KK+1) 0:=cL;have z:((0:Nat):Int)*KK+((1:Nat):Int)=1:=dq;rw[z];refine⟨_,(stepG_add_atomic rfl rfl (by k_ne) rfl H.f_addU64 (x_addU64_n L) (x_addU64_b L) (x_addU64_x L) .u64 (x_addU64_f L) rfl rfl c.cellSt (c.thaw 0)).trans (by rw[B];rfl),λ_=>⟨150,?_⟩,cL⟩;have a:True/\WgLive L.tWg Wg (e.setCell (stA Wg) (.int .u64 1)):=⟨trivial,_,_,c.setSt 1⟩;clear c;walk_nrm;u_op b a;u_c cZ b a;u_c stepG_ret' b a;u_leave1 H.f_uAdd b a;u_op b a;u_c cZ b a;iterate 2 u_c dk b a
  u_reg b a;iterate 4 u_op b a
  iterate 2 u_skip b a
  u_op b a;u_c cZ b a;u_cond false b a;u_c fC b a;u_c dk b a;u_reg b a;iterate 4 u_op b a
  u_c cZ b a;u_c dk b a;u_reg b a;iterate 4 u_op b a
  u_c cZ b a;iterate 2 u_c dk b a
  u_reg b a;iterate 5 u_op b a
  iterate 4 u_skip b a
  u_op b a;u_c cZ b a;u_cond false b a;u_c fC b a;iterate 2 u_c dk b a
  u_reg b a;iterate 2 u_op b a
  u_c cZ b a;u_cond false b a;u_c fC b a;iterate 2 u_c dk b a
  u_reg b a;iterate 7 u_op b a
  iterate 4 u_skip b a
  u_op b a;u_c cZ b a;u_cond false b a;u_c fC b a;iterate 2 u_c dk b a
  u_reg b a;iterate 6 u_op b a
  u_c cZ b a;u_cond false b a;u_c fC b a;iterate 2 u_c dk b a
  u_reg b a;iterate 3 u_op b a
  u_call H.f_uLoad (nm_uLoad L) uLoadFn b a;u_c dk b a;u_reg b a;u_op b a;u_c cZ b a;u_c dk b a;u_reg b a;iterate 3 u_op b a
  refine jH (λk l=>?_);clear l a;refine⟨rfl,λc=>⟨_,stepG_load_atomic rfl rfl (by k_ne) rfl H.f_loadU64 (x_loadU64_n L) (x_loadU64_b L) (x_loadU64_x L) .u64 (x_loadU64_f L) rfl c.cellSt,60,?_⟩⟩;have a:True/\WgLive L.tWg Wg k:=⟨trivial,_,_,c⟩;clear c;walk_nrm;u_op b a;u_c cZ b a;u_c stepG_ret' b a;u_leave1 H.f_uLoad b a;iterate 2 u_op b a
  u_c cZ b a;u_cond false b a;u_c fC b a;u_c dk b a;u_reg b a;iterate 3 u_op b a
  u_call H.f_uStore (nm_uStore L) uStoreFn b a;u_reg b a;iterate 4 u_op b a
  refine jH (λm n=>?_);clear n a;refine⟨rfl,λc=>⟨_,stepG_store_atomic rfl rfl (by k_ne) rfl H.f_storeU64 (x_storeU64_n L) (x_storeU64_b L) (x_storeU64_x L) (x_storeU64_f L) rfl rfl c.cellSt (c.thaw 0),60,?_⟩⟩;have a:True/\WgLive L.tWg Wg (m.setCell (stA Wg) (.int .u64 0)):=⟨trivial,_,_,c.setSt 0⟩;clear c;walk_nrm;u_c cZ b a;u_c stepG_end b a;u_leave0 H.f_uStore b a;u_c cZ b a;iterate 2 u_c dk b a
  u_reg b a;u_op b a;u_c cZ b a;u_cond false b a;u_c fC b a;u_c sM b a;u_c stepG_loop b a;iterate 2 u_c dk b a
  u_reg b a;iterate 2 u_op b a
  u_c cZ b a;u_cond true b a;u_c fC b a;u_c dk b a;u_c sM b a;u_reg b a;iterate 3 u_op b a
  refine jH (λx o=>?_);clear o a;refine⟨rfl,mayWake_entry rfl rfl H.f_semrelease (x_semrelease_b L),λc=>⟨_,(stepG_semrelease rfl rfl (by k_ne) rfl H.f_semrelease (x_semrelease_n L) (x_semrelease_b L) (x_semrelease_x L) (x_semrelease_f L) (by simp[Act.eval,smA]) c.cellSm (c.thaw 1)).trans (by rfl),qt+40,?_⟩⟩;clear c;walk_nrm;q_c cZ;q_c stepG_inBlock;q_reg;iterate 3 (refine gB ?_;walk_nrm)
  q_c cZ;q_c stepG_inLoop;iterate 2 q_c dk
  q_reg;iterate 2 (refine gB ?_;walk_nrm)
  q_c cZ;q_cond false;q_exit;q_c stepG_end;q_enable;q_leave0 H.f_add;exact mK dq q
 ·replace c:WgAt L.tWg Wg e (((v:Nat)+1)*KK+0) 0:=cL;have z:((v:Nat):Int)*KK+((0:Nat):Int)=(v:Int)*KK+0:=dq;rw[z];have s:0<v:=cM;have p:IntKind.u64.wrap (((v:Nat)+1)*KK+0+18446744069414584320)=(v:Int)*KK+0:=by rw[IntKind.wrap_u64];simp only[KK];omega
  obtain⟨S,d⟩:∃S:Int,S=(v:Int)*KK+0:=⟨_,rfl⟩;rw[<-d]at p⊢;have D:S/4294967296=(v:Int):=by rw[d];simp only[KK];simp
  have E:bits .and .u64 S 2147483648=0:=by rw[d];have:=st_flag v 0 cM dq;grind [KK]
  have F:bits .and .u64 S 2147483647=0:=by rw[d];have:=st_waiters v 0 cM dq;grind [KK]
  have I:IntKind.i32.wrap (v:Int)=(v:Int):=by rw[IntKind.wrap_i32];omega
  have J:decide ((v:Int)<0)=false:=cL;have K:decide (0<(v:Int))=true:=cL;have M:((v:Int)==0)=false:=cL;have N:decide ((v:Int)=0)=false:=cL;clear d z;refine⟨_,(stepG_add_atomic rfl rfl (by k_ne) rfl H.f_addU64 (x_addU64_n L) (x_addU64_b L) (x_addU64_x L) .u64 (x_addU64_f L) rfl rfl c.cellSt (c.thaw 0)).trans (by rw[p];rfl),cL,λ_=>⟨qt+90,?_⟩⟩;clear c;walk_nrm;(refine gB ?_;walk_nrm);q_c cZ;q_c stepG_ret';q_leave1 H.f_uAdd;(refine gB ?_;walk_nrm);q_c cZ;iterate 2 q_c dk
  q_reg;iterate 4 (refine gB ?_;walk_nrm)
  iterate 2 q_skip
  (refine gB ?_;walk_nrm);q_c cZ;q_cond false;q_c fC;q_c dk;q_reg;iterate 4 (refine gB ?_;walk_nrm)
  q_c cZ;q_c dk;q_reg;iterate 4 (refine gB ?_;walk_nrm)
  q_c cZ;iterate 2 q_c dk
  q_reg;iterate 5 (refine gB ?_;walk_nrm)
  iterate 4 q_skip
  (refine gB ?_;walk_nrm);q_c cZ;q_cond false;q_c fC;iterate 2 q_c dk
  q_reg;iterate 2 (refine gB ?_;walk_nrm)
  q_c cZ;q_cond false;q_c fC;iterate 2 q_c dk
  q_reg;iterate 3 (refine gB ?_;walk_nrm)
  iterate 2 q_skip
  iterate 2 (refine gB ?_;walk_nrm)
  iterate 4 q_skip
  (refine gB ?_;walk_nrm);q_c cZ;q_cond false;q_c fC;iterate 2 q_c dk
  q_reg;iterate 3 (refine gB ?_;walk_nrm)
  iterate 2 q_skip
  (refine gB ?_;walk_nrm);q_c cZ;q_cond true;q_c stepG_ret';q_enable;q_leave0 H.f_add;exact mK dq q
 ·replace c:WgAt L.tWg Wg e (((v:Nat)+1)*KK+1) 0:=cL;have z:((v:Nat):Int)*KK+((1:Nat):Int)=(v:Int)*KK+1:=dq;rw[z];have s:0<v:=cM;have p:IntKind.u64.wrap (((v:Nat)+1)*KK+1+18446744069414584320)=(v:Int)*KK+1:=by rw[IntKind.wrap_u64];simp only[KK];omega
  obtain⟨S,d⟩:∃S:Int,S=(v:Int)*KK+1:=⟨_,rfl⟩;rw[<-d]at p⊢;have D:S/4294967296=(v:Int):=by rw[d];simp only[KK];omega
  have E:bits .and .u64 S 2147483648=0:=by rw[d];have:=st_flag v 1 cM cM;simpa[KK]using this
  have F:bits .and .u64 S 2147483647=1:=by rw[d];have:=st_waiters v 1 cM cM;simpa[KK]using this
  have I:IntKind.i32.wrap (v:Int)=(v:Int):=by rw[IntKind.wrap_i32];omega
  have J:decide ((v:Int)<0)=false:=cL;have K:decide (0<(v:Int))=true:=cL;have M:((v:Int)==0)=false:=rp;have N:decide ((v:Int)=0)=false:=cL;clear d z;refine⟨_,(stepG_add_atomic rfl rfl (by k_ne) rfl H.f_addU64 (x_addU64_n L) (x_addU64_b L) (x_addU64_x L) .u64 (x_addU64_f L) rfl rfl c.cellSt (c.thaw 0)).trans (by rw[p];rfl),cL,λ_=>⟨qt+90,?_⟩⟩;clear c;walk_nrm;(refine gB ?_;walk_nrm);q_c cZ;q_c stepG_ret';q_leave1 H.f_uAdd;(refine gB ?_;walk_nrm);q_c cZ;iterate 2 q_c dk
  q_reg;iterate 4 (refine gB ?_;walk_nrm)
  iterate 2 q_skip
  (refine gB ?_;walk_nrm);q_c cZ;q_cond false;q_c fC;q_c dk;q_reg;iterate 4 (refine gB ?_;walk_nrm)
  q_c cZ;q_c dk;q_reg;iterate 4 (refine gB ?_;walk_nrm)
  q_c cZ;iterate 2 q_c dk
  q_reg;iterate 5 (refine gB ?_;walk_nrm)
  iterate 4 q_skip
  (refine gB ?_;walk_nrm);q_c cZ;q_cond false;q_c fC;iterate 2 q_c dk
  q_reg;iterate 2 (refine gB ?_;walk_nrm)
  q_c cZ;q_cond false;q_c fC;iterate 2 q_c dk
  q_reg;iterate 7 (refine gB ?_;walk_nrm)
  iterate 4 q_skip
  (refine gB ?_;walk_nrm);q_c cZ;q_cond false;q_c fC;iterate 2 q_c dk
  q_reg;iterate 3 (refine gB ?_;walk_nrm)
  iterate 2 q_skip
  (refine gB ?_;walk_nrm);q_c cZ;q_cond true;q_c stepG_ret';q_enable;q_leave0 H.f_add;exact mK cM q
end
end Go.dA.Wg
namespace Go.dA.Cr
open Go.Conc Go.dA Go.dA.Kn Go.dA.Wg
open Go.ConcR (KK wgBlock WgAt stA smA mk DC0)
section
variable{P:cU}{main:Bool}{own rd:Nat->Prop}{ty:cR}{Wg:Nat}{S:iV}{g g':cQ}{w:cJ} {b:Frame}{a:Act}{k:List Item}{cs:List Frame}{ops:Array Oper}{i:Nat}{rest:List Nat}{o:Oper}{v:cK}
def mo(f:g.status=.running)(h:∀b,eP own rd (Lv ty Wg) w b->∃g' c d a,stepG P main g b=.go g' c d/\Ol own rd b c d a/\Wy P ty Wg main rd S a g' c):Wy P ty Wg main rd S own g w:=by refine Way.mk f λb i=>?_;have⟨g',c,d,a,e,j,k,l⟩:=h b i;exact⟨g',c,d,a,k,e,j,l⟩
def O6(b:g.status=.running)(h:∀w,stepG P main g w=.go g' w #[])(c:∀a,eP own rd (Lv ty Wg) w a->Wy P ty Wg main rd S own g' a):Wy P ty Wg main rd S own g w:=
 mo b λa d=>⟨g',a,#[],own,h a,z9 λe f=>by simp at f,c a d⟩
def O7(d:ops[i]? =some o)(e:Region.wanted o (yielded ops a.tmps)=true)(f:b.kind≠ .early)(g:∀w,(execOp a.eval o).run P w=.ok (.value v) w)(h:∀w,(execOp a.eval o).events P w #[]=#[]) (j:∀c,eP own rd (Lv ty Wg) w c->Wy P ty Wg main rd S own (G (b.at (a.put o.dst v) (.inRegion ops rest::k)) cs) c):Wy P ty Wg main rd S own (G (b.at a (.inRegion ops (i::rest)::k)) cs) w:=
 O6 rfl (λw=>by rw[stepG_value d e f (g w)];unfold listed;rw[h w,seen_none]) j
def Sn(d:ops[i]? =some o)(f:Region.wanted o (yielded ops a.tmps)=true)(g:b.kind≠ .early) (h:∀c,eP own rd (Lv ty Wg) w c->(execOp a.eval o).run P c=.ok (.value v) c/\(∀e∈listed P b.fn a o c,EvW own rd c.heap.size c.heap.size e)/\Wy P ty Wg main rd S own (G (b.at (a.put o.dst v) (.inRegion ops rest::k)) cs) c):Wy P ty Wg main rd S own (G (b.at a (.inRegion ops (i::rest)::k)) cs) w:=
 mo rfl λc j=>by have⟨l,m,n⟩:=h c j;exact⟨_,c,_,own,stepG_value d f g l,z9 m,n⟩
def Vn{ob:Obj}(g:ops[i]? =some o)(j:Region.wanted o (yielded ops a.tmps)=true)(l:b.kind≠ .early) (h:∀c,eP own rd (Lv ty Wg) w c->∃v d,(execOp a.eval o).run P c=.ok (.value v) d/\d.tape=c.tape/\d.os=c.os/\d.output=c.output/\d.heap=c.heap.push ob/\(∀e∈listed P b.fn a o c,EvW own rd c.heap.size d.heap.size e)/\
  Wy P ty Wg main rd S (λx=>own x\/x=c.heap.size) (G (b.at (a.put o.dst v) (.inRegion ops rest::k)) cs) d):Wy P ty Wg main rd S own (G (b.at a (.inRegion ops (i::rest)::k)) cs) w:=
 mo rfl λc m=>by have⟨v,d,n,p,q,r,f,s,t⟩:=h c m;refine⟨_,d,_,_,stepG_value g j l n,⟨p,q,r,by rw[f];simp,λx=>?_,λx u _=>?_,s⟩,t⟩;rw[f,Array.size_push];constructor;rintro(h|h);exact .inl h;exact .inr cM;rintro(h|h);exact .inl h;exact .inr cM;rw[f,vO];split;rename_i e;omega;rfl
def F0{ad:Addr}{x:cK}(m:ops[i]? =some o)(n:Region.wanted o (yielded ops a.tmps)=true)(p:b.kind≠ .early)(g:own ad.block) (h:∀d,eP own rd (Lv ty Wg) w d->∃f,(execOp a.eval o).run P d=.ok .skip f/\f.tape=d.tape/\f.os=d.os/\f.output=d.output/\f.heap.size=d.heap.size/\(∀c,c≠ad.block->f.heap[c]? =d.heap[c]?)/\(∀e∈listed P b.fn a o d,EvW own rd d.heap.size d.heap.size e)/\Wy P ty Wg main rd S own (G (b.at (a.put o.dst undef) (.inRegion ops rest::k)) cs) f):Wy P ty Wg main rd S own (G (b.at a (.inRegion ops (i::rest)::k)) cs) w:=
 mo rfl λd q=>by have⟨f,r,s,t,u,j,v,z,A⟩:=h d q;refine⟨_,f,_,_,stepG_none m n p r,⟨s,t,u,by rw[j];exact di _,λy=>?_,λy B l=>v y (λe=>l (e▸g)),by rw[j];exact z⟩,A⟩;rw[j];exact⟨.inl,λh=>h.elim id λh=>cM⟩
def _root_.Go.dA.eP.cell{L:dC}{d:cJ}(f:eP own rd L w d)(g:own h.block\/rd h.block)(a:w.cell? h=some v):d.cell? h=some v:=by
 have b:h.block<w.lG:=by refine zN λc=>?_;have:w.heap[h.block]? =none:=vM c;simp[World.cell?,this]at a
 have e:=f.heap h.block b g;unfold World.cell? at a⊢;rw[e];exact a
def _root_.Go.dA.eP.obj{L:dC}{a:cJ}(h:eP own rd L w a){c:Nat}(d:own c\/rd c)(b:w.heap[c]? =some O):a.heap[c]? =some O:=by rw[h.heap c (lt_of_heap b) d];exact b
end
end Go.dA.Cr
namespace Go.Proofs.W
open Go.Conc Go.dA Go.dA.Cr Go.dA.Wg Go.RowKit Go.Conc.Lib Go.ConcR.Gen
open Go.ConcR (KK wgBlock WgAt stA smA mk DC0)
open Go.Proofs (Tryz.prog)
noncomputable abbrev PR:cU:=Tryz.prog
noncomputable def F1:Frame:=baseD 188
noncomputable def Ea:Code:=Tryz.f188.body.getD .skip
noncomputable def F2(a b c d:Nat):eH:=#[.pointer (some ⟨d,0,none⟩),.pointer (some ⟨a,0,none⟩),.pointer (some ⟨b,0,none⟩),.pointer (some ⟨c,0,none⟩)]
noncomputable def call188(a b c d:Nat):Deferred:={target:=.fn (.func 188) (F2 a b c d),args:=#[]}
noncomputable def bot:Frame:={(default:Frame)with fn:=PR.funcs.size,defers:=[],mode:=.panicking [goexitEntry]}
def Mr(a b c d:Nat)(w:cJ):stepG PR false (born PR (call188 a b c d)) w=.go (G (F1.at ⟨F2 a b c d++Array.replicate 14 undef,[]⟩ [.code Ea]) [bot]) w #[]:=by simp[born,call188,F2,stepG,unwind,callDeferred,invoke,callFunc,Tryz.func188,Tryz.f188,seen,GStep.after,G,Frame.enter,Frame.at,F1,baseD,bot,Ea]
end Go.Proofs.W
namespace Go.dA.Cr
open Go.Conc Go.dA Go.dA.Kn Go.dA.Wg
open Go.ConcR (KK wgBlock WgAt stA smA mk DC0)
section
variable{P:cU}{main:Bool}{own rd:Nat->Prop}{ty:cR}{Wg:Nat}{S:iV}{K:cJ->Prop}{g g':cQ} {b:Frame}{a:Act}{k:List Item}{cs:List Frame}{ops:Array Oper}{i:Nat}{rest:List Nat}{o:Oper}{v:cK}
def WK(P:cU)(ty:cR)(Wg:Nat)(main:Bool)(rd:dp)(S:iV)(own:dp)(K:dC)(g:cQ):Prop:=∀w,K w->Wy P ty Wg main rd S own g w
def pt(own rd:dp)(L:dC)(K:dC):Prop:=∀w a,eP own rd L w a->K w->K a
theorem WK.step(b:pt own rd (Lv ty Wg) K)(f:g.status=.running)(h:∀w,K w->∃g' c d a,stepG P main g w=.go g' c d/\Ol own rd w c d a/\Wy P ty Wg main rd S a g' c):WK P ty Wg main rd S own K g:=
 λw i=>mo f λe j=>h e (b w e j i)
def WK.ctl(a:pt own rd (Lv ty Wg) K)(c:g.status=.running)(h:∀w,stepG P main g w=.go g' w #[])(d:WK P ty Wg main rd S own K g'):WK P ty Wg main rd S own K g:=
 λw e=>O6 c h λb f=>d b (a w b f e)
def WK.val(c:pt own rd (Lv ty Wg) K)(e:ops[i]? =some o)(f:Region.wanted o (yielded ops a.tmps)=true)(g:b.kind≠ .early)(h:∀w,(execOp a.eval o).run P w=.ok (.value v) w)(j:∀w,(execOp a.eval o).events P w #[]=#[]) (l:WK P ty Wg main rd S own K (G (b.at (a.put o.dst v) (.inRegion ops rest::k)) cs)):WK P ty Wg main rd S own K (G (b.at a (.inRegion ops (i::rest)::k)) cs):=
 λw m=>O7 e f g h j λd n=>l d (c w d n m)
def WK.load(c:pt own rd (Lv ty Wg) K)(h:ops[i]? =some o)(j:Region.wanted o (yielded ops a.tmps)=true)(l:b.kind≠ .early) (m:∀w,K w->(execOp a.eval o).run P w=.ok (.value v) w)(n:∀w,K w->∀e∈(execOp a.eval o).events P w #[],EvW own rd w.heap.size w.heap.size e) (p:WK P ty Wg main rd S own K (G (b.at (a.put o.dst v) (.inRegion ops rest::k)) cs)):WK P ty Wg main rd S own K (G (b.at a (.inRegion ops (i::rest)::k)) cs):=
 λw f=>Sn h j l λd g=>⟨m d (c w d g f),λe q=>n d (c w d g f) e (mem_listed q),p d (c w d g f)⟩
def WK.new{ob:Obj}{f:Nat->cK}(j:pt own rd (Lv ty Wg) K)(l:ops[i]? =some o)(m:Region.wanted o (yielded ops a.tmps)=true)(n:b.kind≠ .early) (p:∀w,K w->(execOp a.eval o).run P w=.ok (.value (f w.heap.size)) {w with heap:=w.heap.push ob})
 (t:∀w,K w->∀e∈(execOp a.eval o).events P w #[],EvW own rd w.heap.size (w.heap.size+1) e) (q:∀c,WK P ty Wg main rd S (λx=>own x\/x=c) (λw=>∃g,K g/\c=g.heap.size/\eP (λx=>own x\/x=c) rd (Lv ty Wg) {g with heap:=g.heap.push ob} w) (G (b.at (a.put o.dst (f c)) (.inRegion ops rest::k)) cs)):
 WK P ty Wg main rd S own K (G (b.at a (.inRegion ops (i::rest)::k)) cs):=
 λw r=>Vn (ob:=ob) l m n λh s=>by have d:=j w h s r;exact⟨_,_,p h d,rfl,rfl,rfl,rfl,λe u=>by grind [mem_listed],q h.lG _ ⟨h,d,rfl,.refl _ _ _ _⟩⟩
theorem fS(w:cJ)(a:Addr)(u:cK)(k:Nat)(h:k≠a.block):(w.setCell a u).heap[k]? =w.heap[k]? :=by simp only[World.setCell,nL];grind
def WK.store{ad:Addr}{x:cK}(h:pt own rd (Lv ty Wg) K)(l:ops[i]? =some o)(m:Region.wanted o (yielded ops a.tmps)=true)(n:b.kind≠ .early)(f:own ad.block) (p:∀w,K w->(execOp a.eval o).run P w=.ok .skip (w.setCell ad x))(q:∀w,K w->∀e∈(execOp a.eval o).events P w #[],EvW own rd w.heap.size w.heap.size e)
 (r:WK P ty Wg main rd S own (λw=>∃j,K j/\eP own rd (Lv ty Wg) (j.setCell ad x) w) (G (b.at (a.put o.dst undef) (.inRegion ops rest::k)) cs)):
 WK P ty Wg main rd S own K (G (b.at a (.inRegion ops (i::rest)::k)) cs):=
 λw s=>F0 l m n f (x:=x) λg t=>by have d:=h w g t s;exact⟨_,p g d,dq,by simp[World.setCell],by simp[World.setCell],dq,λc u=>fS g ad x c u,λe v=>q g d e (mem_listed v),r _ ⟨g,d,.refl _ _ _ _⟩⟩
def WK.write{W:cJ->dC}{bl:Nat}(l:pt own rd (Lv ty Wg) K)(p:ops[i]? =some o)(q:Region.wanted o (yielded ops a.tmps)=true)(r:b.kind≠ .early)(h:own bl) (s:∀w,K w->∃d,(execOp a.eval o).run P w=.ok .skip d/\d.tape=w.tape/\d.os=w.os/\d.output=w.output/\d.heap.size=w.heap.size/\(∀c,c≠bl->d.heap[c]? =w.heap[c]?)/\W w d) (t:∀w,K w->∀e∈(execOp a.eval o).events P w #[],EvW own rd w.heap.size w.heap.size e)
 (u:WK P ty Wg main rd S own (λw=>∃j f,K j/\W j f/\f.heap.size=j.heap.size/\(∀c,c≠bl->f.heap[c]? =j.heap[c]?)/\eP own rd (Lv ty Wg) f w) (G (b.at (a.put o.dst undef) (.inRegion ops rest::k)) cs)):
 WK P ty Wg main rd S own K (G (b.at a (.inRegion ops (i::rest)::k)) cs):=
 λw v=>F0 p q r (ad:=(dt bl 0)) (x:=gU) h λf y=>by have g:=l w f y v;have⟨d,z,A,B,C,m,n,D⟩:=s f g;exact⟨d,z,A,B,C,m,n,λe E=>t f g e (mem_listed E),u _ ⟨f,d,g,D,m,n,.refl _ _ _ _⟩⟩
def WK.mono{K':dC}(h:WK P ty Wg main rd S own K' g)(a:∀w,K w->K' w):WK P ty Wg main rd S own K g:=λw b=>h w (a w b)
def WK.stop(a:pt own rd (Lv ty Wg) K)(h:∀w,K w->S own g w):WK P ty Wg main rd S own K g:=λw c=>pG λb d=>h b (a w b d c)
def So{L:dC}{c:Nat}(a:own c\/rd c):pt own rd L λw=>w.heap[c]? =some O:=λ_ _ b h=>b.obj a h
def KQ{L:dC}{a:dC}(h:pt own rd L K)(e:pt own rd L a):pt own rd L λw=>K w/\a w:=λw b c d=>⟨h w b c d.1,e w b c d.2⟩
end
section
variable{P:cU}{main:Bool}{own rd:Nat->Prop}{ty:cR}{Wg:Nat}{S:iV}{K:cJ->Prop}{g g':cQ} {b:Frame}{a:Act}{k:List Item}{cs:List Frame}{ops:Array Oper}{i:Nat}{rest:List Nat}{o:Oper}{v:cK}
theorem WK.enter{f:dZ}{fn:Func}{c:Code}{args:Array dU}{e:Array cR}(g:pt own rd (Lv ty Wg) K) (m:ops[i]? =some o)(n:Region.wanted o (yielded ops a.tmps)=true)(p:b.kind≠ .early)(j:o.op=.call {callee:=.value (.func f),args:=args,argTypes:=e}) (q:P.funcs[f]? =some fn)(d:(fn.name== "runtime.NumGoroutine")=false)(r:fn.body=some c) (h:WK P ty Wg main rd S own K (G (Frame.enter P f (args.map a.eval) .normal) (b.at a (.inRegion ops (i::rest)::k)::cs))):WK P ty Wg main rd S own K (G (b.at a (.inRegion ops (i::rest)::k)) cs):=by refine WK.ctl g rfl (λw=>?_) h;have l:fn.body.isNone=false:=cL;rw[stepG_enter m n p (run_call_body j q d l)];grind [events_call_body,seen_none,listed]
def Out(U:cK->Prop)(R:nu)(rd:dp)(b:dO)(a:Frame)(cs:List Frame):iV:=λown g w=>
 ∃c x d v,g=G (a.finish d) cs/\R x v/\VR c x d/\dO.Le b c/\xg c v w own rd/\U d
def Eb{f:dZ}{fn:Func}{U:cK->Prop}(hU:∀(ts:eH) (Q:cU) (w:cJ) (x:cK) (u:cJ),(results fn ts).run Q w=.ok x u->U x){L:nu}{d:Frame}{w:cJ}(hR:∀x w T,L x w->L x (dw w T))(hG:Good P R)(O:P.funcs[f]? =some fn) (h:FR P (Left P f L) rd (d::cs) R own g w):Wy (P.jj R.fs) ty Wg main rd (Out U L rd R d cs) own g w:=by
 have⟨c,ρ,n,k,i,t,hl,M⟩:=h;have z:=n;have⟨h1,E,x0,h3,h4,h5,h6,aa,h7,h8⟩:=z;rw[E,O]at h7;obtain rfl:=dT h7;have⟨l,ab,ac,ad,ae⟩:=g;have⟨S,af,e1,V,hX⟩:=k.callers;have e3:=k.st.2;have e4:=k.dy.2;have e5:=k.of.2;simp only at V e3 e4 e5 i;have F:c.cl=S++[floor]:=e1;rw[h1]at F;have W:S=[]:=by
  cases S with
  |nil=>rfl
  |cons y ys=>simp at F
 subst W;cases hX;simp only[qI]at V;subst V e3 e4 e5;have m2:l.mode=.returning:=by have o:=i.mode;rw[h4]at o;generalize l.mode=m at o⊢;cases o;rfl
 have d2:l.defers=[]:=by have o:=i.defers;rw[h5]at o;generalize l.defers=m at o⊢;cases o;rfl
 have k2:l.kind=.normal:=i.kind▸h6;have f2:l.fn=f:=i.fn▸E;have X:Good P ρ:=hG.mono t;have g2:(P.jj R.fs).funcs[f]? =some fn:=by have⟨ag,c2,j1,_,_,j4⟩:=X.two.fn f (E▸i.fnS.1);rw[j4 (E▸i.fnS.2)]at O;rw[t.f];grind
 refine mo rfl λs hr=>?_;have p:=hl.rely hr;have hw:WR ρ (dw c.v (sG c.v s)) s:=WR.sG p.heap;have⟨_,_,x,k3,k4,k5,k6,ah,k7,k8⟩:=Left.dw hR c (sG c.v s) M n;rw[E,O]at k7;obtain rfl:=dT k7;have ai:(results fn c.fr.tmps).run P (dw c.v (sG c.v s))=.ok x (dw c.v (sG c.v s)):=k8;have H:∀{r:Result cK} {I:Array Event},(results fn c.fr.tmps).runT P (dw c.v (sG c.v s)) #[]=(r,I)->r=.ok x (dw c.v (sG c.v s)):=λ{r I} e=>by rw[kL]at e;grind
 obtain⟨hh,v1,I,e,_⟩|⟨a,b,v1,N,C,I,J,e,D,K,m⟩|⟨a,b,v1,N,C,I,J,e,D,K,m⟩:=eg.run hw (SR.results (fn:=fn) i.tmps);cases H e;have:=H e;injection this with ea ev;subst ea ev;rw[<-t.f]at D;let A:dp:=λb=>own b\/(s.lG<=b/\b<N.lG);have Y:xg C (dw c.v (sG c.v s)) N A rd:=by refine⟨m.rel.hr,λb c' j=>?_⟩;obtain h|⟨_,h⟩:=m.fresh b c' j;obtain h|⟨h,q⟩:=p.zone b c' h;grind;grind [yW,dw,sG];exact .inl (.inr ⟨h,m.rel.V8 j⟩)
 refine⟨G (d.finish b) cs,N,seen (P.jj R.fs) f J,A,?_,⟨m.tape,m.os,m.output,m.usize,cL,λb hb aj=>m.same b hb λb0 j=>?_,λe he=>?_⟩,pG λw2 Z=>⟨C,a,b,_,rfl,k3,K,t.trans m.le,Y.rely Z,hU _ _ _ _ _ (by rw[kL]at D;exact(Prod.mk.inj D).1)⟩⟩;rw[kL]at D;have⟨r1,r2⟩:=Prod.mk.inj D;simp[stepG,unwind,doReturn,m2,d2,k2,f2,g2,r1,r2,G,GStep.after];obtain h|⟨_,h⟩:=p.zone b0 b j;grind;exact h;obtain⟨a,B,b,rfl,j,_,M⟩|⟨r,B,b,rfl,j,M⟩|⟨a,B,rfl,hn,o⟩|⟨r,B,rfl,hn,o⟩|rfl:=m.evs e (ly he);refine .inl ⟨a,B,rfl,?_⟩;obtain h|⟨h,q⟩:=p.zone b a.block j;grind;cases B with
 |true=>exact absurd (show yW (dw c.v (sG c.v s)) b from q) (M rfl)
 |false=>grind
 refine .inr (.inl ⟨r,B,rfl,?_⟩);obtain h|⟨h,q⟩:=p.zone b r j;grind;grind [absurd,yW,dw,sG];exact .inl ⟨a,B,rfl,.inr (.inr ⟨hn,o⟩)⟩;exact .inr (.inl ⟨r,B,rfl,.inr ⟨hn,o⟩⟩);exact .inr (.inr rfl);grind
def sY{w v:cJ}{f:dZ}{b a:eH}(d:Good P R)(e:∀f,R.hole f=false)(g:R.S f=true)(c:fX R b a)(i:xg R v w own rd):Inv P ⟨Frame.enter P f b .normal,[floor],v⟩:=by
 have h:Inv P ⟨Frame.enter P f b .normal,[floor],dw v (sG v w)⟩:=
  ⟨R,w,G (Frame.enter (P.jj R.fs) f a .normal) [],d,e,WR.sG i.heap,tW d g c .normal (.inl rfl),⟨[],[],rfl,rfl,.nil⟩,⟨rfl,rfl⟩,⟨rfl,rfl⟩,⟨rfl,rfl⟩⟩
 exact h.dw v.tape
def Wy.keep{B:dp}{w:cJ}(m:∀b,B b->rd b/\¬own b/\b<w.heap.size)(h:Wy P ty Wg main rd S own g w):Wy P ty Wg main rd (λo g a=>S o g a/\∀b,B b->a.heap[b]? =w.heap[b]?) own g w:=by
 obtain⟨C,h⟩:=h
 have j:∀(k:Nat->Option Obj),(∀b,B b->rd b/\¬own b/\b<w.heap.size/\w.heap[b]? =k b)->Wy P ty Wg main rd (λo g a=>S o g a/\∀b,B b->a.heap[b]? =k b) own g w:=by
  intro k m;rename_i l;clear l;induction h with
  |here h=>exact pG λf d=>⟨h f d,λb n=>(d.heap b cL cL).trans cL⟩
  |step t u D v=>
   refine mo t λf d=>?_;obtain⟨g',a,p,c,e,i⟩:=u f d;refine⟨g',a,p,c,e,i,v f g' a p c d e i λb n=>?_⟩;obtain⟨q,y,r,z⟩:=m b n;have s:b<f.heap.size:=ew r d.size;refine⟨q,λA=>?_,ew s i.size,(i.same b s y).trans ((d.heap b r (.inr q)).trans z)⟩;obtain x|⟨x,_⟩:=(i.owns b).1 A;grind;grind
 exact j (λb=>w.heap[b]?) cL
def Wy.WM{w:cJ}(p:¬own Wg)(k:Lv ty Wg w)(h:Wy P ty Wg main rd S own g w):Wy P ty Wg main rd (λo g d=>S o g d/\Lv ty Wg d) own g w:=by
 obtain⟨v,h⟩:=h;induction h with
 |here h=>exact pG λb c=>⟨h b c,c.live k⟩
 |step q r y s=>
  refine mo q λb c=>?_;obtain⟨g',d,l,a,e,i⟩:=r b c;obtain⟨m,n,t⟩:=c.live k;have f:b.heap[Wg]? =some (wgBlock ty m n):=t;have j:Wg<b.heap.size:=lt_of_heap f;refine⟨g',d,l,a,e,i,s b g' d l a c e i (λu=>?_) ⟨m,n,(i.same Wg j p).trans f⟩⟩;obtain x|⟨x,_⟩:=(i.owns Wg).1 u;grind;grind
def KT{f:dZ}{e:Func}{U:cK->Prop}(k:∀(l:eH) (Q:cU) (w:cJ) (x:cK) (u:cJ),(results e l).run Q w=.ok x u->U x){R:nu}{ρ0:dO}{caller:Frame}{w v:cJ}{d a:eH}(c:Good P ρ0)(m:∀f,ρ0.hole f=false)(i:ρ0.S f=true)(n:P.funcs[f]? =some e) (p:∀x w T,R x w->R x (dw w T))(b:fX ρ0 d a)(q:Reach P (Left P f R) ⟨Frame.enter P f d .normal,[floor],v⟩)(j:xg ρ0 v w own rd):Wy (P.jj ρ0.fs) ty Wg main rd (Out U R rd ρ0 caller cs) own (G (Frame.enter (P.jj ρ0.fs) f a .normal) (caller::cs)) w:=by
 have r:si P ρ0 (caller::cs) (G (Frame.enter P f d .normal) [floor]) (G (Frame.enter (P.jj ρ0.fs) f a .normal) (caller::cs)):=
  ⟨tW c i b .normal (.inl rfl),⟨[],[],rfl,rfl,.nil⟩,⟨rfl,rfl⟩,⟨rfl,rfl⟩,⟨rfl,rfl⟩⟩
 have s:=Ve (main:=main) (L:=Lv ty Wg) (cs:=caller::cs) (ρ0:=ρ0) Left.callers _ q ρ0 own _ w (sY c m i b j) c cL (.refl _) r j;exact Wy.bind s λo g w h=>Eb k p c n h
end
end Go.dA.Cr
namespace Go.Proofs.W
open Go.Conc Go.dA Go.dA.Cr Go.dA.Wg Go.RowKit Go.Conc.Lib Go.ConcR.Gen
def O8(a:Addr)(w:cJ):(Instr.build 245 #[(0,.pointer (some a))]).run PR w=.ok (.agg #[.pointer (some a),.slice none 0 0,.int .u8 0,.int .u8 0,.int .u8 0,.int .u8 0,.int .u8 0,.int .u8 0,.slice none 0 0,.int .i64 0,.int .i64 0,.bool false]) w:=eE
def Ms(a:Addr)(w:cJ):(Instr.build 245 #[(0,.pointer (some a))]).events PR w #[]=#[]:=eE
def O9(i m n:Int)(b:Bool)(a:dW)(l c:Nat)(w:cJ):(Instr.build 247 #[(0,.int .i64 i),(1,.agg #[.slice a l c,.int .i64 m,.int .i64 n,.bool b])]).run PR w=.ok (.agg #[.int .i64 i,.slice a l c,.int .i64 m,.int .i64 n,.bool b]) w:=eE
def Mt(i m n:Int)(b:Bool)(a:dW)(l c:Nat)(w:cJ):(Instr.build 247 #[(0,.int .i64 i),(1,.agg #[.slice a l c,.int .i64 m,.int .i64 n,.bool b])]).events PR w #[]=#[]:=eE
end Go.Proofs.W
namespace Go.Proofs.W
open Go.Conc Go.dA Go.dA.Cr Go.dA.Wg Go.RowKit Go.Conc.Lib Go.ConcR.Gen
open Go.ConcR (KK wgBlock WgAt stA smA mk DC0)
def yZ(c:dp)(Q:dC):Prop:=∀(w a:cJ),w.heap.size<=a.heap.size->(∀b,b<w.heap.size->c b->a.heap[b]? =w.heap[b]?)->Q w->Q a
def yZ.rely{own rd:dp}{L:dC}{Q:dC}(h:yZ rd Q)(c:eP own rd L w t)(d:Q w):Q t:=h w t c.size (λb e a=>c.heap b e (.inr a)) d
structure KW(pc ic oc Wg Ch:Nat)(pl:Addr)(i:Int)(Q:cJ->Prop)(w:cJ):Prop where
 p:w.cell? ⟨pc,0,none⟩=some (.pointer (some pl))
 i:w.cell? ⟨ic,0,none⟩=some (.int .i64 i)
 o:w.cell? ⟨oc,0,none⟩=some (.chan (some Ch))
 live:Lv 241 Wg w
 q:Q w
theorem KW.rely{Q:dC}{own rd:dp}(c:rd m)(d:rd k)(e:rd i)(f:yZ rd Q):pt own rd (Lv 241 j) (KW m k i j o h I Q):=
 λ_ _ a b=>⟨a.cell (.inr c) b.p,a.cell (.inr d) b.i,a.cell (.inr e) b.o,a.live b.live,f.rely a b.q⟩
def kR(a:Addr):eH:=#[.pointer (some a),.slice none 0 0,.int .u8 0,.int .u8 0,.int .u8 0,.int .u8 0,.int .u8 0,.int .u8 0,.slice none 0 0,.int .i64 0,.int .i64 0,.bool false]
noncomputable def F3:Array Oper:=(λ(x:Array Oper) (_:gX Tryz.f188 2=.region 2 x false)=>x) _ (by conv=>lhs;whnf)
noncomputable def fK:Array Oper:=(λ(x:Array Oper) (_:gX Tryz.f188 3=.region 3 x true)=>x) _ (by conv=>lhs;whnf)
noncomputable def kq(k l m i T:Nat)(j:Addr)(n o a b c d e f g h:cK):Act:=
 {tmps:=#[.pointer (some ⟨i,0,none⟩),.pointer (some ⟨k,0,none⟩),.pointer (some ⟨l,0,none⟩),.pointer (some ⟨m,0,none⟩),.pointer (some ⟨T,0,none⟩),.pointer (some j),.agg (kR j),.pointer (some ⟨T,0,none⟩),n,o,a,b,c,d,e,f,g,h],defers:=[dcall 189 #[.pointer (some ⟨i,0,none⟩)]]}
noncomputable def F4(a b c d T:Nat)(e:Addr)(i:Int):Frame:=
 F1.at (kq a b c d T e (.pointer (some ⟨T,0,none⟩)) (.int .i64 i) undef undef undef undef undef undef undef undef) [.inRegion F3 [2],.code (.region 3 fK true)]
def Uu(e:dp)(f:Nat)(q:Addr)(i:Int)(Q:dC)(r:(dp)->cJ->cK->Prop):Prop:=
 ∀(d:dp) (w:cJ) (T:Nat) (c:Frame) (h:List Frame),Q w->(∀b,d b↔b=T)->w.heap[T]? =some (.cells (kR q) 245)->
  Wy PR 241 f false e (λo g j=>g=G (c.finish undef) h/\o T/\∃t u v x y z A B a l k m n s C,j.heap[T]? =some (.cells #[t,u,v,x,y,z,A,B,.slice a l k,.int .i64 m,.int .i64 n,.bool s] 245 C)/\
   ∀p,eP o e (Lv 241 f) j p->r o p (.agg #[.slice a l k,.int .i64 m,.int .i64 n,.bool s])) d (G (Frame.enter PR 190 #[.pointer (some ⟨T,0,none⟩),.int .i64 i] .normal) (c::h)) w
def ue(b:w.cell? h=some x):h.block<w.heap.size:=by refine zN λa=>?_;have:w.heap[h.block]? =none:=vM a;simp[World.cell?,this]at b
def xj(b:w.cell? h=some x):({w with heap:=w.heap.push O}:cJ).cell? h=w.cell? h:=by
 have c:h.block<w.heap.size:=by refine zN λa=>?_;have:w.heap[h.block]? =none:=vM a;simp[World.cell?,this]at b
 have:(w.heap.push O)[h.block]? =w.heap[h.block]? :=by grind
 simp only[World.cell?,this]
def uf(h:Lv m k w):Lv m k ({w with heap:=w.heap.push O}:cJ):=by have⟨a,b,h⟩:=h;refine⟨a,b,?_⟩;have c:w.heap[k]? =some (wgBlock m a b):=h;show(w.heap.push O)[k]? =_;grind
def Sq{u:iV}(y:A m)(z:A k)(D:A i)(B:yZ A S)
 (E:∀T,WK PR 241 j false A u (λx=>dr x\/x=T) (λw=>KW m k i j o h I S w/\w.heap[T]? =some (.cells (kR h) 245)/\m<T/\k<T/\i<T/\j<T)
  (G (Frame.enter PR 190 #[.pointer (some ⟨T,0,none⟩),.int .i64 I] .normal) [F4 m k i j T h I,bot])):
 WK PR 241 j false A u dr (KW m k i j o h I S) (born PR (call188 m k i j)):=by
 have b:∀l,pt l A (Lv 241 j) (KW m k i j o h I S):=λ_=>KW.rely y z D B;have r:=λw=>O8 h w;have s:=λw=>Ms h w;refine WK.ctl (b _) rfl (Mr m k i j) ?_;simp only[Ea,Tryz.f188,kK,F2,Array.replicate,List.replicate];refine WK.ctl (b _) rfl (λ_=>dk)<|WK.ctl (b _) rfl (λ_=>ig) ?_;simp only[im,fa,fP,Nat.reduceAdd,dn,List.range,List.range.loop];refine WK.ctl (b _) rfl (λ_=>stepG_defer rfl rfl (by k_ne) rfl) ?_;walk_nrm;refine WK.ctl (b _) rfl (λ_=>cZ)<|WK.ctl (b _) rfl (λ_=>dk)<|WK.ctl (b _) rfl (λ_=>ig) ?_;simp only[im,fa,fP,Nat.reduceAdd,dn,List.range,List.range.loop];refine WK.load (v:=.pointer (some h)) (b _) rfl rfl (by k_ne) (λw a=>?_) (λw a e d=>?_) ?_;have g:=(λw a=>a.p) w a;go_simp;have g:=(λw a=>a.p) w a;simp[go_sem,g]at d;exact .inl ⟨_,_,d,.inr (.inl ⟨rfl,y⟩)⟩;walk_nrm;refine WK.val (v:=.agg (kR h)) (b _) rfl rfl (by k_ne) (λw=>?_) (λw=>?_) ?_;go_simp;first|rfl|simp only[r]|skip
 simp[go_sem,s];walk_nrm;refine WK.new (f:=λn=>dQ n) (ob:=.cells (kR h) 245) (b _) rfl rfl (by k_ne) (λw a=>?_) (λw a e d=>?_) (λT=>?_);go_simp;first|rfl|skip
 simp[go_sem]at d;refine WK.mono (K':=λw=>KW m k i j o h I S w/\fF w T (kR h) 245/\m<T/\k<T/\i<T/\j<T) ?_ ?_;rotate_left;rintro w ⟨t,a,rfl,C⟩;have F:KW m k i j o h I S {t with heap:=t.heap.push (.cells (kR h) 245)}:=by exact⟨by rw[<-a.p];exact xj a.p,by rw[<-a.i];exact xj a.i,by rw[<-a.o];exact xj a.o,uf a.live,B t _ dq cL a.q⟩
 have⟨K,L,H⟩:=a.live;exact⟨(b _) _ _ C F,C.obj cL dq,ue a.p,ue a.i,ue a.o,lt_of_heap H⟩;have c:pt (λx=>dr x\/x=T) A (Lv 241 j) (λw=>KW m k i j o h I S w/\fF w T (kR h) 245/\m<T/\k<T/\i<T/\j<T):=KQ (b _) (KQ (So cL) λ_ _ _ J=>J);walk_nrm;refine WK.val (v:=?_) c rfl rfl (by k_ne) (λw=>?_) (λw=>?_) ?_;rotate_left;go_simp;rfl;go_simp;walk_nrm;refine WK.ctl c rfl (λ_=>cZ)<|WK.ctl c rfl (λ_=>dk)<|WK.ctl c rfl (λ_=>ig) ?_;simp only[im,fa,fP,Nat.reduceAdd,dn,List.range,List.range.loop];refine WK.val (v:=?_) c rfl rfl (by k_ne) (λw=>?_) (λw=>?_) ?_;rotate_left;go_simp;rfl;go_simp;walk_nrm;refine WK.load (v:=i64 I) c rfl rfl (by k_ne) (λw a=>?_) (λw a e d=>?_) ?_;have g:=(λw a=>a.1.i) w a;go_simp;have g:=(λw a=>a.1.i) w a;simp[go_sem,g]at d;exact .inl ⟨_,_,d,.inr (.inl ⟨rfl,z⟩)⟩;walk_nrm;refine WK.enter c rfl rfl (by k_ne) rfl Tryz.func190 rfl rfl ?_;simp only[List.map_toArray,kI,uI];exact E T
end Go.Proofs.W
