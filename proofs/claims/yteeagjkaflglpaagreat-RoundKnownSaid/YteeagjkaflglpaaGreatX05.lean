/- Laws that the proof needs, part 5. Conditions: none. -/
import Derived.Test.YteeagjkaflglpaaGreatX04
set_option maxRecDepth 100000
set_option maxHeartbeats 8000000
set_option linter.all false
variable{m k i j o p s d:Nat}{R:Go.cP.dm}{Z:cx}
namespace Go.cP
open Go.Conc
section
variable{P:cA}{Stop:Frame->List Frame->cn->Prop}
def Iu(P:cA)(Stop:Frame->List Frame->cU):Prop:=∀b a v,Stop b a v->a≠[]/\∀T c d e,stepG P true (G b a) (cQ v T)=.go c d e->c.callers=[]
def yW{a:Frame}{v f:cn}{g:Array Event}(i:a.defers=[])(b:(a.mode=.returning/\a.kind=.normal/\∃d,P.funcs[a.fn]? =some d)\/∃j,a.mode=.panicking j) (h:stepG P true (G a [floor]) v=.go Z f g):Z.callers=[]:=by
 rcases b with⟨b,l,d,m⟩|⟨j,b⟩;simp only[stepG,unwind,G,b,i,m,doReturn,l]at h;rcases n:(results d a.tmps).runT P v #[]with⟨r,o⟩;rw[n]at h;cases r with
 |ok x w=>
  simp only[GStep.after]at h;injection h with e p q;rw[<-e]
 |halt s w=>
  cases s<;>simp only[GStep.after]at h<;>cases h
 have c:unwind P true a [floor] none v=.go Z f g:=by simp only[stepG,G,b]at h;exact h
 unfold unwind at c;simp only[b,i]at c;by_cases k:a.catches P=true;rw[cB k]at c;cases c;rw[cy k]at c;injection c with e p q;rw[<-e]
def yX{c a:Frame}{d b:List Frame}{v e:cn}(h:lone c d v=lone a b e):c=a/\d=b/\v=e:=by unfold lone at h;injection h with g f;simp only[Ab,pZ]at f;have:=f.1;injection this with i j;exact⟨i,j,g⟩
def GV(v:cn):cQ v v.tape=v:=rfl
def vZ(B:Iu P Stop):∀(n:Nat) {c:pt} {T:Ta} {p:Frame} {m:List Frame} {w:cn},Inv P c->Below c.v T->runN P (n+1) (lone c.fr c.cl (cQ c.v T))=.next (lone p m w)->m≠[]->Path P Stop c ⟨p,m,w⟩/\Inv P ⟨p,m,w⟩:=by
 intro n;induction n with
 |zero=>
  intro c T p m w t u h i;rcases(t.cQ T).step with⟨o,C,g,e⟩|⟨x,f,g,e,s⟩|⟨a,b,f,g,e,d⟩;exfalso;simp only[runN,nj e]at h;cases h;exfalso;obtain⟨a,b,D,E,F⟩:=x;obtain⟨k,l,q,r,y⟩:=s;simp only at q k l r y;subst q k l r;simp only[runN,pu (show stepG P true (G c.fr c.cl) (cQ c.v T)=.go (G a []) f g from e)]at h;injection h with h;exact i (yX h).2.1.symm;simp only[runN,pu (show stepG P true (G c.fr c.cl) (cQ c.v T)=.go (G a b) f g from e)]at h;injection h with h;obtain⟨rfl,rfl,rfl⟩:=yX h;have j:stepG P true (G c.fr c.cl) (cQ c.v T)=.go (G a b) f g:=e;exact⟨.one (λz=>i ((B _ _ _ z).2 T _ _ _ j)) u j,d⟩
 |succ n H=>
  intro c T p m w t u h i;rcases(t.cQ T).step with⟨o,C,g,e⟩|⟨x,f,g,e,s⟩|⟨a,b,f,g,e,d⟩;exfalso;have j:stepG P true (G c.fr c.cl) (cQ c.v T)=.ended o C g:=e;rw[runN,nj j]at h;cases h;exfalso;have A:=s;obtain⟨a,b,D,E,F⟩:=x;obtain⟨k,l,q,r,y⟩:=s;simp only at q k l r y;subst q k l r;obtain⟨o,L,I,J⟩:=A.ended (P:=P) true f;rw[runN,pu (show stepG P true (G c.fr c.cl) (cQ c.v T)=.go (G a []) f g from e)]at h;dsimp only at h;rw[runN,nj (show stepG P true (G a []) f=_ from J)]at h;cases h;have j:stepG P true (G c.fr c.cl) (cQ c.v T)=.go (G a b) f g:=e;rw[runN,pu j]at h;dsimp only at h;have K:¬Stop c.fr c.cl c.v:=λz=>d.callers ((B _ _ _ z).2 T _ _ _ j);obtain⟨k,l⟩:=H (c:=⟨a,b,f⟩) (T:=f.tape) d (λ_ _=>rfl) h i;exact⟨.cons K u j k,l⟩
def Path.reach{c d:pt}(h:Path P Stop c d)(f:Reach P Stop c):Reach P Stop d:=by
 induction h with
 |one a b e=>exact f.follow a b e
 |cons a b e _ g=>exact g (f.follow a b e)
def Calm(P:cA)(v:cn)(a:Frame):Prop:=(∃e,P.funcs[a.fn]? =some e)/\∀d∈a.defers,∃b,d.target=.collected b/\∀c,v.heap[b]? =some (.deferred (some c))->c=[]
def AM(v d:cn):Prop:=∀(b:Nat) (a:dU) (t:cw) (c:Nat×Nat),v.heap[b]? =some (Obj.cells a t c)->d.heap[b]? =some (Obj.cells a t c)
structure Iv(P:cA)(v0:cn)(c:pt):Prop where
 mode:∃ch,c.fr.mode=.panicking ch
 calm:Calm P c.v c.fr
 callers:∃X,c.cl=X++[floor]/\∀x∈X,Calm P c.v x
 kept:AM v0 c.v
 back:AM c.v v0
 size:c.v.heap.size=v0.heap.size
def run_takeDeferred(b:Nat)(v:cn):(∃h w,(Instr.takeDeferred b).run P v=.halt h w)\/∃a,v.heap[b]? =some (.deferred (some a))/\(Instr.takeDeferred b).run P v=.ok a {v with heap:=v.heap.setIfInBounds b (.deferred none)}:=by
 unfold Instr.takeDeferred;simp only[Sem.run_bind];cases d:v.heap[b]? with
 |none=>simp[Sem.run,getObj,d]
 |some o=>
  cases o with
  |deferred c=>cases c with
   |none=>simp[Sem.run,getObj,d,stuck]
   |some a=>exact .inr ⟨a,rfl,by simp[Sem.run,getObj,setObj,d]⟩
  |_=>simp[Sem.run,getObj,d,stuck]
def Frame.BZ(a:Frame)(b:List PanicEntry):(a.raise b).defers=a.defers/\(a.raise b).fn=a.fn/\∃c,(a.raise b).mode=.panicking c:=by unfold Frame.raise;split<;>exact⟨rfl,rfl,_,rfl⟩
def Iv.stop(hf:Iu P Stop){v0:cn}:∀{c:pt},Reach P Stop c->Iv P v0 c->∃H,Stop H.fr H.cl H.v/\Iv P v0 H:=by
 intro c hr;induction hr with
 | @here c h=>exactλg=>⟨c,h,g⟩
 | @next c M N ih=>
  intro g;obtain⟨O,es,e⟩:=M c.v.tape (λ_ _=>rfl);have Q:=N _ _ _ (λ_ _=>rfl) e;have u:=ih _ _ _ (λ_ _=>rfl) e;rw[GV]at e;obtain⟨R,S⟩:=g.mode;obtain⟨⟨fn,z⟩,A⟩:=g.calm;obtain⟨X,U,p⟩:=g.callers;have B:c.fr.catches P=false:=by unfold Frame.catches;rw[z]
  cases r:c.fr.defers with
  |nil=>
   simp only[stepG,unwind,G,S,r,B,U,ik,eF]at e;cases X with
   |nil=>
    exfalso;simp only[sr]at e;injection e with C k I;injection C with m n;obtain⟨D,E,V⟩:=O;simp only at k m n;subst k m n;cases Q with
    |here h=>exact(hf _ _ _ h).1 rfl
    |next k1 k2=>
     obtain⟨c2,aa,k⟩:=k1 c.v.tape (λ_ _=>rfl);obtain⟨o,w',ab,I⟩:=(show xx (G (floor.raise R) [])from⟨rfl,rfl,rfl,rfl,.inr ⟨_,rfl⟩⟩).ended (P:=P) true (cQ c.v c.v.tape);have:=I.symm.trans k;cases this
   |cons x X=>
    simp only[qx]at e;injection e with C k I;injection C with m n;obtain⟨D,E,V⟩:=O;simp only at k m n;subst k m n;obtain⟨r1,r2,r3⟩:=Frame.BZ x R;refine u ⟨r3,?_,⟨X,rfl,λy hy=>p y (iw _ hy)⟩,g.kept,g.back,g.size⟩;have:=p x (iP ..);exact⟨by rw[r2];exact this.1,by rw[r1];exact this.2⟩
  |cons d W=>
   obtain⟨b,Y,F⟩:=A d (by rw[r];exact iP ..);obtain⟨ac,Z⟩:=d;simp only at Y;subst Y;simp only[stepG,unwind,G,S,r,lB]at e;rcases run_takeDeferred (P:=P) b c.v with⟨h,w,i⟩|⟨T,l,i⟩;rw[i]at e;simp only[GStep.after]at e;cases e
   ·rw[i]at e;simp only[GStep.after]at e;injection e with C k I;injection C with m n;obtain rfl:=F T l;obtain⟨D,E,V⟩:=O;simp only at k m n;subst k m n;have j:∀x,Calm P c.v x->Calm P {c.v with heap:=c.v.heap.setIfInBounds b (.deferred none)} x:=λx J=>⟨J.1,λd r=>by obtain⟨f,M,N⟩:=J.2 d r;refine⟨f,M,λW h=>?_⟩;by_cases a:b=f;subst a;have q:b<c.v.me:=lt_of_heap l;simp[q]at h;rw[show({c.v with heap:=c.v.heap.setIfInBounds b (.deferred none)}:cn).heap[f]? =(c.v.heap.setIfInBounds b (.deferred none))[f]? from rfl,eo a]at h;exact N W h⟩;refine u ⟨⟨R,by first|exact S|rfl⟩,j _ ⟨⟨fn,z⟩,λd h=>A d (by rw[r];exact iw _ h)⟩,⟨X,U,λx J=>j x (p x J)⟩,λf K t L h=>?_,λf K t L h=>g.back f K t L ?_,by simpa using g.size⟩;rotate_left;have s:(c.v.heap.setIfInBounds b (.deferred none))[f]? =some (.cells K t L):=h;have q:b<c.v.me:=lt_of_heap l;by_cases a:b=f;subst a;simp[q]at s;rwa[eo a]at s;have s:=g.kept f K t L h;have a:b≠f:=by rintro rfl;rw[l]at s;cases s
    show(c.v.heap.setIfInBounds b (.deferred none))[f]? =_;rw[eo a];exact s
def Na(n:Iu P Stop){fr:Frame}{v:cn}(p:Reach P Stop ⟨fr,[floor],v⟩)(q:Inv P ⟨fr,[floor],v⟩)(r:¬Stop fr [floor] v)(s:fr.defers=[]) (t:(fr.mode=.returning/\fr.kind=.normal/\∃u,P.funcs[fr.fn]? =some u)\/∃w,fr.mode=.panicking w):False:=by
 cases p with
 |here h=>exact r h
 |next x y=>
  obtain⟨a,z,e⟩:=x v.tape (λ_ _=>rfl);have i:=y _ _ _ (λ_ _=>rfl) e;have b:stepG P true (G fr [floor]) v=.go (G a.fr a.cl) a.v z:=e;have l:a.cl=[]:=yW s t b;rcases q.step with⟨o,J,c,d⟩|⟨K,A,c,d,B⟩|⟨C,j,A,c,d,f⟩;rw[show stepG P true (G fr [floor]) v=_ from d]at b;cases b;rw[show stepG P true (G fr [floor]) v=_ from d]at b;injection b with k D E;cases i with
  |here h=>exact(n _ _ _ h).1 l
  |next F L=>
   obtain⟨M,H,m⟩:=F a.v.tape (λ_ _=>rfl);obtain⟨o,N,I,g⟩:=B.ended (P:=P) true (cQ a.v a.v.tape);rw[k]at g;have:=g.symm.trans m;cases this
  rw[show stepG P true (G fr [floor]) v=_ from d]at b;injection b with k D E;injection k with m g;exact f.callers (by show j=[];rw[g];exact l)
def JI{b c a:Machine}(h:runN P m b=.next c)(e:Go.step P c=.next a):runN P (m+1) b=.next a:=by
 induction m generalizing b with
 |zero=>
  simp only[runN]at h;injection h with h;subst h;simp only[runN,e]
 |succ m f=>
  rw[runN]at h⊢;cases d:Go.step P b with
  |next g=>
   rw[d]at h;exact f h
  |ended o w=>rw[d]at h;cases h
def Pz{v:cn}(n:Good P R)(p:¬R.Def)(q:∀b l,R.r b l->∃o i,v.heap[b]? =some o/\(∃u:cn,u.heap[l]? =some i)/\Hv R (R.sh b) o i){x m:Frame}(h:dQ P R x m):Calm P v x:=by
 obtain⟨s,c,j,_,_⟩:=n.fit.fn _ h.fnS.1;refine⟨⟨s,j⟩,?_⟩;have a:=h.defers;revert a;generalize x.defers=t;generalize m.defers=w;intro a;induction a with
 |nil=>intro d a;cases a
 |cons y z _ A=>
  intro d a;rcases eO.1 a with rfl|a;obtain⟨b,g⟩:=z.resolve_left p;refine⟨b,g,λt f=>?_⟩;cases y with
  |collected B=>
   injection g with g;subst g;obtain⟨o,i,j,_,k⟩:=q _ _ B;rw[j]at f;injection f with f;subst f;rcases k with⟨_,k⟩|⟨_,_,_,_,_,_,_,e,_⟩;cases k;rfl;cases e
  |_=>cases g
  exact A d a
def Nb{v:cn}(f:Good P R)(g:¬R.Def)(i:∀b d,R.r b d->∃o e,v.heap[b]? =some o/\(∃u:cn,u.heap[d]? =some e)/\Hv R (R.sh b) o e){X j:List Frame}(h:ie P R X j):∀x∈X,Calm P v x:=by
 induction h with
 |nil=>intro x c;cases c
 |cons c _ k=>
  intro x a;rcases eO.1 a with rfl|a;exact Pz f g i c;exact k x a
def Calm.grow{v e:cn}{x:Frame}(h:Calm P v x)(g:∀b,b<v.heap.size->e.heap[b]? =v.heap[b]?)(i:∀b c,v.heap.size<=b->e.heap[b]? =some (.deferred (some c))->False):Calm P e x:=
 ⟨h.1,λd j=>by obtain⟨b,k,l⟩:=h.2 d j;refine⟨b,k,λc a=>?_⟩;by_cases f:b<v.me;exact l c (by rw[<-g b f];exact a);exact(i b c (Nat.le_of_not_lt f) a).elim⟩
end
end Go.cP
variable{w t e:cn}{x y z:cq}{A B C:Nat->Prop}{T U:cw}{W X:Array cq}{I J:Int}{O Q:Go.Obj}{K:dH}{P:cA}
namespace Go.Proofs.W
open Go.Conc Go.cP Go.cP.Cr Go.RowKit
def _root_.Go.cP.Hv.GW{m:Option Nat}{a:Nat×Nat}(h:Hv R m (.cells W T a) O)(b:T≠sR):m=none:=by rcases h with⟨h,_⟩|⟨_,_,_,_,_,_,_,e,_⟩;exact h;injection e with _ e;exact absurd e b
def jk.carry{C:Type}{E D:cn->cq->C->Prop}{l:List C} (J:HR R t w)(K:∀b c,R.r b c->B c)(L:T≠sR) (M:∀F,VR R z F->F=z)(N:∀j f a,E t j a->VR R j f->D w f a) (h:jk A E z T t x l)(G:VR R x y):jk B D z T w y l:=by
 rcases h with⟨rfl,rfl⟩|⟨b,c,cs,fz,h1,rfl,O,P,Q,S,U⟩;cases G;exact .inl ⟨rfl,rfl⟩;cases G with
 |slice _ _ V=>
  cases V with
  | @mk b W o s H=>
   obtain⟨o,o',g,X,i⟩:=J.obj _ _ H;rw[O]at g;injection g with g;subst g;have I:=i.GW L;replace i:=i.obj I;rw[I];cases i with
   | @cells _ m _ _ n e hf=>
    refine .inr ⟨W,c,m,n,K _ _ H,rfl,X,e.size▸P,Q,λk Y=>?_,λk Z k2=>?_⟩;obtain⟨j,d,he⟩:=S k Y;rcases e.get? k with⟨p,_⟩|⟨x1,f,q,u,v⟩;rw[p]at d;cases d;rw[q]at d;injection d with d;subst d;exact⟨f,u,N _ _ _ he v⟩;have d:=U k Z k2;rcases e.get? k with⟨p,_⟩|⟨x1,f,q,u,v⟩;rw[p]at d;cases d;rw[q]at d;injection d with d;subst d;rw[u,M _ v]
def VR.int_eq{k:IntKind}(h:VR R (.int k I) x):x=.int k I:=by cases h;rfl
def VR.we(h:VR R (.slice none 0 0) x):x=.slice none 0 0:=by cases h;rfl
theorem AN:∀{l:gC} {a:dr},qc R (l.map (Value.int .i64)) a->a=l.map (Value.int .i64)
 |[],_,h=>by cases h;rfl
 |x::l,_,h=>by
  simp only[lq]at h;cases h with
  |cons h t=>rw[VR.int_eq h,AN t];rfl
theorem fg.carry{D:ep}(g:HR R t w)(i:∀b c,R.r b c->B c) (h:fg A m D t)(F:R.r m k):fg B k D w:=by
 obtain⟨S,T,U,V,G,H,I,J⟩:=h.at_;obtain⟨o,W,u,K,v⟩:=g.obj _ _ F;rw[H]at u;injection u with u;subst u;replace v:=v.obj (v.GW (by decide));cases v with
 | @cells _ j _ _ y z X=>
  have l:=z.list;simp only[dt,qx,sr]at l;cases d:j.toList with
  |nil=>rw[d]at l;cases l
  |cons n Y=>
   rw[d]at l;cases l with
   |cons C L=>
    cases L with
    | @cons _ p _ _ M N=>
     cases N with
     | @cons _ q _ _ O P=>
      have:=AN P;subst this;refine⟨h.ok,i _ _ F,n,p,q,y,?_,?_,?_,?_⟩;rcases G with rfl|⟨a,rfl⟩;unfold undef at C;cases C with
      | @tuple _ s Q Z=>
       have:s=#[]:=Array.eq_empty_of_size_eq_zero (by simpa using Q.symm);rw[this];exact .inl rfl
      |Bd hd a=>exact .inr ⟨a,rfl⟩
      cases C with
      |ptr ha=>exact .inr ⟨_,rfl⟩
      rw[K];have:j=dt n p q D.counts:=A9 (by rw[d];simp[dt]);rw[this];exact I.carry g i (by decide) (λ_ h=>VR.int_eq h) (λx E a (e:x=_) f=>by subst e;exact VR.int_eq f) M;exact J.carry g i (by decide) (λ_ h=>VR.we h) (λx E a e f=>e.carry g i (by decide) (λ_ h=>VR.we h) (λx E a e f=>e.carry g i (by decide) (λ_ h=>VR.int_eq h) (λx E a (e:x=_) f=>by subst e;exact VR.int_eq f) f) f) O
theorem jk.cells{f:Type}{N:cN}{E:cn->cq->f->Prop}{z:cq}{t:cw}{w e:cn}{v:cq}{l:List f}(i:∀b a t d,N b->w.heap[b]? =some (.cells a t d)->e.heap[b]? =some (.cells a t d))(j:∀u x,E w u x->E e u x)(h:jk N E z t w v l):jk N E z t e v l:=by rcases h with h|⟨b,c,a,d,g,m,n,o,p,q,r⟩;exact .inl h;refine .inr ⟨b,c,a,d,g,m,i _ _ _ _ g n,o,p,λk s=>?_,r⟩;obtain⟨u,y,A⟩:=q k s;exact⟨u,y,j _ _ A⟩
theorem fg.cells{N:cN}{d:Nat}{D:ep}{w e:cn}(a:∀b f t c,N b->w.heap[b]? =some (.cells f t c)->e.heap[b]? =some (.cells f t c))(h:fg N d D w):fg N d D e:=by obtain⟨g,i,j,c,k,l,m,n⟩:=h.at_;exact⟨h.ok,h.lt,g,i,j,c,k,a _ _ _ _ h.lt l,m.cells a λ_ _ h=>h,n.cells a λ_ _ h=>h.cells a λ_ _ h=>h.cells a λ_ _ h=>h⟩
def jh:List PanicEntry:=[{v:=.iface 3 (.int .i64 7),recovered:=false}]
noncomputable def gu(a:dU):Act:=(⟨a++Array.replicate (9-a.size) undef,[]⟩:Act).put (some 9) (.bool true)
noncomputable def mG(a:dU):dU:=#[(gu a).eval (.tmp 0),(gu a).eval (.tmp 1),(gu a).eval (.tmp 2),(gu a).eval (.tmp 3),(gu a).eval (.tmp 4),(gu a).eval (.tmp 5),(gu a).eval (.tmp 6),(gu a).eval (.tmp 7),(gu a).eval (.tmp 8),(gu a).eval (.tmp 9)]
def rz(v:cq):dU:=#[v,undef,undef,undef,undef,undef,undef,undef,undef,undef]
def rA(a:dU):Obj:=.cells #[.func (.func 227) #[] a] 200
def QZ(v:cn):Prop:=∃a n D N,v.heap[n]? =some (rA (rz (.pointer (some ⟨a,0,none⟩))))/\v.heap.size=n+1/\fg N a D v/\∀b,N b->b<n
theorem fg.cQ{D:ep}(T:Ta)(h:fg A m D t):fg A m D (Go.cP.cQ t T):=fg.same (w:=t) (w':=Go.cP.cQ t T) (λ_ _=>rfl) h
theorem QZ.cQ(T:Ta)(h:QZ t):QZ (cQ t T):=by obtain⟨a,n,D,N,b,c,d,e⟩:=h;exact⟨a,n,D,N,b,c,fg.same (w:=t) (w':=Go.cP.cQ t T) (λ_ _=>rfl) d,e⟩
def uw(a:dU)(i:Nat):(gu a).eval (.tmp i)=((a++Array.replicate (9-a.size) undef).setIfInBounds 9 (.bool true)).getD i undef:=rfl
def Iw(a:dU)(i:Nat):a.getD i undef=(a[i]?).getD undef:=by simp[wx]
def GX(k:x≠undef)(h:mG W=rz x):W.size<=9/\0<W.size/\W[0]? =some x/\∀i,1<=i->i<W.size->W[i]? =some undef:=by
 have b:∀(i:Nat),i<10->(gu W).eval (.tmp i)=if i=0 then x else undef:=by
  intro i g;have e:(mG W)[i]? =(rz x)[i]? :=by rw[h]
  have:i=0\/i=1\/i=2\/i=3\/i=4\/i=5\/i=6\/i=7\/i=8\/i=9:=by omega
  rcases this with rfl|rfl|rfl|rfl|rfl|rfl|rfl|rfl|rfl|rfl<;>(simp only[mG,rz,Cv,Ad,Hr,fO]at e;rw[e];rfl)
 have l:W.size<=9:=by refine Nat.le_of_not_lt λm=>?_;have:=b 9 (by omega);rw[uw,Iw,kI (by simp;omega)]at this;simp[undef]at this
 have n:(W++Array.replicate (9-W.size) undef).size=9:=by simp;omega
 have c:∀(i:Nat),i<9->(gu W).eval (.tmp i)=((W++Array.replicate (9-W.size) undef)[i]?).getD undef:=λi g=>by rw[uw,Iw,eo (show 9≠i by omega)]
 have d:∀(i:Nat),i<W.size->(gu W).eval (.tmp i)=(W[i]?).getD undef:=λi g=>by rw[c i (by omega),wz g]
 have a:0<W.size:=by refine Nat.pos_of_ne_zero λo=>k ?_;have f:=b 0 (by omega);rw[c 0 (by omega),zO (show W.size<=0 by omega)]at f;simp[o]at f;exact f.symm
 refine⟨l,a,?_,λi f j=>?_⟩;have e:=d 0 a;rw[b 0 (by omega),iY a]at e;rw[iY a];simp at e;rw[e];have e:=d i j;rw[b i (by omega),iY j,cy (by omega)]at e;rw[iY j];simp at e;rw[e]
def yY{a:Func}(c:P.funcs[K]? =some a)(g:9<=a.ntmps)(j:W.size<=9)(l:0<W.size)(d:W[0]? =some x)(f:∀i,1<=i->i<W.size->W[i]? =some undef)(k:CallKind):Frame.enter P K W k=Frame.enter P K #[x] k:=by
 have e:W++Array.replicate (a.ntmps-W.size) fR=#[x]++Array.replicate (a.ntmps-(#[x]:dU).size) fR:=by
  refine KM λi=>?_;by_cases b:i<W.size;rw[wz b];cases i with
  |zero=>rw[d,wz (by simp)];rfl
  |succ i=>
   rw[f _ (by omega) b,zO (by simp)];rw[sj,cB (by simp;omega)]
  rw[zO (by omega),zO (by simp;omega),sj,sj];by_cases h:i-W.size<a.ntmps-W.size;rw[cB h,cB (by simp;omega)];rw[cy h,cy (by simp;omega)]
 simp only[Frame.enter,c,jJ,jI];rw[e]
end Go.Proofs.W
namespace Go.Proofs.W
open Go.Conc Go.cP Go.cP.Cr Go.RowKit
open Go.ConcR (KK wgBlock WgAt stA smA mk DC0)
abbrev qj:List Nat:=[190,215,216,227,228,229,164,194,128]
def oG(f:Nat):Bool:=f==190
def PC:qj.all (okF qj true oG)=true:=by kernel_rfl
def AO(N:cN)(w:cn)(b:Nat):Prop:=N b/\∃a c,w.heap[b]? =some (.cells a 3 c)/\∀(i:Nat) u,a[i]? =some u->∃n,u=.int .i64 n
def AP(N:cN)(w:cn)(t:cw)(Q:cN)(b:Nat):Prop:=N b/\∃a e,w.heap[b]? =some (.cells a t e)/\∀(i:Nat) u,a[i]? =some u->u=.slice none 0 0\/∃d l c,u=.slice (some ⟨d,0,none⟩) l c/\Q d
def nI(N:cN)(w:cn)(pb b:Nat):Prop:=AO N w b\/AP N w 27 (AO N w) b\/AP N w 66 (AP N w 27 (AO N w)) b\/b=pb
def jk.xl{g:Type}{N:cN}{E:cn->cq->g->Prop}{w:cn}{l:List g}(h:jk N E z U w x l):x=.slice none 0 0\/∃b c d e,N b/\x=.slice (some ⟨b,0,none⟩) l.length c/\w.heap[b]? =some (.cells d U e)/\∀(i:Nat) u,d[i]? =some u->u=z\/∃j,E w u j:=by rcases h with⟨_,h⟩|⟨b,c,d,e,k,m,n,s,t,o,p⟩;exact .inl h;refine .inr ⟨b,c,d,e,k,m,n,λi u f=>?_⟩;have v:i<d.size:=(eU.1 f).1;by_cases q:i<l.length;obtain⟨y,a,r⟩:=o i q;rw[f]at a;injection a with a;subst a;exact .inr ⟨_,r⟩;have:=p i (by omega) (by omega);rw[f]at this;injection this with this;exact .inl this
def yZ{N:cN}{w:cn}{l:cz}(h:uZ N w x l):x=.slice none 0 0\/∃b l c,x=.slice (some ⟨b,0,none⟩) l c/\AO N w b:=by rcases h.xl with h|⟨b,c,a,d,e,f,g,j⟩;exact .inl h;refine .inr ⟨b,_,c,f,e,a,d,g,λi u k=>?_⟩;rcases j i u k with rfl|⟨m,n⟩;exact⟨0,rfl⟩;exact⟨m,n⟩
def EL{N:cN}{w:cn}{l:List cz}(h:xX N w x l):x=.slice none 0 0\/∃b l c,x=.slice (some ⟨b,0,none⟩) l c/\AP N w 27 (AO N w) b:=by rcases h.xl with h|⟨b,c,a,d,e,f,g,j⟩;exact .inl h;refine .inr ⟨b,_,c,f,e,a,d,g,λi u k=>?_⟩;rcases j i u k with rfl|⟨n,m⟩;exact .inl rfl;exact yZ m
def JJ{N:cN}{w:cn}{l:List (List cz)}(h:tW N w x l):x=.slice none 0 0\/∃b l c,x=.slice (some ⟨b,0,none⟩) l c/\AP N w 66 (AP N w 27 (AO N w)) b:=by rcases h.xl with h|⟨b,c,a,d,e,f,g,j⟩;exact .inl h;refine .inr ⟨b,_,c,f,e,a,d,g,λi u k=>?_⟩;rcases j i u k with rfl|⟨n,m⟩;exact .inl rfl;exact EL m
def vt(T pb b:Nat)(o:Obj):Obj:=if b=T then o else match o with
 | .cells a t c=>.cells (if b=pb then a.setIfInBounds 0 undef else a) t (0,max a.size c.2)
 |o=>o
def tC(T pb:Nat)(w:cn):cn:={w with heap:=w.heap.mapIdx (vt T pb)}
def GY{T pb:Nat}{w:cn}(b:Nat):(tC T pb w).heap[b]? =(w.heap[b]?).map (vt T pb b):=by show(w.heap.mapIdx (vt T pb))[b]? =_;rw[Array.getElem?_mapIdx]
def Q0{T pb:Nat}{w:cn}:(tC T pb w).heap[T]? =w.heap[T]? :=by
 rw[GY];cases w.heap[T]? with
 |none=>rfl
 |some o=>simp[vt]
def pd{T pb:Nat}{w:cn}{b:Nat}{a:Nat×Nat}(c:b≠T)(d:b≠pb)(h:w.heap[b]? =some (.cells W U a)):(tC T pb w).heap[b]? =some (.cells W U (0,max W.size a.2)):=by rw[GY,h];simp[vt,c,d]
def GZ{T pb:Nat}{w:cn}{a:Nat×Nat}(b:pb≠T)(h:w.heap[pb]? =some (.cells W U a)):(tC T pb w).heap[pb]? =some (.cells (W.setIfInBounds 0 undef) U (0,max W.size a.2)):=by rw[GY,h];simp[vt,b]
def jk.Vs{p:Type}{N q:cN}{E r:cn->cq->p->Prop}{w w':cn}{l:List p}(t:∀u g,E w u g->r w' u g)(h:jk N E z U w x l) (v:∀b d m,N b->w.heap[b]? =some (.cells d U m)->(∀(i:Nat) u,d[i]? =some u->u=z\/∃g,E w u g)->q b/\∃f,w'.heap[b]? =some (.cells d U f)):jk q r z U w' x l:=by have j:=h.xl;rcases h with h|⟨b,c,d,m,y,n,s,A,B,C,D⟩;exact .inl h;rcases j with j|⟨M,O,F,f,P,a,e,G⟩;rw[n]at j;cases j;rw[n]at a;injection a with a;injection a with a;injection a with a;subst a;rw[s]at e;injection e with e;injection e with e;subst e;obtain⟨H,o,I⟩:=v b d m y s G;refine .inr ⟨b,c,d,o,H,n,I,A,B,λk J=>?_,D⟩;obtain⟨u,K,L⟩:=C k J;exact⟨u,K,t _ _ L⟩
section
variable{N:Nat->Prop}{w:cn}{pb T:Nat}{D:ep}
def y8(i:fg N pb D w){b:Nat}(h:nI N w pb b):N b/\∃a t c,w.heap[b]? =some (.cells a t c)/\(t=3\/t=27\/t=66\/t=207)/\(b=pb↔t=207):=by
 obtain⟨m,n,o,k,p,j,q,r⟩:=i.at_;have d:∀{b t a c},w.heap[b]? =some (.cells a t c)->t≠207->b≠pb:=by intro b t a c f l e;rw[e,j]at f;injection f with f;injection f with _ f _;exact l f.symm
 rcases h with⟨g,a,c,h,_⟩|⟨g,a,c,h,_⟩|⟨g,a,c,h,_⟩|rfl;exact⟨g,a,3,c,h,.inl rfl,λe=>absurd e (d h (by decide)),λe=>by cases e⟩;exact⟨g,a,27,c,h,.inr (.inl rfl),λe=>absurd e (d h (by decide)),λe=>by cases e⟩;exact⟨g,a,66,c,h,.inr (.inr (.inl rfl)),λe=>absurd e (d h (by decide)),λe=>by cases e⟩;exact⟨i.lt,_,_,_,j,.inr (.inr (.inr rfl)),λ_=>rfl,λ_=>rfl⟩
def Nc(q:fg N pb D w)(o:∀b,nI N w pb b->b≠T):fg (nI N w pb) pb D (tC T pb w):=by
 obtain⟨y,r,s,f,C,v,z,A⟩:=q.at_;have j:∀{b t g f},w.heap[b]? =some (.cells g t f)->t≠207->b≠pb:=by intro b t g f c B e;rw[e,v]at c;injection c with c;injection c with _ c _;exact B c.symm
 have En:∀u l,uZ N w u l->uZ (nI N w pb) (tC T pb w) u l:=λu l h=>jk.Vs (w:=w) (w':=tC T pb w) (λ_ _ h=>h) h λb g f m d n=>by have a:nI N w pb b:=.inl ⟨m,g,f,d,λi u a=>(n i u a).elim (λe=>⟨0,e⟩) λ⟨x,c⟩=>⟨x,c⟩⟩;exact⟨a,_,pd (o b a) (j d (by decide)) d⟩
 have rows:∀u l,xX N w u l->xX (nI N w pb) (tC T pb w) u l:=λu l h=>jk.Vs (w:=w) (w':=tC T pb w) En h λb g f m d n=>by have a:nI N w pb b:=.inr (.inl ⟨m,g,f,d,λi u a=>(n i u a).elim .inl λ⟨x,c⟩=>yZ c⟩);exact⟨a,_,pd (o b a) (j d (by decide)) d⟩
 have k:∀u l,tW N w u l->tW (nI N w pb) (tC T pb w) u l:=λu l h=>jk.Vs (w:=w) (w':=tC T pb w) rows h λb g f m d n=>by have a:nI N w pb b:=.inr (.inr (.inl ⟨m,g,f,d,λi u a=>(n i u a).elim .inl λ⟨x,c⟩=>EL c⟩));exact⟨a,_,pd (o b a) (j d (by decide)) d⟩
 refine⟨q.ok,.inr (.inr (.inr rfl)),undef,r,s,(0,max (dt y r s D.counts).size f.2),.inl rfl,?_,En _ _ z,k _ _ A⟩;have p:pb≠T:=o pb (.inr (.inr (.inr rfl)));rw[GZ p v];rfl
def JK{z rd:cN}(U:fg N pb D w)(A:∀b,nI N w pb b->b≠T)(L:∀b,N b->rd b)(B:z T)(V:w.heap[T]? =some (.cells (jP ⟨pb,0,none⟩) 245)):
 uS (oW qj oG (λb=>nI N w pb b\/b=T)) (tC T pb w) w z rd:=by
 obtain⟨M,I,J,p,X,q,C,Y⟩:=U.at_;have E:pb≠T:=A pb (.inr (.inr (.inr rfl)));have k:∀u,(u=jK\/∃d l c,u=j7 d l c/\nI N w pb d)->VR (oW qj oG (λb=>nI N w pb b\/b=T)) u u:=by rintro u (rfl|⟨d,l,c,rfl,f⟩);exact .fF _ _;exact .slice _ _ (.mk _ _ ⟨rfl,.inl f⟩)
 have O:∀{b t j p},w.heap[b]? =some (.cells j t p)->t≠207->b≠pb:=by intro b t j p y P e;rw[e,q]at y;injection y with y;injection y with _ y _;exact P y.symm
 have self:∀{b t j p},w.heap[b]? =some (.cells j t p)->b≠T->t≠207->(∀(i:Nat) u,j[i]? =some u->VR (oW qj oG (λb=>nI N w pb b\/b=T)) u u)->
  ∃o W,(tC T pb w).heap[b]? =some o/\w.heap[b]? =some W/\jM (oW qj oG (λb=>nI N w pb b\/b=T)) o W:=λ{b t j p} h f P Z=>
  ⟨_,_,pd f (O h P) h,h,.cells ⟨rfl,λi v v' g m=>by rw[g]at m;cases m;exact Z i v g⟩ λr s=>⟨fV _,dE s.2 (Nat.le_max_right _ _)⟩⟩
 refine⟨HR.of (λ_=>rfl) λb c' Q=>?_,λb c' Q=>?_⟩;obtain⟨rfl,f|rfl⟩:=Q;rcases id f with⟨K,j,F,g,m⟩|⟨K,j,F,g,m⟩|⟨K,j,F,g,m⟩|rfl;exact self g (A b f) (by decide) λi u G=>by obtain⟨n,rfl⟩:=m i u G;exact .int _ _
 exact self g (A b f) (by decide) λi u G=>k u ((m i u G).imp id λ⟨d,l,c,q,C⟩=>⟨d,l,c,q,.inl C⟩);exact self g (A b f) (by decide) λi u G=>k u ((m i u G).imp id λ⟨d,l,c,q,C⟩=>⟨d,l,c,q,.inr (.inl C)⟩);refine⟨_,_,GZ E q,q,.cells (fc.ku ?_) λr s=>⟨fV _,dE s.2 (Nat.le_max_right _ _)⟩⟩;have e:((dt M I J D.counts).setIfInBounds 0 fR).toList=fR::I::J::D.counts.map (Value.int .i64):=by simp[dt]
 have e':(dt M I J D.counts).toList=M::I::J::D.counts.map (Value.int .i64):=by simp[dt]
 rw[e,e'];refine .cons ?_ (.cons (k _ ((yZ C).imp id λ⟨d,l,c,R,S⟩=>⟨d,l,c,R,.inl S⟩)) (.cons (k _ ((JJ Y).imp id λ⟨d,l,c,R,S⟩=>⟨d,l,c,R,.inr (.inr (.inl S))⟩)) ?_));rcases X with rfl|⟨a,rfl⟩;exact .undef;exact .Bd rfl a;generalize D.counts=l;induction l with
 |nil=>exact .nil
 |cons x l ih=>exact .cons (.int _ _) ih
 refine⟨_,_,Q0.trans V,V,.cells (fc.ku ?_) λ_ h=>h⟩;have hp:VR (oW qj oG (λx=>nI N w pb x\/x=b)) (dI pb) (dI pb):=.ptr (.mk _ _ ⟨rfl,.inl (.inr (.inr (.inr rfl)))⟩);exact .cons hp (.cons (.fF _ _) (.cons (.int _ _) (.cons (.int _ _) (.cons (.int _ _) (.cons (.int _ _) (.cons (.int _ _) (.cons (.int _ _) (.cons (.fF _ _) (.cons (.int _ _) (.cons (.int _ _) (.cons (.bool _) .nil)))))))))));obtain⟨rfl,f|rfl⟩:=Q;obtain⟨K,j,t,p,g,_,_⟩:=y8 U f;refine .inr ⟨L b K,?_⟩;by_cases H:b=pb;subst H;exact⟨_,_,_,GZ E g,λr s=>⟨fV _,dE (by simpa using s) (Nat.le_max_left _ _)⟩⟩;exact⟨_,_,_,pd (A b f) H g,λr s=>⟨fV _,dE s (Nat.le_max_left _ _)⟩⟩;exact .inl B
end
def Q2(pb T:Nat)(s:Sp)(_:cq)(a:cn):Prop:=∃b c d L y,a.heap[T]? =some (eC pb b c d L y)/\dp (λ_=>True) a s y
def JL(pb:Nat):(Obj.cells (jP ⟨pb,0,none⟩) 245)=eC pb none 0 0 L0 O6:=rfl
def AQ:∀d,qS 0 d=0:=λd=>by simp[qS]
def PD(HP:DL)(N:cN)(pb:Nat)(D:ep)(w0:cn)(ap:fg N pb D w0)(hN:∀b,N b->b<w0.heap.size)(h0:0<D.opn.length):GT w0 N pb (dN D 0).length (DF D):=by
 intro rd Wg i hi aq own w T c cs hq af hz;have hP:fg N pb D w:=ap.same hq;have ar:∀b,N b->b<w.heap.size:=λb B=>by have f:=hq b B;rw[iY (hN b B)]at f;exact lt_of_heap f
 have hT:∀b,nI N w pb b->b≠T:=by rintro b B rfl;obtain⟨_,Y,t,fz,f,p,_⟩:=y8 hP B;rw[hz]at f;injection f with f;injection f with _ f _;rcases p with p|p|p|p<;>rw[p]at f<;>cases f
 have aJ:=lt_of_heap hz;have ag:own T:=(af T).2 rfl;have z:=JK (rd:=rd) hP hT aq ag hz;have hG:Go.cP.Good V.prog (oW qj oG (λb=>nI N w pb b\/b=T)):=Au PC (by decide)
 have ah:fc (oW qj oG (λb=>nI N w pb b\/b=T)) #[dI T,i64 i] #[dI T,i64 i]:=
  fc.KY (.ptr (.mk _ _ ⟨rfl,.inr rfl⟩)) (.int _ _)
 have hS:(oW qj oG (λb=>nI N w pb b\/b=T)).S 190=true:=by show qj.contains 190=true;decide
 have au:(tC T pb w).heap.size=w.heap.size:=by simp[tC]
 have av:=Nc (T:=T) hP hT;have C:Go.cP.Reach V.prog (Go.cP.Left V.prog 190 (Q2 pb T (DF D i))) ⟨Frame.enter V.prog 190 #[dI T,i64 i] .normal,[floor],tC T pb w⟩:=by
  refine qF (λx w' Tp ⟨pa,pl,pc,L,y,f,p⟩=>⟨pa,pl,pc,L,y,f,p.same λ_ _=>rfl⟩) (qK hG (λ_=>rfl) hS ah z) λTp aK=>?_;have aw:iu (nI N w pb) pb T D 0 0 (cQ (tC T pb w) Tp) [] none 0 L0 O6 none:=by refine⟨⟨av.cQ _,λb B=>⟨?_,hT b B,by simp⟩,?_,.inl ⟨rfl,rfl,rfl⟩,λs _=>by simp[L0],λs _ j _ _=>AQ _,fV _,λ_=>rfl⟩,rfl,(λl m k h=>by cases h),fV _,fV _⟩;show b<(tC T pb w).heap.size;rw[au];exact ar b (y8 hP B).1;show(tC T pb w).heap[T]? =_;rw[Q0,hz];rfl
  refine(HP (nI N w pb) pb T D 0 0 (cQ (tC T pb w) Tp) [] none 0 L0 O6 none i aw h0 hi).mono ?_;rintro e w' ⟨rfl,ax,ay,L',y',hg,_,_,_⟩;exact⟨_,rfl,ax,_,ay,L',y',hg.t.at_,hg.sched.mono λ_ _=>trivial⟩
 have A:=HT (U:=λx=>x=undef) (λts Q w x u h=>by
  have:(results Tryz.f190 ts)=Pure.pure undef:=by simp[results,Tryz.results190,undef]
  rw[this]at h;simp only[Sem.run_pure]at h;injection h with h;exact h.symm) (ty:=241) (Wg:=Wg) (main:=false) (caller:=c) (cs:=cs) (own:=own) (rd:=rd) hG (λ_=>rfl) hS V.func190 (R:=Q2 pb T (DF D i)) (λx w' Tp ⟨pa,pl,pc,L,y,f,p⟩=>⟨pa,pl,pc,L,y,f,p.same λ_ _=>rfl⟩) ah C z
 have e:V.prog.it (oW qj oG (λb=>nI N w pb b\/b=T)).fs=PR:=OZ;rw[e]at A;refine(Wy.QB A).bind λo' g w' h=>nZ λw1 hr=>?_;obtain⟨⟨ρ,x,x',v,rfl,⟨pa,pl,pc,L,y,B,hs⟩,hv,ai,az,rfl⟩,aA⟩:=h;have H:o' T:=aA T ag;have aB:ρ.r T T:=ai.r _ _ ⟨rfl,.inr rfl⟩;have aj:∀Z,dT o' rd (Lv 241 Wg) w' Z->∃I J K M O P W X a l cc m n s fz,Z.heap[T]? =some (.cells #[I,J,K,M,O,P,W,X,.slice a l cc,i64 m,i64 n,.bool s] 245 fz)/\R3 (DF D) i o' Z (.agg #[.slice a l cc,i64 m,i64 n,.bool s]):=by
  intro Z E;have aa:=az.rely E;obtain⟨ob,aC,q,k2,k3⟩:=aa.heap.obj T T aB;have ab:∀c,ρ.sh c=none:=λc=>by rw[<-ai.g];rfl
  replace k3:=k3.obj (ab _);rw[B]at q;injection q with q;subst q;unfold eC at k3;cases k3 with
  | @cells _ Y _ _ F kv kf=>
   have d:=kv.list;simp only at d;cases ac:Y.toList with
   |nil=>rw[ac]at d;cases d
   |cons I l0=>
   rw[ac]at d;cases d with|cons _ d=>cases d with| @cons _ J _ _ _ d=>cases d with| @cons _ K _ _ _ d=>cases d with| @cons _ M _ _ _ d=>cases d with| @cons _ O _ _ _ d=>cases d with| @cons _ P _ _ _ d=>
   cases d with| @cons _ W _ _ _ d=>cases d with| @cons _ X _ _ _ d=>cases d with| @cons _ p8 _ _ g8 d=>cases d with| @cons _ p9 _ _ g9 d=>cases d with| @cons _ aD _ _ aE d=>cases d with| @cons _ aF _ _ aG d=>cases d with
   |nil=>
   have G:Y=#[I,J,K,M,O,P,W,X,p8,p9,aD,aF]:=A9 ac;cases g9;cases aE;cases aG;generalize ad:DF D i=sp at hs⊢;cases sp with
   |none=>
    have:y=O6:=hs;subst this;cases g8;exact⟨I,J,K,M,O,P,W,X,none,0,0,0,0,false,F,by rw[k2,G];rfl,λ_=>False,λx h=>h.elim,O6,rfl,by rw[ad];rfl⟩
   |some sp=>
    obtain⟨ls,mm,kk⟩:=sp;obtain⟨q1,q2,q3,q4,⟨q5,q6,q7⟩|⟨q5,ak,q6,q7,q8,aH,fz,q9,al⟩⟩:=hs;rw[q6]at g8;cases g8;exact⟨I,J,K,M,O,P,W,X,none,_,_,_,_,_,F,by rw[k2,G],λ_=>False,λx h=>h.elim,⟨none,y.sl,y.sc,y.m,y.k,y.b⟩,rfl,by rw[ad];exact⟨q1,q2,q3,q4,.inl ⟨q5,rfl,q7⟩⟩⟩;rw[q7]at g8;cases g8 with
    |slice _ _ ha=>
     cases ha with
     | @mk _ o _ _ am=>
      obtain⟨ob,aC,j1,j2,j3⟩:=aa.heap.obj ak o am;replace j3:=j3.obj (ab _);rw[ab ak,Option.getD_none,mX]at G;rw[al]at j1;injection j1 with j1;subst j1;cases j3 with
      | @cells _ aL _ _ aI jv jf=>
       have:=Is (λi v h=>rU h) jv;subst this;have an:o' o:=by rcases aa.zone _ _ am with h|⟨_,aM,t3,aN,f,p⟩;exact h;exfalso;rw[al]at f;injection f with f;injection f with f h3 h4;subst f h4;refine q9 0 (p 0 ?_);have:0<ls.length:=List.length_pos_iff.2 q5;simp[fP];omega
       exact⟨I,J,K,M,O,P,W,X,_,_,_,_,_,_,F,by rw[k2,G],λx=>x=o,λx h=>by rw[h];exact⟨an,lt_of_heap j2⟩,⟨some (cY o 0),y.sl,y.sc,y.m,y.k,y.b⟩,rfl,by rw[ad];exact⟨q1,q2,q3,q4,.inr ⟨q5,o,rfl,rfl,q8,aH,aI,λao h=>q9 ao (jf ao h),j2⟩⟩⟩
 obtain⟨I,J,K,M,O,P,W,X,a,l,cc,m,n,s,fz,g1,g2⟩:=aj w1 hr;refine⟨rfl,H,I,J,K,M,O,P,W,X,a,l,cc,m,n,s,fz,g1,λZ E=>?_⟩;obtain⟨q0,q1,q2,q3,q4,q5,q6,q7,a',l',aO,m',n',s',F,q,k2⟩:=aj Z (hr.trans E);have ae:Z.heap[T]? =w1.heap[T]? :=E.heap T (lt_of_heap g1) (.inl H);rw[ae,g1]at q;injection q with q;injection q with q;simp only[Ab,pZ]at q;obtain⟨_,_,_,_,_,_,_,_,r1,r2,r3,r4,_⟩:=q;rw[<-r1,<-r2,<-r3,<-r4]at k2;exact k2
end Go.Proofs.W
variable{F:Go.Frame}
namespace Go.Proofs.W
open Go.Conc Go.cP Go.cP.Cr Go.RowKit
def y9(D:ep)(w:cn)(e:Ending)(a:cn):Prop:=
 ∃y:SV,e=.returned y.val/\dp (λb=>w.heap.size<=b) a (gN D) y/\vQ w.drawn a (gN D) y/\(∀b,b<w.heap.size->a.heap[b]? =w.heap[b]?)/\a.tape=w.tape
structure AS:Prop where
 probe:∀xs w,w.tape w.drawn (.order 163 1)=1->Calls V.prog 163 xs w λe w'=>e=.panicked jh/\w'=w.drew.alloc (rA (mG xs))
 goes:∀N pb D w,fg N pb D w->(∀b,N b->b<w.heap.size)->w.tape w.drawn (.order 163 1)=0->Calls V.prog 163 #[.pointer (some ⟨pb,0,none⟩)] w (y9 D w)
 pick:∀N pb D w,fg N pb D w->(∀b,N b->b<w.heap.size)->0<D.opn.length->GT w N pb (dN D 0).length (DF D)
def sJ(f:dH)(R:nd)(a:Frame)(b:List Frame)(v:cn):Prop:=
 Go.cP.Left V.prog f R a b v\/(b=[floor]/\a.fn=f/\a.mode=.panicking jh/\a.defers=[]/\QZ v)
def wh(f:dH)(R:nd):Iu V.prog (sJ f R):=by rintro k l v (⟨rfl,_,x,_,a,b,c,d,e,_⟩|⟨rfl,_,a,b,_⟩);exact⟨by simp,λT g i j h=>yW b (.inl ⟨a,c,d,e⟩) h⟩;exact⟨by simp,λT g i j h=>yW b (.inr ⟨_,a⟩) h⟩
def sJ.callers{R:nd}(b:Frame)(a:List Frame)(v:cn)(h:sJ K R b a v):a≠[]:=(wh K R b a v h).1
theorem sJ.fn{R:nd}{a:List Frame}(h:sJ K R F a w):F.fn=K:=by rcases h with h|h;exact h.2.1;exact h.2.1
def JM{ρ:dm}{s:Sp}{y d:SV}(h:dp A t s y)(k:dp B w s d)(M:∀l m n,s=some (l,m,n)->l≠[]->y.sc=d.sc) (N:∀b,A b->∀c,¬ρ.r b c)(O:∀c,B c->∀b,¬ρ.r b c)(f:∀b,A b->ρ.sh b=none):∃a:dm,dm.Le ρ a/\VR a y.val d.val/\∀b c,a.r b c->ρ.r b c\/(A b/\B c/\a.sh b=none/\∃x C,t.heap[b]? =some x/\w.heap[c]? =some C/\jM a x C):=by
 cases s with
 |none=>
  have e:y=⟨none,0,0,0,0,false⟩:=h;have P:d=⟨none,0,0,0,0,false⟩:=k;subst e P;exact⟨ρ,.refl _,(fc.ku (.cons (.fF _ _) (.cons (.int _ _) (.cons (.int _ _) (.cons (.bool _) .nil))))).agg,λb c h=>.inl h⟩
 |some s=>
  obtain⟨l,m,n⟩:=s;have g:=M l m n rfl;obtain⟨ya,yl,yc,ym,yk,yb⟩:=y;obtain⟨Q,R,S,T,U,V⟩:=d;obtain⟨D,E,F,G,H⟩:=h;obtain⟨I,J,K,L,q⟩:=k;simp only at D E F G H I J K L q g;subst D E F G I J K L;rcases H with⟨rfl,rfl,rfl⟩|⟨o,b,p,rfl,h6,h7,fz,h8,W⟩;rcases q with⟨_,rfl,rfl⟩|⟨o,_⟩;exact⟨ρ,.refl _,(fc.ku (.cons (.fF _ _) (.cons (.int _ _) (.cons (.int _ _) (.cons (.bool _) .nil))))).agg,λb c h=>.inl h⟩;exact absurd rfl o;rcases q with⟨u,_⟩|⟨_,c,j,rfl,k6,k7,X,Y,Z⟩;exact absurd u o;obtain rfl:=g o;refine⟨ρ.ext b c (N b p) (O c j),ρ.sP _ _ _ _,(fc.ku (.cons (.slice _ _ (.of _ _ (ρ.rH _ _ _ _) (f b p))) (.cons (.int _ _) (.cons (.int _ _) (.cons (.bool _) .nil))))).agg,λb' c' v=>?_⟩;rcases v with v|⟨rfl,rfl⟩;exact .inl v;exact .inr ⟨p,j,f _ p,_,_,W,Z,.cells (M0 λi t h=>rU h) λz ho=>absurd ho (Y z)⟩
def R5{y:SV}{s:Sp}{T:Nat->Question->Nat}(h:vQ m w s y)(c:w.tape=T){K:Nat}(d:∀j n x t,m<=j->T j (.appendCap n x t)=K-n)(a:gC)(b n:Int)(f:s=some (a,b,n))(g:a≠[])(k:a.length<=K)(l:K<2^63):y.sc=K:=by obtain⟨j,i,e⟩:=h a b n f g;rw[e,c,d j _ _ _ i];simp only[Question.cut];rw[Nat.mod_eq_of_lt (by omega)];omega
def PF(BF:AS){f:dH}{R:nd}(hf:f≠163)(w0:cn):Li V.prog PR.funcs w0 (sJ f R):=by
 intro ρ X c gs a w sl t q g xs av k P hS hh hx aK aL;have hg:g=163:=Hq λaX=>k.holes.1 g hh (V.wU g aX);subst hg;have hD:¬ρ.Def:=λh=>by have:=k.good.dh h 163;rw[hh]at this;cases this
 have E:=wh f R;obtain⟨X1,bo,e1,e2,hX⟩:=k.gor.callers;have aj:c.cl=X1++[floor]:=e1;have aY:c.cl≠[]:=by rw[aj];simp
 have ev:(V.prog.it PR.funcs)=PR:=OZ;have aZ:Go.cP.Below c.v (λj q=>if j<c.v.drawn then c.v.tape j q else 1):=λj hj=>by funext q;simp[hj]
 obtain⟨e,wp,ak,⟨rfl,aw⟩,hs,a1,hl⟩:=BF.probe xs (cQ c.v (λj q=>if j<c.v.drawn then c.v.tape j q else 1)) (by simp[cQ]) c.cl;obtain⟨np,Y⟩:=hs;have H:ak.mode=.panicking jh:=hl.1;obtain⟨hp,ax⟩:Path V.prog (sJ f R) c ⟨ak,c.cl,wp⟩/\Inv V.prog ⟨ak,c.cl,wp⟩:=by
  cases np with
  |zero=>
   exfalso;simp only[runN]at Y;injection Y with Y;have:=(yX Y).1;rw[<-this]at H;cases H
  |succ np=>exact vZ E np k.inv aZ (by rw[aK];exact Y) aY
 have aM:∀b,b<c.v.heap.size->wp.heap[b]? =c.v.heap[b]? :=λb O=>by rw[aw];exact alloc_old (World.drew _) _ O
 have aN:wp.heap[c.v.heap.size]? =some (rA (mG xs)):=by rw[aw];exact fp (World.drew (cQ c.v _)) _
 have bp:wp.heap.size=c.v.heap.size+1:=by rw[aw];exact World.size_alloc _ _
 have ay:∀x∈X1,Go.cP.Calm V.prog wp x:=λx al=>by
  refine(Nb k.good hD (v:=c.v) (λb p P=>?_) hX x al).grow aM λb ds O h=>?_;obtain⟨o,o',Q,Z,W⟩:=k.heap.obj b p P;exact⟨o,o',Q,⟨w,Z⟩,W⟩;have bq:=lt_of_heap h;obtain rfl:b=c.v.heap.size:=by omega
  rw[aN]at h;cases h
 obtain⟨cp,az,am⟩:=Iv.stop E (v0:=wp) (hp.reach P) ⟨⟨_,H⟩,⟨hl.2.2,by rw[hl.2.1];simp⟩,⟨X1,aj,ay⟩,λ_ _ _ _ h=>h,λ_ _ _ _ h=>h,rfl⟩;obtain⟨pb,n,D,N,aO,br,aA,hN⟩:QZ cp.v:=by rcases az with⟨_,_,x,_,hm,_⟩|h;obtain⟨ch,aP⟩:=am.mode;rw[hm]at aP;cases aP;exact h.2.2.2.2
 have hn:n=c.v.heap.size:=by have:=am.size;omega
 subst hn;have aB:mG xs=rz (dI pb):=by
  have S:=am.kept _ _ _ _ aN;rw[aO]at S;injection S with S;injection S with S;have h2:(#[Value.func (.func 227) #[] (rz (dI pb))]:dU)[0]? =(#[Value.func (.func 227) #[] (mG xs)]:dU)[0]? :=by rw[S]
  have h3:Value.func (.func 227) #[] (rz (dI pb))=Value.func (.func 227) #[] (mG xs):=cO h2;injection h3 with _ _ h4;exact h4.symm
 obtain⟨x9,ap,x0,xu⟩:=GX (by simp[undef]) aB;have aC:fg N pb D c.v:=(aA.cells λb cs t fz O h=>am.back b cs t fz h).cells λb cs t fz O h=>by rw[<-aM b (hN b O)];exact h
 obtain⟨I,a2,an⟩:∃I,av[0]? =some (dI I)/\ρ.r pb I:=by
  rcases hx.get? 0 with⟨Q,_⟩|⟨u,u',Q,Z,W⟩;rw[Q]at x0;cases x0;rw[Q]at x0;injection x0 with x0;subst x0;cases W with
  |ptr ha=>cases ha with
   |mk o s P=>
    obtain⟨_,_,_,_,_,q1,_⟩:=aC.at_;obtain⟨oo,bs,w1,w2,w3⟩:=k.heap.obj _ _ P;rw[q1]at w1;injection w1 with w1;subst w1;have hs:=w3.GW (by decide);refine⟨_,?_,P⟩;rw[Z,hs];rfl
 have a3:∀i,1<=i->i<av.size->av[i]? =some undef:=λi S h2=>by
  have h3:=xu i S (by rw[hx.size];exact h2);rcases hx.get? i with⟨Q,_⟩|⟨u,u',Q,Z,W⟩;rw[Q]at h3;cases h3;rw[Q]at h3;injection h3 with h3;subst h3;rw[Z];revert W;generalize u'=z;intro W;unfold undef at W;cases W with
  | @tuple _ a4 k1 k2=>
   have:a4=#[]:=Array.eq_empty_of_size_eq_zero (by simpa using k1.symm);rw[this];rfl
  |Bd hd a=>rw[k.holes.2.1]at hd;cases hd
 have aQ:c.fr=Frame.enter V.prog 163 #[dI pb] .normal:=aK.trans (yY V.func163 (by decide) x9 ap x0 xu .normal);have aR:a.frame=Frame.enter PR 163 #[dI I] .normal:=by rw[aL,ev];exact yY Tryz.func163 (by rw[Tryz.ntmps163];decide) (hx.size▸x9) (hx.size▸ap) a2 a3 .normal
 have L:∀b p,ρ.r b p->b<c.v.heap.size/\p<w.heap.size:=λb p P=>by obtain⟨o,o',Q,Z,_⟩:=k.heap.obj b p P;exact⟨lt_of_heap Q,lt_of_heap Z⟩
 have aa:fg (λp=>∃b,ρ.r b p) I D w:=aC.carry k.heap (λb p P=>⟨b,P⟩) an;cases hX with
 |nil=>
  exfalso;have aq:c.cl=[floor]:=aj;refine Na E (fr:=ak) (v:=wp) (by rw[<-aq];exact hp.reach P) (by rw[<-aq];exact ax) (λa5=>hf (a5.fn▸a1)) hl.2.1 (.inr ⟨_,H⟩)
 | @cons J A X2 ab hc a6=>
 have ha:a=G a.frame (A::ab):=by obtain⟨af,ac,bt,bu,bv⟩:=a;have k1:=k.gor.st.2;have k2:=k.gor.dy.2;have k3:=k.gor.of.2;simp only[List.append_nil]at k1 k2 k3 e2;subst k1 k2 k3 e2;rfl
 have hB:Df PR X gs (G (Frame.enter PR 163 #[dI I] .normal) (A::ab)) w t q:=⟨by rw[<-aR,<-ha];exact k.at0,rfl,ev▸k.leavers,k.past,k.low⟩;have aD:∃(M:Nat) (T:Array cx) (U:cn) (ad:Option (Nat×Nat)) (t':Trace) (q':Nat->Nat) (X' o:cN) (y:SV),runNT PR M (crowd gs w sl) t=(.next (crowd T U ad),t')/\
  Df PR X' T (G (A.finish y.val) ab) U t' q'/\(U.tape=w.tape/\U.os=w.os/\U.output=w.output)/\w.heap.size<=U.heap.size/\(∀b,b<w.heap.size->U.heap[b]? =w.heap[b]?)/\dp o U (gN D) y/\(∀b,o b->w.heap.size<=b/\b<U.heap.size/\¬X' b)/\∀b,X' b->X b\/w.heap.size<=b:=by
  obtain⟨wk,u1,u2,fz,_,aS,aT,a7⟩:=aa.at_;have p1:w.cell? (cY I 1)=some u1:=by simp[World.cell?,aS,dt]
  have p2:w.cell? (cY I 2)=some u2:=by simp[World.cell?,aS,dt]
  by_cases h0:0<D.opn.length;have ao:0<D.lists.length:=by rw[aa.ok.len];exact h0
  obtain⟨oa,oc1,rfl⟩:=aT.len;obtain⟨lb,lc,lu,rfl,a8,aU,a9⟩:=a7.at_ 0 ao;obtain⟨a0,c0,rfl⟩:=a9.len;have ba:D.lists[0]=dN D 0:=by unfold dN;rw[jG,eV ao];rfl
  have ae:=aa.ok.many _ (ef ao);rw[ba]at aU ae;have aE:∀b,(∃b0,ρ.r b0 b)->b<w.heap.size/\¬X b:=λb ⟨b0,O⟩=>⟨(L _ _ O).2,k.apart _ _ O⟩;have ar:=JF (X:=X) (B:=λp=>∃b,ρ.r b p) (sl:=sl) aE h0 ao (oa:=oa) (oc1:=oc1) (la:=(cY lb 0)) (C:=lc) (a0:=a0) (n:=(dN D 0).length) (c0:=c0) ⟨p1,⟨p2,aU⟩⟩ ⟨_,an⟩ a8 ae (BF.pick _ I D w aa (λb O=>(aE b O).1) h0) hB;rw[<-Gr D h0]at ar;exact ar;have au:D.opn=[]:=oL (by omega);obtain⟨oa,oc1,rfl⟩:=aT.len;rw[au]at p1;obtain⟨M,T,U,ad,t',q',r1,r2,r3,r4,r5⟩:=GU (sl:=sl) ⟨(L _ _ an).2,k.apart _ _ an⟩ p1 hB;refine⟨M,T,U,ad,t',q',X,λ_=>False,⟨none,0,0,0,0,true⟩,r1,r2,r3,r4,r5,?_,λb h=>h.elim,λb h=>.inl h⟩;have:gN D=some ([],0,0):=by unfold gN;rw[au];simp only[fB,er,ny,eB,gY,Aw,L0,lq,vC,aa.ok.zero];rfl
  rw[this];exact⟨rfl,rfl,rfl,rfl,.inl ⟨rfl,rfl,rfl⟩⟩
 obtain⟨M,T,U,ad,t',q',X',o,y,r1,r2,r3,r4,r5,r6,r7,r8⟩:=aD;have bb:Go.cP.Below c.v (λj q=>if j<c.v.drawn then c.v.tape j q else match q with| .appendCap n _ _=>y.sc-n|_=>0):=λj hj=>by funext q;simp[hj]
 obtain⟨e,w2,bc,⟨yv,rfl,bd,be,aF,bf⟩,bg,bn,bh⟩:=BF.goes N pb D (cQ c.v (λj q=>if j<c.v.drawn then c.v.tape j q else match q with| .appendCap n _ _=>y.sc-n|_=>0)) (aC.cQ _) hN (by simp[cQ]) c.cl;obtain⟨n2,bi⟩:=bg;have aV:c.cl=J::(X2++[floor]):=aj;have aG:Go.step V.prog (lone bc c.cl w2)=.next (lone (J.finish yv.val) (X2++[floor]) w2):=by rw[aV];exact step_leave_returned bh
 obtain⟨aH,aI⟩:=vZ E n2 (c:=c) k.inv bb (JI (by rw[aQ];exact bi) aG) (by simp);have aW:∀l m n,gN D=some (l,m,n)->l≠[]->yv.sc=y.sc:=λl m n hs hl=>by have h6:=r6;rw[hs]at h6;obtain⟨_,_,_,_,⟨bj,_⟩|⟨_,_,_,_,h7,h8,_⟩⟩:=h6;exact absurd bj hl;exact R5 be bf (K:=y.sc) (λj n x t hj=>by have:¬j<c.v.drawn:=Nat.not_lt.2 hj;simp[cQ,this]) l m n hs hl h7 h8
 obtain⟨bk,F,bl,ag⟩:=JM (ρ:=ρ) bd r6 aW (λb O p P=>by
  have aE:c.v.heap.size<=b:=O;have:=(L _ _ P).1;omega) (λp ah b P=>by
  have S:=(r7 p ah).1;have:=(L _ _ P).2;omega) λb O=>k.heap.low b O
 have aJ:w0.heap.size<=w.heap.size:=k.grown;refine⟨M,T,U,ad,t',q',⟨J.finish yv.val,X2++[floor],w2⟩,bk,X',G (A.finish y.val) ab,by rw[ev];exact r1,⟨aI,k.good.mono F,F.f▸k.same,r2.at0,?_,?_,ev.symm▸r2.leavers,r2.past,r2.low,?_,?_,cZ aJ r4,?_,?_,?_⟩,aH⟩;exact⟨.fr ((hc.mono F).finish bl),⟨X2,ab,rfl,by simp[G],a6.mono F⟩,⟨rfl,rfl⟩,⟨rfl,rfl⟩,⟨rfl,rfl⟩⟩;refine⟨λb p ai=>?_,λb O=>by rw[<-F.g];exact k.heap.low b (Nat.le_of_not_lt λh=>by have S:w2.heap[b]? =c.v.heap[b]? :=aF b h;rw[lT O,iY h]at S;cases S)⟩;rcases ag b p ai with h|⟨_,_,bm,x,x',Q,Z,W⟩;obtain⟨o1,o2,Q,Z,W⟩:=k.heap.obj b p h;refine⟨o1,o2,(aF b (L _ _ h).1).trans Q,(r5 p (L _ _ h).2).trans Z,?_⟩;rw[<-F.g];exact W.mono F;exact⟨x,x',Q,Z,.inl ⟨bm,W⟩⟩;intro b p ai al;rcases ag b p ai with h|⟨_,ho,_⟩;rcases r8 p al with S|S;exact k.apart _ _ h S;have:=(L _ _ h).2;omega;exact(r7 p ho).2.2 al;intro b p ai ah;rcases ag b p ai with h|⟨_,ho,_⟩;exact(k.old b p h ah).keep (aF b (L _ _ h).1);have:=(r7 p ho).1;omega;intro p ah;rw[r5 p (by omega)];exact k.kept p ah;exact⟨r3.1.trans k.world.1,r3.2.1.trans k.world.2.1,r3.2.2.trans k.world.2.2⟩;exact⟨λg hg=>k.holes.1 g (by rw[F.h];exact hg),F.d▸k.holes.2.1,λ⟨g,hg⟩=>k.holes.2.2 ⟨g,by rw[F.w];exact hg⟩⟩
end Go.Proofs.W
variable{l f:List Nat}{a:Option Go.Addr}
namespace Go.Proofs.W
open Go.RowKit
section
variable{w:cn}{kx:cq->Prop}{kr kp kl:gy->Prop}{lb ea:Bool}
def EM(h:kr (boxed w.heap.size (pm T).toArray T))(b:Vg T=true:=by rfl):vS Ext Ext w (λc d=>jj V.prog (Instr.alloc T true (.tuple #[])) c d) kx kr kp lb kl ea:=
 .rel _ (Gq _ _ _) (λ_ e=>eD (λ_ f g a i=>⟨⟨f,rfl,cZ e.size a,i⟩,g⟩) b) h
end
structure PG(pb T:Nat)(w:cn)(D:ep)(n i:Nat)(pa:Option Addr)(pc:Nat)(l:List Nat)(d:Nat)(la:Option Addr)(XK:Nat):Prop where
 h:∃ob no oc lb nl lc rb ni rc,w.cell? ⟨T,0,none⟩=some (.pointer (some ⟨pb,0,none⟩))/\w.cell? ⟨pb,1,none⟩=some (.slice (some ⟨ob,0,none⟩) no oc)/\w.cell? ⟨T,1,none⟩=some (.slice pa n pc)/\w.cell? ⟨ob,n,none⟩=some (.int .i64 d)/\
  w.cell? ⟨pb,2,none⟩=some (.slice (some ⟨lb,0,none⟩) nl lc)/\w.cell? ⟨lb,n,none⟩=some (.slice (some ⟨rb,0,none⟩) ni rc)/\w.cell? ⟨rb,i,none⟩=some (.slice la l.length XK)/\n<no/\n<nl/\i<ni
 row:∀j (h:j<l.length),∃lb,la=some ⟨lb,0,none⟩/\lb≠T/\pa≠some ⟨lb,0,none⟩/\w.cell? ⟨lb,j,none⟩=some (.int .i64 l[j])
 long:l.length<=65536
 shift:∀s∈l,s<6
 door:d<5
def pS{a:Type}{l:List a}{d x:a}(h:k<l.length)(e:l.getD k d=x):l[k]=x:=by rw[jG,eV h]at e;exact e
def wV.data{N:cN}{D:ep}{w:cn}{L:Nat->Nat}{y:SV}(h:wV N m k D w l a i L y)(n:l.length<D.opn.length)(t:j<(dN D l.length).length):∃v x,PG m k w D l.length j a i ((dN D l.length).getD j []) (fu D l.length) v x:=by
 obtain⟨K,M,t2,t3,t4⟩:=iz h.at_;have o:=h.plan;obtain⟨wk,O,P,fz,_,p,z,A⟩:=o.at_;have Q:w.cell? (cY m 1)=some O:=by simp[World.cell?,p,dt]
 have R:w.cell? (cY m 2)=some P:=by simp[World.cell?,p,dt]
 obtain⟨S,T,d,rfl,U,q,B⟩:=z.at_ l.length n;obtain rfl:d=i64 (D.opn[l.length]:Nat):=B;have e:l.length<D.lists.length:=by rw[o.ok.len];exact n
 obtain⟨lb,V,lu,rfl,W,C,r⟩:=A.at_ l.length e;have G:D.lists[l.length]=dN D l.length:=pS e rfl;have H:D.opn[l.length]=fu D l.length:=pS n rfl;rw[G]at r;rw[H]at q;obtain⟨X,Y,ru,rfl,Z,E,g⟩:=r.at_ j t;have I:(dN D l.length)[j]=(dN D l.length).getD j []:=pS t rfl;rw[I]at g;have f:dN D l.length∈D.lists:=G▸ef e;have s:(dN D l.length).getD j []∈dN D l.length:=I▸ef t;obtain⟨v,F,rfl⟩:=g.len;refine⟨v,F,⟨S,_,T,lb,_,V,X,_,Y,K,Q,M,q,R,C,E,n,e,t⟩,λaa hj=>?_,o.ok.long _ f _ s,o.ok.shift _ f _ s,o.ok.door _ (H▸ef n)⟩;obtain⟨b,c,u,h1,J,h3,h4⟩:=g.at_ aa hj;cases h1;exact⟨b,rfl,(h.sep b J).2.1,(h.sep b J).2.2,h3.trans (cT some h4)⟩
structure PH(T pb:Nat)(w:cn)(ps:List Nat)(i:Nat)(pa:Option Addr)(L:Nat->Nat)(y:SV)(d:Nat)(l:List Nat)(e:Ending)(w':cn):Prop where
 out:∃bl bt bd la lc O3 Tw,e=.returned (.func (.func 227) #[] #[.pointer (some ⟨bl,0,none⟩),.pointer (some ⟨bt,0,none⟩),.pointer (some ⟨bd,0,none⟩)])/\
  w.heap.size<=bl/\w.heap.size<=bt/\w.heap.size<=bd/\w'.heap[bl]? =some (.cells #[.slice la l.length lc] 27)/\w'.heap[bt]? =some (.cells #[.pointer (some ⟨T,0,none⟩)] 243)/\w'.heap[bd]? =some (.cells #[.int .i64 d] 3)/\
  (∀j (h:j<l.length),∃lb,la=some ⟨lb,0,none⟩/\lb≠T/\pa≠some ⟨lb,0,none⟩/\w.cell? ⟨lb,j,none⟩=some (.int .i64 l[j]))/\
  w'.heap[T]? =some (eC pb O3 (ps.length+1) Tw (jU d l L) y)/\oX T w' O3 Tw (ps++[i])/\(O3=pa\/∃b,w.heap.size<=b/\O3=some ⟨b,0,none⟩/\b≠bl/\b≠bt/\b≠bd)
 keep:cW (λb=>b=T\/pa=some ⟨b,0,none⟩) w w'
def Ext.wi{w a:cn}{F:cN}{b:cn}(h:Ext w a)(k:cW F b w):cW F b a:=k.trans (h.keep F) (λ_ _ h=>h) λ_ _ h=>h
def oX.at_{w:cn}(h:oX m w a k l)(b:a=some ⟨i,0,none⟩):i<w.heap.size/\m<i:=by rcases h with⟨h,_,_⟩|⟨c,g,d,e,f,_⟩;rw[h]at b;cases b;rw[d]at b;obtain rfl:c=i:=cT Addr.block (cO b);exact⟨cP.lt_of_heap f,e⟩
def AT{L:Nat->Nat}{y:SV}{w:cn}(c:s<6)(h:w.heap[j]? =some (.cells (gl #[.pointer (some ⟨m,0,none⟩),.slice a k i,.int .u8 (L 0),.int .u8 (L 1),.int .u8 (L 2),.int .u8 (L 3),.int .u8 (L 4),.int .u8 (L 5),.slice y.sa y.sl y.sc,.int .i64 y.m,.int .i64 y.k,.bool y.b] (2+s) (Value.int .u8 o).cells.toList) 245)):w.heap[j]? =some (eC m a k i (Gp L s o) y):=by
 rw[h];have:s=0\/s=1\/s=2\/s=3\/s=4\/s=5:=by omega
 rcases this with rfl|rfl|rfl|rfl|rfl|rfl<;>simp[gl,Value.cells,eC,Gp]
def PI(N:Nat->Prop)(pb T:Nat)(D:ep)(w:cn)(ps:List Nat)(pa:Option Addr)(pc:Nat)(L:Nat->Nat)(y:SV)(i:Nat)(X:wV N pb T D w ps pa pc L y)(Q:ps.length<D.opn.length)(hi:i<(dN D ps.length).length):Calls V.prog 215 #[.pointer (some ⟨T,0,none⟩),.int .i64 i] w (PH T pb w ps i pa L y (fu D ps.length) ((dN D ps.length).getD i [])):=by
 obtain⟨la,C,hD⟩:=X.data Q hi;have hT:=X.at_;have g:=X.own;have hL:=X.lt;have ad:=X.plan.ok.five;have au:T<w.heap.size:=cP.lt_of_heap hT;generalize fu D ps.length=d at hD⊢;generalize (dN D ps.length).getD i []=l at hD⊢;obtain⟨⟨ob,no,oc,lb,nl,lc,rb,ni,rc,c0,p1,t1,hd,p2,hl,hr,ae,af,ag⟩,u,ah,ai,E⟩:=hD;refine gd Tryz.func215 Tryz.ntmps215 ?_;refine ej λw1 bt R m Y=>?_;have ct:w1.cell? ⟨bt,0,none⟩=some (.pointer (some ⟨T,0,none⟩)):=cr Y rfl;refine cX cV (cK ct (cK (R.cell c0) (cK (R.cell p1) (cK ct (cK (R.cell t1) (kX (iK ps.length ae (cK (by rw[cG];exact R.cell hd) (EM ?_)))))))));rintro w2 x2 _ ⟨bd,rfl,aj,c⟩;refine dq c λw3 k3 ak=>?_;have Z:=x2.cC k3 aj;have a:=R.trans Z;refine cX cV (cK (Z.cell ct) (cK (a.cell c0) (cK (a.cell p2) (cK (Z.cell ct) (cK (a.cell t1) (kX (iK ps.length af (cK (by rw[cG];exact a.cell hl) (iK i ag (cK (by rw[cG];exact a.cell hr) (EM ?_)))))))))));rintro w4 x4 _ ⟨bl,rfl,al,c⟩;refine dq c λw5 k5 aa=>?_;have x5:=x4.cC k5 al;have X5:=a.trans x5;have s1:=R.size;have s3:=Z.size;refine cu (cr aa rfl) (cS ?_);refine eE (n:=l.length) (λk=>[(1,i64 i),(2,.pointer (some ⟨bt,0,none⟩)),(5,.pointer (some ⟨bd,0,none⟩)),(6,.pointer (some ⟨bl,0,none⟩)),(40,.slice la l.length C),(41,i64 l.length),(42,i64 k)]) (λk S=>cW (λb=>b=T) w S/\S.heap[T]? =some (eC pb pa ps.length pc (jU d (l.take k) L) y)/\S.heap[bt]? =some (.cells #[.pointer (some ⟨T,0,none⟩)] 243)/\S.heap[bd]? =some (.cells #[i64 d] 3)/\S.heap[bl]? =some (.cells #[.slice la l.length C] 27)) ⟨by trivial,X5.keep _,X5.at_ hT,x5.at_ (Z.at_ Y),x5.at_ ak,aa⟩ ?_ ?_ ?_;intro k S _ hJ;exact du ⟨rfl,rfl,by trivial,hJ⟩;rintro k q Q ⟨K,F,f,p,r⟩;obtain⟨av,rfl,am,ar,G⟩:=u k Q;have j:=ai l[k] (ef Q);obtain⟨t0,_,t2,_,_⟩:=iz F;refine fw k Q (cu (K.eP (by rw[cG];exact G) am) (cX cV (cK (cr f rfl) (cK (cr f rfl) (pG l[k] 6 j (cK (t2 _ j) (cK (cr p rfl) (iC cV _ (λw e=>Gz (Do _ _ w (Bz E hL l[k] j) E)) (pG l[k] 6 j λw7 x7=>?_)))))))));refine iT (x7.at_ F) (by simp[Value.cells];omega) (λH U I=>cF ?_) (fK rfl);have T8:=AT j I;rw[Ay E hL k Q j]at T8;have J:∀{b:Nat} {o:Obj},w.heap.size<=b->q.heap[b]? =some o->H.heap[b]? =some o:=λc ho=>U.fe (x7.at_ ho) (by omega);exact⟨by trivial,(x7.wi K).trans U (λ_ _ h=>h) λ_ _ h=>h,T8,J m f,J (by omega) p,J (by omega) r⟩;rintro q ⟨K,F,f,p,r⟩;rw[vE (cJ _)]at F;obtain⟨_,t1,_,_,_⟩:=iz F;have M:∀{b:Nat},w.heap.size<=b->¬pa=some ⟨b,0,none⟩:=λc e=>by have:=(g.at_ e).1;omega
 have x:¬pa=some ⟨T,0,none⟩:=λe=>by have:=(g.at_ e).2;omega
 have ab:oX T q pa pc ps:=g.ext λb c O=>K.block b c (by have:=(g.at_ O).2;omega);have an:T<q.heap.size:=cP.lt_of_heap F;have z:∀b,pa=some ⟨b,0,none⟩->b<q.heap.size:=λb c=>(ab.at_ c).1;have aE:=O8 (T:=T) (ps:=ps) (i:=i) (pa:=pa) (pc:=pc);refine cX aE (dx _ (λw e=>cu (e.keep.eP (cr f rfl) (M m)) ⟨rfl,aE.refl _⟩) (dx _ (λw e=>cu (e.keep.eP (cr f rfl) (M m)) ⟨rfl,aE.refl _⟩) (dx _ (λw e=>cu (e.keep.eP t1 x) ⟨rfl,aE.refl _⟩) ?_)));refine .rel (picked i q) (DM z) (λw7 A=>eg [i64 i] 3 (λH nb e8 ao c=>⟨⟨nb,rfl,cZ A.keep.size ao,c⟩,ye e8⟩)) ?_;refine .rel (yf T ps i pa q) (zU z) (λw7 A v hv=>?_) ?_;obtain⟨B,rfl,aw,ap⟩:=hv;obtain⟨v,H,ac,W⟩:=Dy T w7 ps i pa pc 27 B (A.own ab) (dE an A.keep.size) (by simp[World.cell?,ap]) (by omega);obtain⟨s,t,e1,e2,e3⟩:=W.val;refine⟨v,H,by simp[builtin,ac,Result.andThen],⟨s,t,e1,e2,e3.imp id λ⟨b,c,e⟩=>⟨b,cZ A.keep.size c,e⟩⟩,W.keep,λ_=>W.old,W.stay⟩;intro w7 A v hv _ _;obtain⟨s,t,rfl,hO,W⟩:yf T ps i pa q v w7:=hv;refine dq (A.keep.fe F x) λH U I=>?_;have K7:=A.keep;have s6:=K.size;have P:∀{b:Nat} {o:Obj},w.heap.size<=b->q.heap[b]? =some o->H.heap[b]? =some o:=λc ho=>U.fe (K7.fe ho (M c)) (by omega);have aq:oX T H s t (ps++[i]):=hO.ext λb c O=>U.block b c (by have:=(hO.at_ O).2;omega);refine⟨⟨bl,bt,bd,la,C,s,t,rfl,by omega,m,by omega,P (by omega) r,P m f,P (by omega) p,u,I,aq,W.imp id λ⟨b,c,e⟩=>⟨b,by omega,e,?_⟩⟩,(K.trans K7 (λ_ _ h=>.inl h) λ_ _ h=>.inr h).trans U (λ_ _ h=>h) λ_ _ h=>.inl h⟩;have g1:=cP.lt_of_heap r;have g2:=cP.lt_of_heap f;have g3:=cP.lt_of_heap p;omega
def JN{b:Func}{c:Code}{u:FrameMode}{R:Ending->cU}(n:Nat)
 (f:P.funcs[K]? =some b)(g:b.body=some c)(j:b.ntmps=n)(h:∀a:Act,a.tmps.size=n->a.defers=[]->(∀i v,W[i]? =some v->a.eval (.tmp i)=v)->c.wp P (bodyPost P b R) a w)(d:W.size<=n):CallsD P K W u w λe k l=>k=u/\R e l:=by
 refine callsD_of_wp f g ?_;rw[j];exact h (Az W n) (te _ _ d) rfl λi v m=>yd _ _ _ _ m
def Nd(c T f n g d:Nat)(L:Nat->Nat)(y:SV)(l:cz)(w:cn)(e:Ending)(a:cn):Prop:=
 e=.returned undef/\cW (λb=>b=T) w a/\a.heap[T]? =some (eC c (some ⟨f,0,none⟩) n g (nz d l L) y)
def Nf(G T H n v x z R d A:Nat)(I:ek)(L:Nat->Nat)(y:SV)(l:cz)(w:cn)(u:FrameMode)(J:w.heap[T]? =some (eC G (some ⟨H,0,none⟩) (n+1) v L y))(S:∀s,s<6->L s<32) (M:w.heap[R]? =some (.cells #[.slice I l.length A] 27))(a:w.heap[x]? =some (.cells #[.pointer (some ⟨T,0,none⟩)] 243))(c:w.heap[z]? =some (.cells #[.int .i64 d] 3)) (B:∀j (h:j<l.length),∃N,I=some ⟨N,0,none⟩/\N≠T/\w.cell? ⟨N,j,none⟩=some (.int .i64 l[j]))(O:l.length<=65536)(P:∀s∈l,s<6)(i:d<5)(hn:n+1<=v)(U:n<=65536)(Y:v<2^63):
 CallsD V.prog 227 #[.pointer (some ⟨R,0,none⟩),.pointer (some ⟨x,0,none⟩),.pointer (some ⟨z,0,none⟩)] u w λe Z m=>Z=u/\Nd G T H n v d L y l w e m:=by
 have C:x≠T:=by rintro rfl;rw[J]at a;injection a with a;injection a with _ a _;cases a
 have D:z≠T:=by rintro rfl;rw[J]at c;injection c with c;injection c with _ c _;cases c
 refine JN 39 V.func227 rfl Tryz.ntmps227 (QE 39 (dM.of dj ?_)) (by simp);refine cu (cr M rfl) (cS ?_);refine eE (n:=l.length) (λk=>[(1,dI x),(2,dI z),(5,.slice I l.length A),(6,i64 l.length),(7,i64 k)]) (λk m=>cW (λb=>b=T) w m/\m.heap[T]? =some (eC G (Bb H 0) (n+1) v (nz d (l.take k) L) y)/\sd m x #[dI T] 243/\sd m z #[i64 d] 3) ⟨by trivial,cW.refl _ _,J,a,c⟩ ?_ ?_ ?_;intro k m _ hJ;exact du ⟨rfl,rfl,by trivial,hJ⟩;rintro k w6 F ⟨K,t,f,o⟩;obtain⟨aa,rfl,Q,p⟩:=B k F;have g:=P l[k] (ef F);obtain⟨t0,_,t2,_,_⟩:=iz t;refine fw k F (cu (K.eP (by rw[cG];exact p) Q) (cX cV (cK (cr f rfl) (cK (cr f rfl) (pG l[k] 6 g (cK (t2 _ g) (cK (cr o rfl) (iC cV _ (λw e=>Gz (Dp _ _ w (DI i S l[k] g) i)) (pG l[k] 6 g λw7 q=>?_)))))))));refine iT (q.at_ t) (by simp[Value.cells];omega) (λw8 E r=>cF ?_) (fK rfl);have W:=AT g r;rw[Gs i S k F g]at W;exact⟨by trivial,(q.wi K).trans E (λ_ _ h=>h) λ_ _ h=>h,W,E.fe (q.at_ f) C,E.fe (q.at_ o) D⟩;rintro w6 ⟨K,t,f,o⟩;rw[vE (cJ _)]at t;obtain⟨_,X,_,_,_⟩:=iz t;refine cX cV (cK (cr f rfl) (cK (cr f rfl) (cK X (cK (cr f rfl) (cK X (kX (ti (dx _ (λw1 _=>pF n (by omega) ⟨rfl,cV.refl _⟩ (by omega)) λw7 q=>?_))))))));exact dq (q.at_ t) λw8 E r=>⟨rfl,(q.wi K).trans E (λ_ _ h=>h) λ_ _ h=>h,r⟩
section
variable{P:cA}{ops:Array Oper}{Q:Exit->Act->cn->Prop}
def jE{o:Oper}{a:Act}{w w':cn}{K:Act->cU}(v:cq)(b:ops[i]? =some o)(c:o.guard=none)(d:(execOp a.eval o).run P w=.ok (.value v) w')(h:K (a.put o.dst v) w'):wpOp P ops Q i K a w:=by
 have e:Region.wanted o (yielded ops a.tmps)=true:=by simp[Region.wanted,c]
 unfold wpOp;rw[b];simp only[e,dF];refine .inl ?_;unfold Oper.wp;rw[d];exact h
def JO{o:Oper}{a:Act}{w b:cn}{K:Act->cU}(d:Deferred)(c:ops[i]? =some o)(e:o.guard=none)(f:(execOp a.eval o).run P w=.ok (.defer d) b)(h:K ({a with defers:=d::a.defers}.put o.dst undef) b):wpOp P ops Q i K a w:=by
 have g:Region.wanted o (yielded ops a.tmps)=true:=by simp[Region.wanted,e]
 unfold wpOp;rw[c];simp only[g,dF];refine .inl ?_;unfold Oper.wp;rw[f];exact h
end
def PK:Tryz.f190.body=some ((fU Tryz.f190 0).seq (fU Tryz.f190 1)):=by kernel_rfl
def PL(Q:Exit->Act->cU)(a:Act)(w:cn)(T i:Nat)(A:a.tmps.size=9)(B:a.defers=[])(z:a.eval (.tmp 0)=.pointer (some ⟨T,0,none⟩))(C:a.eval (.tmp 1)=.int .i64 i)
 (j:Calls V.prog 215 #[.pointer (some ⟨T,0,none⟩),.int .i64 i] w λe s=>∃p q r,e=.returned (.func (.func 227) #[] #[.pointer (some ⟨p,0,none⟩),.pointer (some ⟨q,0,none⟩),.pointer (some ⟨r,0,none⟩)])/\
  ∀u:Act,u.tmps.size=9->u.defers=[{target:=.fn (.func 227) #[.pointer (some ⟨p,0,none⟩),.pointer (some ⟨q,0,none⟩),.pointer (some ⟨r,0,none⟩)],args:=#[]}]->u.eval (.tmp 0)=.pointer (some ⟨T,0,none⟩)->Q .normal u s):
 Code.wp V.prog (fU Tryz.f190 0) Q a w:=by
 have e:fU Tryz.f190 0=.region 0 (opsOf (fU Tryz.f190 0)) false:=by kernel_rfl
 rw[e];refine om ?_;have k:(opsOf (fU Tryz.f190 0)).size=4:=by kernel_rfl
 rw[k];show wpOps _ _ _ [0,1,2,3] _ _;rw[wpOps_cons];obtain⟨o,f⟩:=u5 0 k (by decide);obtain⟨l,m⟩:=I8 f (show infoAt (opsOf (fU Tryz.f190 0)) 0=some (Op.move (.tmp 0),none) by kernel_rfl);have n:o.dst=some 4:=x6 f (by kernel_rfl);have c:∀(o:Oper) (h:dw->cq),o.op=Op.move (.tmp 0)->h (.tmp 0)=dI T->(execOp h o).run jD w=.ok (.value (dI T)) w:=by rintro⟨d,v,t,b,x,g⟩ h rfl y;go_simp
 refine jE _ f m (c o a.eval l z) ?_;clear c;rw[n,wpOps_cons];clear f l m n o;obtain⟨o,f⟩:=u5 1 k (by decide);obtain⟨l,m⟩:=I8 f (show infoAt (opsOf (fU Tryz.f190 0)) 1=some (Op.move (.tmp 1),none) by kernel_rfl);have n:o.dst=some 5:=x6 f (by kernel_rfl);have c:∀(o:Oper) (h:dw->cq),o.op=Op.move (.tmp 1)->h (.tmp 1)=i64 i->(execOp h o).run jD w=.ok (.value (i64 i)) w:=by rintro⟨d,v,t,b,x,g⟩ h rfl y;go_simp
 refine jE _ f m (c o _ l (by rw[qT _ _ _ _ (by simp)];exact C)) ?_;clear c;rw[n,wpOps_cons];clear f l m n o;obtain⟨o,f⟩:=u5 2 k (by decide);obtain⟨l,m⟩:=I8 f (show infoAt (opsOf (fU Tryz.f190 0)) 2=some (Op.call {callee:=.value (.func 215),args:=#[.tmp 4,.tmp 5],argTypes:=#[243,3]},none) by kernel_rfl);have n:o.dst=some 6:=x6 f (by kernel_rfl);have c:∀(o:Oper) (h:dw->cq),o.op=Op.call {callee:=.value (.func 215),args:=#[.tmp 4,.tmp 5],argTypes:=#[243,3]}->h (.tmp 4)=dI T->h (.tmp 5)=i64 i->h (.func 215)=.func (.func 215) #[] #[]->(execOp h o).run jD w=.ok (.enter 215 #[dI T,i64 i]) w:=by rintro⟨d,v,t,b,x,g⟩ h rfl y E F;go_simp
 refine xZ _ _ f m (c o _ l (by rw[qT _ _ _ _ (by simp),u4 _ _ _ (by omega)]) (by rw[u4 _ _ _ (by rw[mE];omega)]) rfl) (j.mono ?_);clear c j;rintro e s ⟨p,q,r,rfl,D⟩;refine .inl ⟨_,rfl,?_⟩;rw[n,wpOps_cons];clear f l m n o;obtain⟨o,f⟩:=u5 3 k (by decide);obtain⟨l,m⟩:=I8 f (show infoAt (opsOf (fU Tryz.f190 0)) 3=some (Op.defer {callee:=.value (.tmp 6),args:=#[],argTypes:=#[]},none) by kernel_rfl);have n:o.dst=none:=x6 f (by kernel_rfl);have c:∀(o:Oper) (h:dw->cq),o.op=Op.defer {callee:=.value (.tmp 6),args:=#[],argTypes:=#[]}->h (.tmp 6)=(.func (.func 227) #[] #[dI p,dI q,dI r])->
  (execOp h o).run jD s=.ok (.defer {target:=.fn (.func 227) #[dI p,dI q,dI r],args:=#[]}) s:=by
  rintro⟨d,v,t,b,x,g⟩ h rfl y;go_simp
 refine JO _ f m (c o _ l (by rw[u4 _ _ _ (by rw[mE,mE];omega)])) ?_;rw[n];refine D _ (by show((((a.put _ _).put _ _).put _ _).tmps).size=9;rw[mE,mE,mE,A]) (by show _::(((a.put _ _).put _ _).put _ _).defers=_;rw[tX,tX,tX,B]) ?_;show(((a.put _ _).put _ _).put _ _).eval (.tmp 0)=_;rw[qT _ _ _ _ (by simp),qT _ _ _ _ (by simp),qT _ _ _ _ (by simp)];exact z
def PM(Q:Exit->Act->cU)(a:Act)(w:cn)(T:Nat)(x:a.tmps.size=9)(q:a.eval (.tmp 0)=.pointer (some ⟨T,0,none⟩))
 (c:Calls V.prog 216 #[.pointer (some ⟨T,0,none⟩)] w λe m=>e=.returned undef/\∀n:Act,n.defers=a.defers->Q .normal n m):
 Code.wp V.prog (fU Tryz.f190 1) Q a w:=by
 have e:fU Tryz.f190 1=.region 1 (opsOf (fU Tryz.f190 1)) false:=by kernel_rfl
 rw[e];refine om ?_;have i:(opsOf (fU Tryz.f190 1)).size=2:=by kernel_rfl
 rw[i];show wpOps _ _ _ [0,1] _ _;rw[wpOps_cons];obtain⟨o,j⟩:=u5 0 i (by decide);obtain⟨k,l⟩:=I8 j (show infoAt (opsOf (fU Tryz.f190 1)) 0=some (Op.move (.tmp 0),none) by kernel_rfl);have p:o.dst=some 7:=x6 j (by kernel_rfl);have f:∀(o:Oper) (h:dw->cq),o.op=Op.move (.tmp 0)->h (.tmp 0)=dI T->(execOp h o).run jD w=.ok (.value (dI T)) w:=by rintro⟨d,r,t,b,s,g⟩ h rfl u;go_simp
 refine jE _ j l (f o a.eval k q) ?_;clear f;rw[p,wpOps_cons];clear j k l p o;obtain⟨o,j⟩:=u5 1 i (by decide);obtain⟨k,l⟩:=I8 j (show infoAt (opsOf (fU Tryz.f190 1)) 1=some (Op.call {callee:=.value (.func 216),args:=#[.tmp 7],argTypes:=#[243]},none) by kernel_rfl);have f:∀(o:Oper) (h:dw->cq),o.op=Op.call {callee:=.value (.func 216),args:=#[.tmp 7],argTypes:=#[243]}->h (.tmp 7)=dI T->h (.func 216)=.func (.func 216) #[] #[]->(execOp h o).run jD w=.ok (.enter 216 #[dI T]) w:=by rintro⟨d,r,t,b,s,g⟩ h rfl u y;go_simp
 refine xZ _ _ j l (f o _ k (by rw[u4 _ _ _ (by omega)]) rfl) (c.mono ?_);clear f c;rintro e m ⟨rfl,v⟩;exact .inl ⟨_,rfl,v _ (by rw[tX,tX])⟩
def oX.init{w:cn}(h:oX m w a k (l++[i])):oX m w a k l:=by rcases h with⟨_,h,_⟩|⟨b,c,d,e,f,g,j,n,o⟩;simp at h;refine .inr ⟨b,c,d,e,f,g,by simp at j;omega,n,λp q=>?_⟩;have:=o p (by simp;omega);rw[nU q]at this;exact this
def wj{L a:Nat->Nat}(h:L s=a s):nz d l L s=nz d l a s:=by unfold nz;rw[h]
def JP{D:ep}(b:D.Ok)(c:j<D.opn.length)(d:k<D.opn.length)(a:j≠k):fu D j≠fu D k:=by have f:D.opn[j]=fu D j:=pS c rfl;have g:D.opn[k]=fu D k:=pS d rfl;rw[<-f,<-g];intro e;exact a ((List.getElem_inj b.nodup).1 e)
def JQ{D:ep}(b:D.Ok)(a:j<D.opn.length):fu D j<5:=by have c:D.opn[j]=fu D j:=pS a rfl;rw[<-c];exact b.door _ (ef a)
def rB(n:Nat):Prop:=∀(N:cN) (b T:Nat) (D:ep) (c d:Nat) (w:cn) (a:cz) (e:ek) (f:Nat) (L:Nat->Nat) (y:SV) (s:Sp),a.length+n=D.opn.length->iu N b T D c d w a e f L y s->Calls V.prog 216 #[.pointer (some ⟨T,0,none⟩)] w (DK N b T D c d w a e L (er D n a L s))
def EN(n:Nat)(hg:rB n)(N:cN)(pb T:Nat)(D:ep)(m0 j0:Nat)(w:cn)(r:cz)(P:ek)(pc:Nat)(L:Nat->Nat)(y:SV)(s:Sp)(i:Nat) (hn:r.length+(n+1)=D.opn.length)(v:iu N pb T D m0 j0 w r P pc L y s)(hi:i<(dN D r.length).length):Calls V.prog 190 #[.pointer (some ⟨T,0,none⟩),.int .i64 i] w (DK N pb T D m0 j0 w r P L (er D n (r++[i]) (jU (fu D r.length) ((dN D r.length).getD i []) L) s)):=by
 have hk:r.length<D.opn.length:=by omega
 have ab:=PI N pb T D w r P pc L y i v.t hk hi;obtain⟨aI,aJ,hD⟩:=v.t.data hk hi;have R:=hD.long;have an:=hD.shift;have F:=hD.door;have J:=v.t.plan.ok;have hL:=v.t.lt;have aK:T<w.heap.size:=cP.lt_of_heap v.t.at_;have A:=v.t.free;have ac:∀j,r.length+1<=j->j<D.opn.length->fu D r.length≠fu D j:=λj p G=>JP J hk G (by omega);have ao:∀j,j<D.opn.length->fu D j<5:=λj h=>JQ J h;have ad:∀s,s<6->qS (L s) (fu D r.length)=L s:=λs hs=>A s hs _ (cJ _) hk;clear hD;generalize hd:fu D r.length=d at*;generalize hl:(dN D r.length).getD i []=l at*;have Q:∀b,P=some (cY b 0)->b<w.heap.size:=λb m=>by rcases v.t.own with⟨h,_,_⟩|⟨M,S,p,G,h3,_⟩;rw[h]at m;cases m;rw[p]at m;obtain rfl:M=b:=cT Addr.block (cO m);exact cP.lt_of_heap h3
 refine wG 9 V.func190 PK Tryz.ntmps190 (λa z da sa=>?_) (by simp);have s0:=sa 0 _ rfl;have s1:=sa 1 _ rfl;refine jX (PL _ a w T i z da s0 s1 (ab.mono ?_));rintro e w1 ⟨⟨bl,bt,bd,la,lc,B,ae,rfl,ap,aq,ar,au,av,aw,af,ax,ag,ah⟩,O⟩;refine⟨bl,bt,bd,rfl,λa1 z1 d1 ay=>?_⟩;have C:B=P\/∃b,w.heap.size<=b/\B=some (cY b 0):=ah.imp id λ⟨b,p,G,_⟩=>⟨b,p,G⟩;have E:∀b,b<w.heap.size->P≠some (cY b 0)->B≠some (cY b 0):=λb m h e=>by rcases C with p|⟨c,hc,p⟩;exact h (p.symm.trans e);rw[p]at e;obtain rfl:c=b:=cT Addr.block (cO e);omega
 have az:iu N pb T D m0 j0 w1 (r++[i]) B ae (jU d l L) y s:=by
  refine⟨⟨v.t.plan.same λb m=>O.block b (v.t.sep b m).1 (λh=>h.elim (v.t.sep b m).2.1 (v.t.sep b m).2.2),λb m=>⟨dE (v.t.sep b m).1 O.size,(v.t.sep b m).2.1,E b (v.t.sep b m).1 (v.t.sep b m).2.2⟩,by simpa using ax,ag,Bz F hL,λx u j hj I=>?_,by simp;omega,λh=>by omega⟩,?_,v.cap.tape O.tape,cZ v.size O.size,cZ v.drawn O.drawn⟩;have aA:r.length+1<=j:=by simpa using hj
  unfold jU;split;exact DG _ (hL x u) _ F _ (ao j I) (ac j aA I) (A x u j (by omega) I);exact A x u j (by omega) I;refine v.sched.move λb S fz m u=>⟨⟨m.1,m.2.1,E b (cP.lt_of_heap u) m.2.2⟩,(O.block b (cP.lt_of_heap u) λh=>h.elim m.2.1 m.2.2).trans u⟩
 refine PM _ a1 w1 T z1 ay ((hg N pb T D m0 j0 w1 (r++[i]) B ae (jU d l L) y s (by simp;omega) az).mono ?_);rintro e w2 ⟨rfl,U,K,L2,y2,q,ai,K2,aj⟩;refine⟨rfl,λa2 d2=>?_⟩;have aB:∀b,B=some (cY b 0)->b<w1.heap.size:=λb m=>by rcases ag with⟨h,_,_⟩|⟨M,S,p,G,h3,_⟩;rw[h]at m;cases m;rw[p]at m;obtain rfl:M=b:=cT Addr.block (cO m);exact cP.lt_of_heap h3
 have W:∀{b:Nat} {o:Obj},w.heap.size<=b->(∀c,w.heap.size<=c->B=some (cY c 0)->c≠b)->w1.heap[b]? =some o->w2.heap[b]? =some o:=λm aC ho=>K2.fe ho (by rintro(h|h);omega;rcases C with p|⟨c,hc,p⟩;rw[p]at h;have:=Q _ h;omega;exact aC _ (by rw[p]at h;have:c=_:=cT Addr.block (cO h);omega) h rfl);have X:∀b,b=bl\/b=bt\/b=bd->∀c,w.heap.size<=c->B=some (cY c 0)->c≠b:=λb m c hc h=>by rcases ah with p|⟨c',ak,p,n1,n2,n3⟩;rw[p]at h;have:=Q _ h;omega;rw[p]at h;obtain rfl:c'=c:=cT Addr.block (cO h);rcases m with rfl|rfl|rfl;exact n1;exact n2;exact n3
 have al:=q.t.own;obtain⟨M,aL,e1,e2,e3,e4,e5,e6,e7⟩:∃M S,U=some (cY M 0)/\T<M/\sd w2 M S 3/\S.size=K/\(r++[i]).length<=K/\K<2^63/\(∀k (h:k<(r++[i]).length),S[k]? =some (i64 (r++[i])[k])):=by rcases al with⟨_,h,_⟩|h;simp at h;exact h
 have Y:=q.t.at_;rw[e1]at Y;have Z:∀j (h:j<l.length),∃lb,la=some (cY lb 0)/\lb≠T/\w2.cell? (cY lb j)=some (i64 l[j]):=λj hj=>by obtain⟨lb,p,G,h3,h4⟩:=af j hj;have aD:lb<w.heap.size:=tg h4;exact⟨lb,p,G,K2.eP (O.eP h4 λh=>h.elim G h3) λh=>h.elim G (E lb aD h3)⟩
 have am:(r++[i]).length=r.length+1:=by simp
 rw[am]at Y e5;have aE:=J.five;have aa:=Nf pb T M r.length K bt bd bl d lc la L2 y2 l w2 .returning Y q.t.lt (W ap (X _ (.inl rfl)) au) (W aq (X _ (.inr (.inl rfl))) av) (W ar (X _ (.inr (.inr rfl))) aw) Z R an F e5 (by omega) e6;show Leaves V.prog _ a2.tmps _ a2.defers .returning w2;rw[d2,d1];refine leaves_cons (by simp) (f:=227) (args:=#[dI bl,dI bt,dI bd]) (by go_simp) (aa.mono ?_);rintro e u' w3 ⟨rfl,rfl,g,aF⟩;show Leaves V.prog _ a2.tmps _ [] (settle .returning) w3;refine⟨undef,by simp[results,Tryz.results190,undef],rfl,U,K,nz d l L2,y2,?_,?_,?_,?_⟩;have aG:∀x,x<6->nz d l L2 x=L x:=λx u=>(wj (ai x u)).trans (DJ F hL ad x u);have aH:∀b,b<w.heap.size->P≠some (cY b 0)->U≠some (cY b 0):=λb m h e=>by rcases aj with p|⟨c,hc,p⟩;exact E b m h (p.symm.trans e);rw[p]at e;obtain rfl:c=b:=cT Addr.block (cO e);have:=O.size;omega
 refine⟨⟨q.t.plan.same λb m=>g.block b (q.t.sep b m).1 (q.t.sep b m).2.1,λb m=>⟨dE (q.t.sep b m).1 g.size,(q.t.sep b m).2.1,(q.t.sep b m).2.2⟩,by rw[e1];exact aF,al.init.ext λb m u=>g.block b m (by
  rw[e1]at u;obtain rfl:M=b:=cT Addr.block (cO u);omega),DI F q.t.lt,λx u j hj I=>by rw[aG x u];exact A x u j hj I,by omega,λh=>by omega⟩,
  q.sched.move λb S fz m u=>⟨m,(g.block b (cP.lt_of_heap u) m.2.1).trans u⟩,q.cap.tape g.tape,cZ q.size g.size,cZ q.drawn g.drawn⟩
 exactλx u=>(wj (ai x u)).trans (DJ F hL ad x u);refine(O.trans K2 (H:=λb=>b=T\/P=some (cY b 0)) (λ_ _ h=>h) λx u h=>?_).trans g (λ_ _ h=>h) λ_ _ h=>.inl h;rcases h with h|h;exact .inl h;rcases C with p|⟨c,hc,p⟩;exact .inr (p.symm.trans h);rw[p]at h;have:c=x:=cT Addr.block (cO h);omega;rcases aj with p|⟨c,hc,p⟩;rcases C with G|⟨c',ak,G⟩;exact .inl (p.trans G);exact .inr ⟨c',ak,p.trans G⟩;exact .inr ⟨c,cZ O.size hc,p⟩
def vu{D:ep}{L a:Nat->Nat}(h:∀x,x<6->L x=a x)(b:cz):eB D L b=eB D a b:=by
 have:Aw L=Aw a:=by unfold Aw;rw[h 0 (by omega),h 1 (by omega),h 2 (by omega),h 3 (by omega),h 4 (by omega),h 5 (by omega)]
 unfold eB gY;rw[this]
theorem rC{D:ep}:∀(n:Nat) {L L':Nat->Nat} (_:∀x,x<6->L x=L' x) (a:cz) (b:Sp),er D n a L b=er D n a L' b
 |0,L,L',h,a,b=>by simp only[er];rw[vu h]
 |n+1,L,L',h,a,b=>by simp only[er];congr 1;funext b i;exact rC n (λx c=>by unfold jU;rw[h x c]) _ b
def EO{b:Type}(f:b->Nat->b)(a:b)(k:Nat):(List.range (k+1)).foldl f a=f ((List.range k).foldl f a) k:=by rw[oO,xo];rfl
theorem iu.ext{D:ep}{L:Nat->Nat}{y:SV}{s:Sp}(h:iu A m k D i j w l a o L y s)(c:Ext w t):iu A m k D i j t l a o L y s:=
 ⟨⟨h.t.plan.same λb d=>c.block b (h.t.sep b d).1,λb d=>⟨dE (h.t.sep b d).1 c.size,(h.t.sep b d).2⟩,c.at_ h.t.at_,h.t.own.ext λb d _=>c.block b d,h.t.lt,h.t.free,h.t.len,h.t.bare⟩,h.sched.ext c,h.cap.tape c.tape,cZ h.size c.size,cZ h.drawn c.drawn⟩
def za{y:SV}(h:wE w m o y):∀j v,([.slice y.sa y.sl y.sc,.int .i64 y.m,.int .i64 y.k,.bool y.b]:dr)[j]? =some v->w.cell? ⟨m,o+j,none⟩=some v:=by obtain⟨c,d,e,f⟩:=h;rintro(_|_|_|_|j) v a;cases a;exact c;cases a;exact d;cases a;exact e;cases a;exact f;simp at a
def wE.ext{y:SV}(h:wE w m o y)(e:Ext w t):wE t m o y:=⟨e.cell h.1,e.cell h.2.1,e.cell h.2.2.1,e.cell h.2.2.2⟩
def Ng{L:Nat->Nat}(h:∀s,s<6->w.cell? ⟨m,2+s,none⟩=some (.int .u8 (L s))):∀j v,([.int .u8 (L 0),.int .u8 (L 1),.int .u8 (L 2),.int .u8 (L 3),.int .u8 (L 4),.int .u8 (L 5)]:dr)[j]? =some v->w.cell? ⟨m,2+j,none⟩=some v:=by rintro(_|_|_|_|_|_|j) v a;cases a;exact h 0 (by omega);cases a;exact h 1 (by omega);cases a;exact h 2 (by omega);cases a;exact h 3 (by omega);cases a;exact h 4 (by omega);cases a;exact h 5 (by omega);simp at a
def G0(p:cq)(x y:SV)(w:cn):Calls V.prog 194 #[p,x.val,y.val] w (fi λv a=>v=.bool (gX x y)/\Ext w a):=
 (Bv p x y w).mono λ_ _ ⟨h,b,d⟩=>⟨_,h,rfl,b.os,b.tape,b.output,b.size,d,b.block⟩
def JR:rB 0:=by
 intro N pb T D m0 G w i z H L y s hn q;have j:i.length=D.opn.length:=by omega
 have I:=q.t.plan.ok.five;obtain⟨t0,t1,t2,t3,t4⟩:=iz q.t.at_;obtain⟨wk,u1,u2,J,_,K,M,af⟩:=q.t.plan.at_;have p1:w.cell? ⟨pb,1,none⟩=some u1:=by simp[World.cell?,K,dt]
 obtain⟨oa,oc,rfl⟩:=M.len;refine gd Tryz.func216 Tryz.ntmps216 ?_;refine cX cV (cK t1 (kX (cK t0 (cK p1 (kX (Ed λA n=>jZ (by simp[j]) ?_))))));have d:=q.ext n;have O:i=[]->z=none:=λh=>q.t.bare (by rw[<-j,h];rfl);refine cX cV (cK (n.cell t0) (cK (n.cell t1) (dx (LY L) (λB o=>dJ (Ng λs P=>o.cell (n.cell (t2 s P))) ⟨rfl,cV.refl _⟩) (.rel (BA D L i G A) DN (λB o=>?_) (EM ?_)))));refine cD (R:=λv r=>BA D L i G A v r/\Ext B r) ((Gn N pb T D L i z H G B (d.t.plan.same λb c=>o.block b (d.t.sep b c).1) (λb c=>dE (d.t.sep b c).1 o.size) d.t.lt (d.t.own.ext λb c _=>o.block b c).Tv O (by omega) (cZ d.drawn o.drawn)).mono ?_) λ_ _ h=>h;rintro e w' ⟨y,rfl,P,hc,c,hd⟩;exact⟨_,rfl,⟨y,rfl,dp.imp (λb _ _ c _=>cZ o.size c) P,hc⟩,c.os,c.tape,c.output,c.size,hd,c.block⟩;rintro B x2 _ ⟨C,rfl,Q,c⟩ _ ⟨x,rfl,S,U⟩;refine dq c λr W X=>?_;have Y:r.heap[C]? =some (eh x):=X;have Z:=x2.cC W Q;have g:=d.ext Z;have k:dp (λb=>A.heap.size<=b/\b≠C) r (eB D L i) x:=(S.imp (o':=λb=>A.heap.size<=b/\b≠C) λb cs J h1 f=>⟨h1,by rintro rfl;rw[c]at f;injection f with f;injection f with _ f _;cases f⟩).grow λb cs J h1 f=>W.fe f h1.2;obtain⟨aa,_,_,ab,_⟩:=iz g.t.at_;obtain⟨q0,q1,q2,q3,_⟩:=dY Y;have u:wE r C 0 x:=⟨q0,q1,q2,q3⟩;have ac:gX x y=lS (eB D L i) s:=k.better g.sched;have p:er D 0 i L s=if gX x y=true then eB D L i else s:=by simp only[er,lV,ac]
 rw[p];refine cX cV (cK aa (dx x.val (λE F=>dJ (za (u.ext F)) ⟨rfl,cV.refl _⟩) (dx y.val (λE F=>dJ (za (ab.ext F)) ⟨rfl,cV.refl _⟩) (fh _ (λE F=>G0 _ x y E) λE l=>⟨λht=>?_,λhf=>?_⟩))));rw[cB ht];refine dJ (za (u.ext l)) (dq (l.at_ g.t.at_) λw5 m ad=>?_);have a:=g.ext l;have ae:=d.t.own;have s1:=n.size;refine⟨rfl,z,H,L,x,⟨⟨a.t.plan.same λb c=>m.block b (a.t.sep b c).1 (a.t.sep b c).2.1,λb c=>⟨dE (a.t.sep b c).1 m.size,(a.t.sep b c).2⟩,?_,a.t.own.ext λb c f=>m.block b c ?_,a.t.lt,a.t.free,a.t.len,a.t.bare⟩,?_,?_,cZ a.size m.size,cZ a.drawn m.drawn⟩,λ_ _=>rfl,?_,.inl rfl⟩;rw[ad];simp[gl,Value.cells,eC];have:=(a.t.own.at_ f).2;omega;have ag:T<w.heap.size:=cP.lt_of_heap q.t.at_;exact k.move λb cs J c f=>⟨⟨cZ d.size c.1,by omega,λh=>by have:=(ae.at_ h).1;omega⟩,m.fe (l.at_ f) (by omega)⟩;exact((U.tape W.tape).tape l.tape).tape m.tape;exact((l.wi (Z.wi (n.keep _))).trans m (λ_ _ h=>h) λ_ _ h=>.inl h);rw[cy (by simp[hf])];exact⟨rfl,z,H,L,y,g.ext l,λ_ _=>rfl,l.wi (Z.wi (n.keep _)),.inl rfl⟩
def JS(n:Nat)(hg:rB n):rB (n+1):=by
 intro N q T D G H w a I pc L y s hn m;have r:a.length<D.opn.length:=by omega
 have J:=m.t.plan.ok.five;obtain⟨Z,t1,t2,t3,t4⟩:=iz m.t.at_;obtain⟨wk,u1,u2,fz,_,u,K,M⟩:=m.t.plan.at_;have p1:w.cell? (cY q 1)=some u1:=by simp[World.cell?,u,dt]
 have p2:w.cell? (cY q 2)=some u2:=by simp[World.cell?,u,dt]
 obtain⟨oa,oc,rfl⟩:=K.len;have j:a.length<D.lists.length:=by rw[m.t.plan.ok.len];exact r
 obtain⟨lb,lc,lu,rfl,aa,O,z⟩:=M.at_ a.length j;have e1:D.lists[a.length]=dN D a.length:=pS j rfl;rw[e1]at z;obtain⟨ra,rc,rfl⟩:=z.len;have P:(dN D a.length).length<=65536:=m.t.plan.ok.many _ (e1▸ef j);refine gd Tryz.func216 Tryz.ntmps216 ?_;refine cX cV (cK t1 (kX (cK Z (cK p1 (kX (Ed λw1 o=>lx (by simp;omega) ?_))))));refine cX cV (cK (o.cell Z) (cK (o.cell p2) (cK (o.cell t1) (kX (iK a.length j (cK (o.cell (by rw[cG];exact O)) (kX λw2 x2=>?_)))))))
 refine eE (n:=(dN D a.length).length) (λk=>[(0,dI T),(59,i64 (dN D a.length).length),(60,i64 k)])
  (λk Q=>∃d g L' A,iu N q T D G H Q a d g L' A ((List.range k).foldl (λb i=>er D n (a++[i]) (jU (fu D a.length) ((dN D a.length).getD i []) L) b) s)/\(∀s,s<6->L' s=L s)/\
   cW (λb=>b=T\/I=some (cY b 0)) w Q/\(d=I\/∃b,w.heap.size<=b/\d=some (cY b 0))) ⟨by trivial,I,pc,L,y,(m.ext o).ext x2,λ_ _=>rfl,x2.wi (o.keep _),.inl rfl⟩ ?_ ?_ ?_
 intro k Q _ hJ;exact du ⟨rfl,rfl,by trivial,hJ⟩;rintro k w3 hk ⟨d,g,L',A,S,C,E,f⟩;refine cD (R:=λ_ F=>DK N q T D G H w3 a d L' (er D n (a++[k]) (jU (fu D a.length) ((dN D a.length).getD k []) L') ((List.range k).foldl (λb i=>er D n (a++[i]) (jU (fu D a.length) ((dN D a.length).getD i []) L) b) s)) (.returned undef) F) ((EN n hg N q T D G H w3 a d g L' A _ k hn S hk).mono λe F U=>⟨_,U.1,U.1▸U⟩) ?_;rintro v F ⟨_,W,X,L2,y2,g1,g2,g3,p⟩;refine cF ⟨by trivial,W,X,L2,y2,?_,λx B=>(g2 x B).trans (C x B),?_,?_⟩;rw[EO];rw[rC n (L:=jU (fu D a.length) ((dN D a.length).getD k []) L') (L':=jU (fu D a.length) ((dN D a.length).getD k []) L) (λx B=>by unfold jU;rw[C x B])]at g1;exact g1;refine E.trans g3 (λ_ _ h=>h) λx B l=>?_;rcases l with l|l;exact .inl l;rcases f with f|⟨c,Y,f⟩;exact .inr (f.symm.trans l);rw[f]at l;have:c=x:=cT Addr.block (cO l);omega;rcases p with p|⟨c,Y,p⟩;rcases f with f|⟨c,Y,f⟩;exact .inl (p.trans f);exact .inr ⟨c,Y,p.trans f⟩;exact .inr ⟨c,by have:=E.size;omega,p⟩;rintro F ⟨d,g,L',A,S,C,E,f⟩;exact⟨rfl,d,g,L',A,S,C,E,f⟩
theorem vv:∀n,rB n
 |0=>JR
 |n+1=>JS n (vv n)
def Nh:L6:=λN c T D d e w a f g L y s b=>vv (D.opn.length-a.length) N c T D d e w a f g L y s (by have:=b.t.len;omega) b
def Ni:DL:=λN b T D c d w a e f L y s i g j h=>EN (D.opn.length-a.length-1) (vv _) N b T D c d w a e f L y s i (by omega) g h
end Go.Proofs.W
namespace Go.Proofs.W
open Go.Conc Go.cP Go.cP.Cr Go.RowKit
noncomputable def fY:Array Oper:=#[{dst:=some 2,op:=Op.move (.const (.bool true)),type:=4,pos:= "",after:=#[],guard:=none},{dst:=some 2,op:=Op.move (.const (.bool false)),type:=4,pos:= "",after:=#[],guard:=none}]
noncomputable def l7:Code:=match V.wT with
 | .seq _ (.seq _ r)=>r
 |_=>.skip
noncomputable def iE(a:dU):Act:=(gu a).put (some 1) (.func (.func 227) #[] (mG a))
def JU{b:Array Oper}{Q:Exit->Act->cU}{o:Oper}{a:Act}{K:Act->cU}(v:cq)(c:b[i]? =some o)(d:o.guard=none)(e:(execOp a.eval o).run P w=.halt (.panic v) t)(h:Q (.panic [{v,recovered:=false}]) a t):wpOp P b Q i K a w:=by
 have f:Region.wanted o (yielded b a.tmps)=true:=by simp[Region.wanted,d]
 unfold wpOp;rw[c];simp only[f,dF];refine .inl ?_;unfold Oper.wp;rw[e];exact h
def EP{R:Ending->cU}(t:Nat)(C:w.tape w.drawn (.order 163 1)=t) (h:wpOps V.prog fY (Exit.then (l7.wp V.prog (bodyPost V.prog V.f163 R)) (bodyPost V.prog V.f163 R)) (Region.schedule (V.prog.follows .mixedOrders) fY t) (iE W) w.drew):Calls V.prog 163 W w R:=by
 intro cs;let b:Frame:={(default:Frame)with fn:=163,kind:=.normal};have m:Frame.enter jD 163 W .normal=b.at ⟨W++Array.replicate (9-W.size) fR,[]⟩ [.code V.wT]:=by simp[Frame.enter,Frame.at,V.func163,V.f163,b]
 have D:(Code.region 0 #[{dst:=some 9,op:=Op.move (.const (.bool true)),type:=4,pos:= "",after:=#[],guard:=none},{dst:=some 1,op:=Op.makeFunc (.func 227) #[] #[.tmp 0,.tmp 1,.tmp 2,.tmp 3,.tmp 4,.tmp 5,.tmp 6,.tmp 7,.tmp 8,.tmp 9],type:=0,pos:= "",after:=#[],guard:=none}] false).wp jD
  (λe a w'=>e=.normal/\a=iE W/\w'=w) ⟨W++Array.replicate (9-W.size) fR,[]⟩ w:=by
  refine om ?_;show wpOps _ _ _ [0,1] _ _;rw[wpOps_cons];refine jE (w':=w) (o:={dst:=some 9,op:=Op.move (.const (.bool true)),type:=4,pos:= "",after:=#[],guard:=none}) (.bool true) rfl rfl (by go_simp) ?_;rw[wpOps_cons];refine jE (w':=w) (o:={dst:=some 1,op:=Op.makeFunc (.func 227) #[] #[.tmp 0,.tmp 1,.tmp 2,.tmp 3,.tmp 4,.tmp 5,.tmp 6,.tmp 7,.tmp 8,.tmp 9],type:=0,pos:= "",after:=#[],guard:=none}) (.func (.func 227) #[] (mG W)) rfl rfl ?_ ⟨rfl,rfl,rfl⟩;have x:∀j:dw->cq,(execOp j {dst:=some 1,op:=Op.makeFunc (.func 227) #[] #[.tmp 0,.tmp 1,.tmp 2,.tmp 3,.tmp 4,.tmp 5,.tmp 6,.tmp 7,.tmp 8,.tmp 9],type:=0,pos:= "",after:=#[],guard:=none}).run jD w=.ok (.value (.func (.func 227) #[] #[j (.tmp 0),j (.tmp 1),j (.tmp 2),j (.tmp 3),j (.tmp 4),j (.tmp 5),j (.tmp 6),j (.tmp 7),j (.tmp 8),j (.tmp 9)])) w:=by intro j;go_simp;try rfl
  exact x _
 obtain⟨O,Q,n,⟨rfl,rfl,rfl⟩,E⟩:=D b (.code (.seq (.region 1 fY true) l7)::[]) cs;have F:Steps jD (lone (Frame.enter jD 163 W .normal) cs n) (lone (b.at (iE W) [.code (.seq (.region 1 fY true) l7)]) cs n):=by rw[m];exact .head step_seq E
 have G:Steps jD (lone (Frame.enter jD 163 W .normal) cs n) (lone (b.at (iE W) [.inRegion fY (Region.schedule (V.prog.follows .mixedOrders) fY t),.code l7]) cs n.drew):=by refine F.trans (.head step_seq (.one ?_));have:=step_region_draw (P:=jD) (b:=b) (a:=iE W) (k:=[.code l7]) (cs:=cs) (w:=n) (ops:=fY) (id:=1);rw[show n.tape n.drawn (.order b.fn 1)=t from C]at this;exact this
 have f:∀(k:List Item) (e:Exit) (a:Act) (w':cn),(e=.normal->k=[])->bodyPost jD V.f163 R e a w'->Arrives jD (lone (Frame.enter jD 163 W .normal) cs n) b k cs e a w'->∃e w' y,R e w'/\Go.Comes jD (lone (Frame.enter jD 163 W .normal) cs n) (lone y cs w') e/\y.fn=163/\y.leaving jD w' e:=by
  intro k e a w' H g d;cases e with
  |normal=>
   obtain rfl:=H rfl;obtain⟨p,v,z,q⟩:=g;exact⟨.returned v,w',_,q,Steps.trans d (.one step_end),rfl,rfl,p,rfl,V.f163,V.func163,z⟩
  |ret=>
   obtain⟨p,v,z,q⟩:=g;obtain⟨r,A⟩:=d;exact⟨.returned v,w',_,q,A,rfl,rfl,p,rfl,V.f163,V.func163,z⟩
  |panic c=>
   obtain⟨p,q⟩:=g;obtain⟨r,A⟩:=d;exact⟨.panicked c,w',_,q,A,rfl,rfl,p,V.f163,V.func163⟩
  |exit id=>exact g.elim
  |goto l=>exact g.elim
  |outgrown=>exact⟨.outgrown,w',b,g,d.resolve_left (by simp[b]),rfl,trivial⟩
 obtain⟨I,s,u,g,J⟩:=wp_ops _ _ _ h b [.code l7] cs;have i:=Arrives.of_steps G J;cases I with
 |normal=>
  obtain⟨K,L,M,B,N⟩:=g b [] cs;exact f [] K L M (λ_=>rfl) B (Arrives.of_steps i N)
 |ret=>exact f _ .ret s u (λh=>by cases h) g i
 |panic c=>exact f _ (.panic c) s u (λh=>by cases h) g i
 |exit id=>exact f _ (.exit id) s u (λh=>by cases h) g i
 |goto l=>exact f _ (.goto l) s u (λh=>by cases h) g i
 |outgrown=>exact f _ .outgrown s u (λh=>by cases h) g i
def R6:Region.schedule (V.prog.follows .mixedOrders) fY 1=[1,0]:=by kernel_rfl
def R7:Region.schedule (V.prog.follows .mixedOrders) fY 0=[0,1]:=by kernel_rfl
def Ix(c:dU)(w:cn)(h:Region.schedule (V.prog.follows .mixedOrders) fY (w.tape w.drawn (.order 163 1))=[1,0]):Calls V.prog 163 c w λe w'=>e=.panicked jh/\w'=w.drew.alloc (rA (mG c)):=by
 refine EP _ rfl ?_;rw[h];rw[wpOps_cons];refine jE (w':=w.drew) (o:={dst:=some 2,op:=Op.move (.const (.bool false)),type:=4,pos:= "",after:=#[],guard:=none}) (.bool false) rfl rfl (by go_simp) ?_;rw[wpOps_cons];refine jE (w':=w.drew) (o:={dst:=some 2,op:=Op.move (.const (.bool true)),type:=4,pos:= "",after:=#[],guard:=none}) (.bool true) rfl rfl (by go_simp) ?_;have l:10<=(iE c).tmps.size\/(iE c).tmps.size=9:=by
  have:(iE c).tmps.size=c.size+(9-c.size):=by unfold iE gu;rw[mE,mE];simp
  omega
 have m:9<=(iE c).tmps.size:=by omega
 obtain⟨a,j⟩:∃a,a=((iE c).put (some 2) (.bool false)).put (some 2) (.bool true):=⟨_,rfl⟩;have n:a.eval (.tmp 2)=.bool true:=by rw[j,u4 _ _ _ (by rw[mE];omega)]
 have p:a.eval (.tmp 1)=.func (.func 227) #[] (mG c):=by
  rw[j,qT _ _ _ _ (by simp),qT _ _ _ _ (by simp)];exact u4 _ _ _ (by
   have:(gu c).tmps.size=c.size+(9-c.size):=by unfold gu;rw[mE];simp
   omega)
 have q:a.defers=[]:=by rw[j];rfl
 have r:9<=a.tmps.size:=by rw[j,mE,mE];exact m
 show Code.wp jD l7 _ (((iE c).put (some 2) (.bool false)).put (some 2) (.bool true)) w.drew;rw[<-j];clear j;show Code.wp jD (Code.seq (Code.cond (.tmp 2) _ .skip) _) _ a w.drew;refine jX (wp_cond_true n (jX (om ?_)));show wpOps _ _ _ [0] _ _;rw[wpOps_cons];refine jE (w':=w.drew.alloc (rA (mG c))) (o:={dst:=some 3,op:=Op.box 200 (.tmp 1),type:=0,pos:= "",after:=#[],guard:=none}) (dI w.drew.me) rfl rfl ?_ ?_;have f:∀(o:Oper) (i:dw->cq),o.op=Op.box 200 (.tmp 1)->i (.tmp 1)=.func (.func 227) #[] (mG c)->(execOp i o).run jD w.drew=.ok (.value (dI w.drew.me)) (w.drew.alloc (rA (mG c))):=by rintro⟨d,op,t,b,s,g⟩ i rfl k;generalize mG c=u at k⊢;unfold rA;go_simp
 exact f _ _ rfl p;refine om ?_;show wpOps _ _ _ [0] _ _;rw[wpOps_cons];have f:∀i:dw->cq,i (.const (.iface 3 (i64 7)))=.iface 3 (i64 7)->(execOp i {dst:=none,op:=Op.panic (.const (.iface 3 (i64 7))),type:=0,pos:= "",after:=#[],guard:=none}).run jD (w.drew.alloc (rA (mG c)))=.halt (.panic (.iface 3 (i64 7))) (w.drew.alloc (rA (mG c))):=by intro i k;go_simp
 exact JU (o:={dst:=none,op:=Op.panic (.const (.iface 3 (i64 7))),type:=0,pos:= "",after:=#[],guard:=none}) _ rfl rfl (f _ rfl) ⟨by rw[tX,q],rfl,rfl⟩
def JV(a:Nat)(w:cn):(Instr.build 245 #[(0,.pointer (some ⟨a,0,none⟩))]).run V.prog w=.ok (.agg (jP ⟨a,0,none⟩)) w:=by kernel_rfl
def Nj(N:cN)(f:Nat)(D:ep)(w:cn)(Q:fg N f D w)(L:∀b,N b->b<w.heap.size)(h:Region.schedule (V.prog.follows .mixedOrders) fY (w.tape w.drawn (.order 163 1))=[0,1]):Calls V.prog 163 #[.pointer (some ⟨f,0,none⟩)] w (λe w'=>y9 D w e w'/\Ext w w'):=by
 refine EP _ rfl ?_;rw[h];rw[wpOps_cons];refine jE (w':=w.drew) (o:={dst:=some 2,op:=Op.move (.const (.bool true)),type:=4,pos:= "",after:=#[],guard:=none}) (.bool true) rfl rfl (by go_simp) ?_;rw[wpOps_cons];refine jE (w':=w.drew) (o:={dst:=some 2,op:=Op.move (.const (.bool false)),type:=4,pos:= "",after:=#[],guard:=none}) (.bool false) rfl rfl (by go_simp) ?_;have J:(gu #[dI f]).tmps.size=9:=by unfold gu;rw[mE];simp
 obtain⟨a,H⟩:∃a,a=((iE #[dI f]).put (some 2) (.bool true)).put (some 2) (.bool false):=⟨_,rfl⟩;have R:a.tmps.size=9:=by rw[H,mE,mE];unfold iE;rw[mE,J]
 have S:a.eval (.tmp 2)=.bool false:=by rw[H,u4 _ _ _ (by rw[mE];unfold iE;rw[mE,J];decide)]
 have T:a.eval (.tmp 0)=dI f:=by rw[H,qT _ _ _ _ (by simp),qT _ _ _ _ (by simp)];unfold iE;rw[qT _ _ _ _ (by simp)];unfold gu;rw[qT _ _ _ _ (by simp)];rfl
 have U:a.defers=[]:=by rw[H];rfl
 show Code.wp V.prog l7 _ (((iE _).put (some 2) (.bool true)).put (some 2) (.bool false)) w.drew;rw[<-H];clear H;show Code.wp V.prog (Code.seq (Code.cond (.tmp 2) _ .skip) _) _ a w.drew;refine jX (wp_cond_false S (wp_skip ?_));refine jX (om ?_);show wpOps _ _ _ [0] _ _;rw[wpOps_cons];refine jE (w':=w.drew) (o:={dst:=some 3,op:=Op.build 245 #[(0,.tmp 0)],type:=245,pos:= "",after:=#[],guard:=none}) (.agg (jP (cY f 0))) rfl rfl ?_ ?_;have i:=JV f w.drew;have d:∀c:dw->cq,c (.tmp 0)=dI f->(execOp c {dst:=some 3,op:=Op.build 245 #[(0,.tmp 0)],type:=245,pos:= "",after:=#[],guard:=none}).run V.prog w.drew=.ok (.value (.agg (jP (cY f 0)))) w.drew:=by intro c I;simp[execOp,I,i,Result.andThen]
 exact d _ T;show wpOps _ _ _ [] (a.put (some 3) _) _;obtain⟨A,n⟩:∃A,A=a.put (some 3) (.agg (jP (cY f 0))):=⟨_,rfl⟩;have W:A.tmps.size=9:=by rw[n,mE,R]
 have X:A.defers=[]:=by rw[n,tX,U]
 have Y:A.eval (.tmp 3)=.agg (jP (cY f 0)):=by rw[n,u4 _ _ _ (by omega)]
 rw[<-n];clear n;show Code.wp V.prog (Code.seq _ _) _ A w.drew;refine jX (om ?_);show wpOps _ _ _ [0] _ _;rw[wpOps_cons];obtain⟨p,x⟩:∃p,p=w.drew.alloc (eC f none 0 0 L0 O6):=⟨_,rfl⟩;refine jE (w':=p) (o:={dst:=some 4,op:=Op.box 245 (.tmp 3),type:=0,pos:= "",after:=#[],guard:=none}) (dI w.heap.size) rfl rfl ?_ ?_;have d:∀c:dw->cq,c (.tmp 3)=.agg (jP (cY f 0))->(execOp c {dst:=some 4,op:=Op.box 245 (.tmp 3),type:=0,pos:= "",after:=#[],guard:=none}).run V.prog w.drew=.ok (.value (dI w.heap.size)) p:=by intro c I;rw[x,<-JL];generalize jP (cY f 0)=Z at I⊢;go_simp
 exact d _ Y;show wpOps _ _ _ [] (A.put (some 4) _) _;obtain⟨B,q⟩:∃B,B=A.put (some 4) (dI w.heap.size):=⟨_,rfl⟩;have z2:B.tmps.size=9:=by rw[q,mE,W]
 have d2:B.defers=[]:=by rw[q,tX,X]
 have O:B.eval (.tmp 4)=dI w.heap.size:=by rw[q,u4 _ _ _ (by omega)]
 rw[<-q];clear q;have g:Ext w p:=by rw[x];exact(Ext.drew w).trans (Ext.alloc _ _)
 have B1:p.heap[w.heap.size]? =some (eC f none 0 0 L0 O6):=by rw[x];exact fp w.drew _
 have hS:iu N f w.heap.size D w.heap.size w.drawn p [] none 0 L0 O6 none:=
  ⟨⟨Q.same λb i=>g.block b (L b i),λb i=>⟨dE (L b i) g.size,by have:=L b i;omega,by simp⟩,B1,.inl ⟨rfl,rfl,rfl⟩,λs _=>by simp[L0],λs _ j _ _=>AQ _,fV _,λ_=>rfl⟩,rfl,(λl m k h=>by cases h),g.size,g.drawn⟩
 clear x;show Code.wp V.prog (Code.seq _ _) _ B p;refine jX (om ?_);show wpOps _ _ _ [0] _ _;rw[wpOps_cons];refine xZ (o:={dst:=some 5,op:=Op.call {callee:=.value (.func 216),args:=#[.tmp 4],argTypes:=#[243]},type:=0,pos:= "",after:=#[],guard:=none}) 216 #[dI w.heap.size] rfl rfl ?_ ((Nh N f w.heap.size D w.heap.size w.drawn p [] none 0 L0 O6 none hS).mono ?_);have d:∀c:dw->cq,c (.tmp 4)=dI w.heap.size->c (.func 216)=.func (.func 216) #[] #[]->(execOp c {dst:=some 5,op:=Op.call {callee:=.value (.func 216),args:=#[.tmp 4],argTypes:=#[243]},type:=0,pos:= "",after:=#[],guard:=none}).run V.prog p=.ok (.enter 216 #[dI w.heap.size]) p:=by intro c I q1;go_simp
 exact d _ O rfl;rintro e v ⟨rfl,aa,ab,L2,E,y,_,F,_⟩;refine .inl ⟨_,rfl,?_⟩;have G:er D (D.opn.length-([]:cz).length) [] L0 none=gN D:=rfl;rw[G]at y;obtain⟨_,_,_,⟨y0,y1,ac,y3⟩,_⟩:=iz y.t.at_;show wpOps _ _ _ [] (B.put (some 5) _) _;obtain⟨C,r⟩:∃C,C=B.put (some 5) undef:=⟨_,rfl⟩;have z3:C.tmps.size=9:=by rw[r,mE,z2]
 have d3:C.defers=[]:=by rw[r,tX,d2]
 have M:C.eval (.tmp 4)=dI w.heap.size:=by rw[r,qT _ _ _ _ (by simp),O]
 rw[<-r];clear r;show Code.wp V.prog (Code.seq _ _) _ C v;refine jX (om ?_);show wpOps _ _ _ [0] _ _;rw[wpOps_cons];refine jE (w':=v) (o:={dst:=some 6,op:=Op.fieldAddr 245 (.tmp 4) 3,type:=0,pos:= "",after:=#[],guard:=none}) (Ba w.heap.size 8) rfl rfl ?_ ?_;have d:∀c:dw->cq,c (.tmp 4)=dI w.heap.size->(execOp c {dst:=some 6,op:=Op.fieldAddr 245 (.tmp 4) 3,type:=0,pos:= "",after:=#[],guard:=none}).run V.prog v=.ok (.value (Ba w.heap.size 8)) v:=by intro c I;go_simp
 exact d _ M;show wpOps _ _ _ [] (C.put (some 6) _) _;obtain⟨z,u⟩:∃z,z=C.put (some 6) (Ba w.heap.size 8):=⟨_,rfl⟩;have z4:z.tmps.size=9:=by rw[u,mE,z3]
 have d4:z.defers=[]:=by rw[u,tX,d3]
 have e6:z.eval (.tmp 6)=Ba w.heap.size 8:=by rw[u,u4 _ _ _ (by omega)]
 rw[<-u];clear u;show Code.wp V.prog (Code.seq _ Code.ret) _ z v;refine jX (om ?_);show wpOps _ _ _ [0] _ _;rw[wpOps_cons];refine jE (w':=v) (o:={dst:=some 7,op:=Op.load 199 (.tmp 6),type:=199,pos:= "",after:=#[],guard:=none}) E.val rfl rfl ?_ ?_;have d:∀c:dw->cq,c (.tmp 6)=Ba w.heap.size 8->(execOp c {dst:=some 7,op:=Op.load 199 (.tmp 6),type:=199,pos:= "",after:=#[],guard:=none}).run V.prog v=.ok (.value E.val) v:=by intro c I;simp only[SV.val];go_simp
 exact d _ e6;show wpOps _ _ _ [] (z.put (some 7) _) _;show Code.wp V.prog Code.ret _ (z.put (some 7) E.val) v;have K:∀b,b<w.heap.size->v.heap[b]? =w.heap[b]? :=by intro b i;rw[F.block b (dE i g.size) (by rintro(h|h);omega;cases h),g.block b i]
 refine wp_ret ⟨by rw[tX,d4],E.val,?_,⟨E,rfl,?_,y.cap,K,?_⟩,⟨F.os.trans g.os,F.tape.trans g.tape,F.output.trans g.output,cZ g.size F.size,cZ g.drawn F.drawn,K⟩⟩;have P:(z.put (some 7) E.val).eval (.tmp 7)=E.val:=u4 _ _ _ (by omega);rw[kg]at P;simp[results,V.f163,P];exact y.sched.move λb Z fz i hx=>⟨i.1,hx⟩;rw[F.tape,g.tape]
def R8(a:dU)(w:cn)(h:w.tape w.drawn (.order 163 1)=1):Calls V.prog 163 a w λe b=>e=.panicked jh/\b=w.drew.alloc (rA (mG a)):=Ix a w (by rw[h];exact R6)
def TR(N:cN)(a:Nat)(D:ep)(w:cn)(c:fg N a D w)(d:∀b,N b->b<w.heap.size)(h:w.tape w.drawn (.order 163 1)=0):Calls V.prog 163 #[.pointer (some ⟨a,0,none⟩)] w (y9 D w):=(Nj N a D w c d (by rw[h];exact R7)).mono λ_ _ h=>h.1
def JW(t:Nat):Region.schedule (V.prog.follows .mixedOrders) fY t=[0,1]\/Region.schedule (V.prog.follows .mixedOrders) fY t=[1,0]:=by
 have d:Region.departs fY=false:=by kernel_rfl
 have e:Region.schedule (V.prog.follows .mixedOrders) fY t=Region.linearise .any fY t:=by unfold Region.schedule;rw[d];simp
 rw[e]
 have b:∀(n t:Nat) (L:Array Bool) (a:cz) (c:cz),((List.range fY.size).filter λi=>!L.getD i true&&((fY[i]?).map (·.after.all λe=>!Region.binds .any e||L.getD e.on false)).getD false)=c->Region.linearise.go .any fY (n+1) t L a=match c[t%c.kq]? with
  |some i=>Region.linearise.go .any fY n (t/c.kq) (L.setIfInBounds i true) (i::a)
  |none=>a.reverse:=by
  intro n t L a c h;subst h;rfl
 show Region.linearise.go .any fY 2 t #[false,false] []=_\/Region.linearise.go .any fY 2 t #[false,false] []=_;rw[b 1 t #[false,false] [] [0,1] (by kernel_rfl)];rcases(show t%2=0\/t%2=1 by omega)with h|h;have:([0,1]:cz)[t%([0,1]:cz).kq]? =some 0:=by show([0,1]:cz)[t%2]? =some 0;rw[h];rfl
 simp only[this];rw[b 0 _ (#[false,false].setIfInBounds 0 true) [0] [1] (by kernel_rfl)];have:([1]:cz)[t/([0,1]:cz).kq%([1]:cz).kq]? =some 1:=by show([1]:cz)[t/2%1]? =some 1;rw[Nat.mod_one];rfl
 simp only[this];exact .inl rfl;have:([0,1]:cz)[t%([0,1]:cz).kq]? =some 1:=by show([0,1]:cz)[t%2]? =some 1;rw[h];rfl
 simp only[this];rw[b 0 _ (#[false,false].setIfInBounds 1 true) [1] [0] (by kernel_rfl)];have:([0]:cz)[t/([0,1]:cz).kq%([0]:cz).kq]? =some 0:=by show([0]:cz)[t/2%1]? =some 0;rw[Nat.mod_one];rfl
 simp only[this];exact .inr rfl
def JX:AS:=⟨R8,TR,λN a D w b c d=>PD Ni N a D w b c d⟩
end Go.Proofs.W
variable{H N:Go.Proofs.W.Gd}{M Y:List cq}
namespace Go.Proofs.W
open Go.RowKit
def ux(R:nd):Ending->cU:=λe w=>(∃v,e=.returned v/\R v w)\/(e=.panicked jh/\QZ w)
def ux.of{R:nd}(h:Calls V.prog K W w (fi R)):Calls V.prog K W w (ux R):=h.mono λe w h=>.inl h
def iW{k:nd}{R:nd}{b:List PanicEntry->cU}(g:Calls V.prog K M.toArray w (ux R))(i:∀a,QZ a->b jh a)(h:∀v a,R v a->k v a)(c:∀f w,Sem.run V.prog (callFunc K f) w=.ok (.enter K f) w:=by intro _ _;kernel_rfl):O9 V.prog K M w k b:=by refine⟨c,g.mono ?_⟩;rintro e a (⟨v,rfl,d⟩|⟨rfl,d⟩);exact h v a d;exact i a d
def Nk(a:Addr):mG #[.pointer (some a)]=rz (.pointer (some a)):=by rfl
def EQ{D:ep}(c:fg A m D w)(a:∀b,A b->b<w.heap.size):Calls V.prog 163 #[cM m] w (ux λv w'=>Ext w w'/\∃y:SV,v=y.val/\dp (λb=>w.heap.size<=b) w' (gN D) y):=by rcases JW (w.tape w.drawn (.order 163 1))with h|h;refine(Nj A m D w c a h).mono ?_;rintro e w' ⟨⟨y,rfl,d,_⟩,f⟩;exact .inl ⟨_,rfl,f,y,rfl,d⟩;refine(Ix _ w h).mono ?_;rintro e w' ⟨rfl,rfl⟩;refine .inr ⟨rfl,m,w.me,D,A,?_,?_,fg.same (w:=w) (w':=w.drew.alloc (rA (mG #[cM m]))) (λb g=>alloc_old w.drew _ (a b g)) c,a⟩;rw[<-Nk];exact fp w.drew _;exact World.size_alloc _ _
def Q3:Sp->Int
 |none=>0
 |some (_,m,_)=>m
def uy(D:ep):Int×Bool:=(Q3 (gN D),(gN D).isSome)
def ER{s:Sp}{y:SV}(h:dp A w s y):∃a l c n,y.val=.agg #[.slice a l c,.int .i64 (Q3 s),.int .i64 n,.bool s.isSome]:=by
 cases s with
 |none=>
  have h:y=⟨none,0,0,0,0,false⟩:=h;subst h;exact⟨none,0,0,0,rfl⟩
 |some s=>
  obtain⟨l,m,n⟩:=s;obtain⟨f,g,i,k,j,o⟩:=y;obtain⟨b,d,e,p,q⟩:=h;simp only at b d e;subst b d e;exact⟨f,g,i,j,rfl⟩
def JY{wp gp mk ms n0:Nat}{f:List Sx}(h:ll wp gp mk ms H f I w)(p:∀b,A b->b<w.heap.size)(q:kQ A mk ms H w)(g:n0<=mk)(r:n0<=ms)(i:∀x∈f,tD 100000 x)(s:m<=eS H):
 Calls V.prog 116 #[cM wp,.int .i64 m] w (ux λv o=>MA n0 mk ms H A w o/\v=.tuple #[.int .i64 (uy (jo H f m)).1,.bool (uy (jo H f m)).2]):=by
 refine gd Tryz.func116 Tryz.ntmps116 ?_;refine cD (yU h p q g r i s) ?_;rintro v t ⟨u,L,rfl,z⟩;refine iW (EQ z λb j=>by obtain⟨_,_,_,_,j⟩:=j;exact cP.lt_of_heap j) (λo h=>.inr ⟨rfl,h⟩) ?_;rintro v M ⟨B,y,rfl,C⟩;obtain⟨a,l,c,n,D⟩:=ER C;rw[D];refine eD λN O E k d=>dq d λF G e=>?_;have J:Ext t F:=B.trans (E.cC G k);refine cX cV (cK (cr e rfl) (cK (cr e rfl) λP K=>.inl ⟨_,rfl,(wO n0 mk ms H A).trans _ _ _ u ((J.trans K).ma _ _ _ _ _),rfl⟩))
def JZ{b:List Sx}(h:∀x∈b,tD k x)(d:Nat):∀x∈leave1 b d,tD k x:=λx a=>by unfold leave1 at a;split at a;rename_i y c;rcases tG a with a|rfl;exact h x a;exact h y (vD c);exact h x a
theorem AU:∀{l:cz} {xs:List Sx},(∀x∈xs,tD k x)->∀x∈jz xs l,tD k x
 |[],xs,h=>h
 |d::r,xs,h=>AU (l:=r) (xs:=leave1 xs d) (JZ h d)
def MA.mf{n0 mk ms:Nat}(h:MA n0 mk ms H B w t):MF A n0 mk ms H B w t:=⟨h.1.os,h.1.tape,h.1.output,h.1.size,h.1.drawn,λx o _ a b=>h.1.block x o a b,λ_ c=>h.2 c⟩
structure LB(wp gp mk ms n0:Nat)(G:Gd)(xs:List Sx)(before:Int)(from_:Nat)(canv:Int)(wb fb ob cb:Nat)(A:Nat->Prop)(w:cn):Prop where
 h:ll wp gp mk ms G xs before w
 p:kQ A mk ms G w
 a:∀b,A b->b<w.heap.size
 b1:w.heap[wb]? =some (.cells #[cM wp] 133)
 b2:w.heap[fb]? =some (.cells #[.int .i64 from_] 3)
 b4:w.heap[cb]? =some (.cells #[.int .i64 canv] 3)
 off:∀w',(∀b cs t fz,b≠ob->w.heap[b]? =some (.cells cs t fz)->w'.heap[b]? =some (.cells cs t fz))->w.heap.size<=w'.heap.size->ll wp gp mk ms G xs before w'
 nob:wb≠ob/\fb≠ob/\cb≠ob
 ao:A ob
def LB.mf{wp gp mk ms n0:Nat}{f:List Sx}(h:LB wp gp mk ms n0 H f I m J k i j o A w)(e:MF (λx=>x=j) n0 mk ms H A w t):LB wp gp mk ms n0 H f I m J k i j o A t:=
 ⟨h.off t (λb g l n c d=>e.at_ c d) e.size,e.m h.a h.p,λb c=>dE (h.a b c) e.size,e.at_ h.nob.1 h.b1,e.at_ h.nob.2.1 h.b2,e.at_ h.nob.2.2 h.b4,λq r s=>h.off q (λb g l n c d=>r b g l n c (e.at_ c d)) (cZ e.size s),h.nob,h.ao⟩
def tt(G:Gd)(c:List Sx)(a:Nat)(b:Int)(l:cz):Bool:=(uy (jo G (jz c l) a)).2&&decide ((uy (jo G (jz c l) a)).1<=b)
def R9{wp gp mk ms n0:Nat}{r:List Sx}(h:LB wp gp mk ms n0 H r I m J k i j o A w)(C:n0<=mk)(S:n0<=ms)(D:∀q∈r,tD 100000 q)(T:m<=eS H) (U:fN w a l)(W:∀d∈l,d<r.length)(s:l.length<=100000)(E:w.heap[j]? =some (.cells #[x] 27)):
 Calls V.prog 170 #[.slice a l.length p,cM k,cM i,cM j,cM o] w (ux λv G=>MF (λq=>q=j) n0 mk ms H A w G/\v=.bool (tt H r m J l)/\G.heap[j]? =some (.cells #[.slice a l.length p] 27)):=by
 refine gd Tryz.func170 Tryz.ntmps170 ?_;have K:∀{g},MA n0 mk ms H A w g->MF (λq=>q=j) n0 mk ms H A w g:=λe=>e.mf;obtain⟨F,L⟩:∃F,F=uy (jo H (jz r l) m):=⟨_,rfl⟩;refine cX (wO n0 mk ms H A)<| .exact (cM wp) (λg f=>cu (cr (f.1.at_ h.b1) rfl) ⟨rfl,(wO n0 mk ms H A).refl _⟩)<| .rel (λu g=>∃c,u=cM c/\ll c gp mk ms H (jz r l) I g) (λu aa b ⟨c,M,N⟩ e=>⟨c,M,N.gG e.1⟩) (λg f=>?_) ?_;exact cD (GJ (h.h.gG f.1) (U.gG f.1) W s) λu B ⟨X,c,M,N⟩=>⟨⟨c,M,N⟩,X.ma _ _ _ _ _⟩;refine .exact (i64 m) (λg f=>cu (cr (f.1.at_ h.b2) rfl) ⟨rfl,(wO n0 mk ms H A).refl _⟩)<| .exact (.tuple #[i64 F.1,.bool F.2]) (λg f t O=>?_) ?_;obtain⟨c,rfl,Y⟩:∃c,t=cM c/\ll c gp mk ms H (jz r l) I g:=O;exact iW (JY Y (λb y=>dE (h.a b y) f.1.size) (f.2 h.p) C S (AU D) T) (λG h=>.inr ⟨rfl,h⟩) λv B ⟨Z,hv⟩=>⟨by rw[hv,L],Z⟩;intro g f t _;have z:=f.1.at_ E;refine dq z λB Q n=>?_;have n:sd B j #[.slice a l.kq p] 27:=n;have P:=Q.fe (f.1.at_ h.b4) h.nob.2.2;have R:MF (λq=>q=j) n0 mk ms H A w B:=(GO _ n0 mk ms H A).trans _ _ _ (K f) (MF.MO Q λq hx=>by subst hx;exact h.ao);refine⟨λy=>?_,λy=>?_⟩;refine cu (cr P rfl) (ue (.inl ⟨_,rfl,R,?_,n⟩));unfold tt;rw[<-L,y];rfl;refine .inl ⟨_,rfl,R,?_,n⟩;unfold tt;rw[<-L,y];rfl
section
variable{w:cn}{k:cq->cn->Prop}
def zb(a:ek)(i c:Nat):ek:=if c=i then a else a.map (·.add i)
def Nl(b:Nat)(n:b<=m)(o:m<=i)(h:k (.slice (zb a b i) (m-b) (i-b)) w)(f:I=(b:Nat):=by rfl)(g:ty T=some ⟨3,1,1,0⟩:=by rfl):jj V.prog (Instr.sliceAt T (.slice a m i) (some (.int .i64 I)) none none) w k:=by
 subst f;obtain⟨e,j,l⟩:=re g rfl;refine⟨_,w,?_,h⟩;have c:(b:Int)<=(m:Int):=by omega
 have d:(0:Int)<=(b:Int):=by omega
 unfold Instr.sliceAt Instr.slice;simp only[Sem.run_bind,gB j,Result.andThen_ok,Instr.sliceBounds,Instr.sliceBound,asIntOf,pure_bind,d,c,and_self,dF,Sem.run_pure,lJ l,sO,ik,eF];simp only[mT,oi,zb]
end
theorem fN.drop{w:cn}(h:fN w a l)(i:Nat)(j:l.length<=m):fN w (zb a i m) (l.drop i):=λk e=>by
 have c:i+k<l.length:=by simp at e;omega
 obtain⟨b,o,f,g⟩:=h (i+k) c;have d:¬m=i:=by omega
 refine⟨b,o+i,?_,?_⟩;unfold zb;rw[cy d,f];simp[iB];rw[show o+i+k=o+(i+k) by omega,g,List.getElem_drop]
structure PE(w2:cn)(k d:Nat)(a b:cn):Prop where
 e:cW (λx=>w2.heap.size<=x) a b
 r:∀x cs,w2.heap.size<=x->a.heap[x]? =some (.cells cs 3)->∃rI,b.heap[x]? =some (.cells rI 3)/\rI.size=cs.size/\∀j,rI[j]? =cs[j]? \/(j=k/\rI[j]? =some (.int .i64 d))
 o:Ext a b\/(∀x,x<w2.heap.size->a.heap[x]? =w2.heap[x]?)\/a.heap.size<w2.heap.size
def Ext.pe{a b:cn}(h:Ext a b)(c:cn)(k d:Nat):PE c k d a b:=⟨h.keep _,λx e _ f=>⟨e,h.at_ f,rfl,λ_=>.inl rfl⟩,.inl h⟩
def Vt(s:cn)(k d:Nat):fJ (PE s k d):=by refine⟨λw=>(Ext.refl w).pe _ _ _,λa b c h g=>⟨h.e.trans g.e (λ_ _ h=>h) λ_ _ h=>h,λx u m v=>?_,?_⟩,λw=>(Ext.drew w).pe _ _ _⟩;obtain⟨n,i,y,z⟩:=h.r x u m v;obtain⟨p,A,B,C⟩:=g.r x n m i;refine⟨p,A,B.trans y,λj=>?_⟩;rcases C j with f|f;rcases z j with q|q;exact .inl (f.trans q);exact .inr ⟨q.1,f.trans q.2⟩;exact .inr f;rcases h.o with l|l|l;rcases g.o with i|i|i;exact .inl (l.trans i);rcases fj a.heap.size s.heap.size with t|t;exact .inr (.inr t);refine .inr (.inl λx m=>?_);rw[<-i x m];exact(l.block x (by omega)).symm;exact .inr (.inr (Nat.lt_of_le_of_lt l.size i));exact .inr (.inl l);exact .inr (.inr l)
def kQ.same{A:cN}{mk ms n:Nat}{w w':cn}(h:kQ A mk ms H w)(i:w.heap.size<=n)(f:∀x,x<n->x<w.heap.size->w'.heap[x]? =w.heap[x]?):kQ A mk ms H w':=by
 have a:∀b o,w.heap[b]? =some o->w'.heap[b]? =some o:=λb o c=>by have e:=cP.lt_of_heap c;rw[f b (by omega) e];exact c
 refine h.go (λ_ h=>.inl h) (λb o v _ d=>?_) λb o _ c=>a b o c;unfold World.cell? at d⊢;split at d;rename_i j t k g;rw[a _ _ g];exact d;cases d
def PE.mf{i:cn}{k d n0 mk ms ob:Nat}{A:cN}{a b:cn}(h:PE i k d a b)(n:kQ A mk ms H i):MF (λx=>x=ob\/i.heap.size<=x) n0 mk ms H A a b:=by refine⟨h.e.os,h.e.tape,h.e.output,h.e.size,h.e.drawn,λx o c p _=>h.e.fe p λq=>c (.inr q),λr f=>?_⟩;rcases h.o with g|g|g;exact f.ext g;refine n.same (cJ _) λx c _=>?_;rw[<-g x c];rcases fj x a.me with j|j;exact h.e.block x j (by omega);have m:a.heap[x]? =none:=lT j;rw[g x c]at m;have:=Array.getElem?_eq_none_iff.1 m;omega;exact f.same (cJ _) λx c l=>h.e.block x l (by omega)
def MF.narrow{F c:cN}{n0 mk ms:Nat}{A:cN}{a b:cn}(h:MF c n0 mk ms H A a b)(e:∀x,x<a.heap.size->c x->F x):MF F n0 mk ms H A a b:=
 ⟨h.os,h.tape,h.output,h.size,h.drawn,λx o f d g=>h.block x o (λi=>f (e x (cP.lt_of_heap d) i)) d g,h.m⟩
def MF.wide{F c:cN}{n0 mk ms:Nat}{A:cN}{a b:cn}(h:MF F n0 mk ms H A a b)(d:∀x,F x->c x):MF c n0 mk ms H A a b:=
 ⟨h.os,h.tape,h.output,h.size,h.drawn,λx o e f g=>h.block x o (λi=>e (d x i)) f g,h.m⟩
def GN(n:Nat)(w:cn)(v:cq)(l:cz):Prop:=GL w v l/\∀b,cH v b->n<=b
def GN.pe{f a b:cn}{v:cq}{k:Nat}(h:GN f.heap.size a v l)(e:PE f k d a b)(m:∀h:k<l.length,l[k]=d):GN f.heap.size b v l:=by refine⟨?_,h.2⟩;rcases h.1 with n|⟨x,c,o,rfl,p,s,t,u⟩;exact .inl n;obtain⟨g,w,y,z⟩:=e.r x o (h.2 x ⟨_,_,rfl⟩) s;refine .inr ⟨x,c,g,rfl,p,w,y.trans t,λj i=>?_⟩;rcases z j with q|⟨rfl,q⟩;rw[q];exact u j i;rw[q,m i]
def fE.gn{w:cn}{v:cq}(h:fE m w v l):GN m w v l:=by refine⟨?_,λb d=>(cR.blk h d).1⟩;obtain⟨o,⟨e,rfl⟩|⟨b,c,f,p,rfl,g,a,i,q,j,r⟩⟩:=h;exact .inl ⟨oL e,rfl⟩;simp only[eI,fB,oi,cG]at a;refine .inr ⟨b,c,f,rfl,i,g,a,λk n=>?_⟩;rw[j k (by simp[jy];omega)];simp[jy,eV n]
def iX(p:cz->Bool):Nat->cz->cz->Bool×Option cz
 |0,_,a=>(p a,some a)
 |m+1,l,a=>(List.range l.length).foldl (λb i=>if b.1 then b else((iX p m (l.drop (i+1)) (a++[l.getD i 0])).1,(iX p m (l.drop (i+1)) (a++[l.getD i 0])).2.or b.2)) (false,none)
def fo(p:cz->Bool)(m:Nat)(l a:cz)(k:Nat):Bool×Option cz:=(List.range k).foldl (λb i=>if b.1 then b else((iX p m (l.drop (i+1)) (a++[l.getD i 0])).1,(iX p m (l.drop (i+1)) (a++[l.getD i 0])).2.or b.2)) (false,none)
def B2(p:cz->Bool)(m:Nat)(l a:cz)(k:Nat)(h:(fo p m l a k).1=false):fo p m l a (k+1)=((iX p m (l.drop (k+1)) (a++[l.getD k 0])).1,(iX p m (l.drop (k+1)) (a++[l.getD k 0])).2.or (fo p m l a k).2):=by
 have:fo p m l a (k+1)=if(fo p m l a k).1 then fo p m l a k else((iX p m (l.drop (k+1)) (a++[l.getD k 0])).1,(iX p m (l.drop (k+1)) (a++[l.getD k 0])).2.or (fo p m l a k).2):=by unfold fo;rw[oO,xo];rfl
 rw[this,h];rfl
def B3(p:cz->Bool)(b:Nat)(l a:cz){k:Nat}(g:k<=m)(h:(fo p b l a k).1=true):fo p b l a m=fo p b l a k:=by
 induction m with
 |zero=>obtain rfl:k=0:=by omega
        rfl
 |succ m c=>
  rcases fj k (m+1)with d|f;have e:=c (by omega);have:fo p b l a (m+1)=if(fo p b l a m).1 then fo p b l a m else((iX p b (l.drop (m+1)) (a++[l.getD m 0])).1,(iX p b (l.drop (m+1)) (a++[l.getD m 0])).2.or (fo p b l a m).2):=by unfold fo;rw[oO,xo];rfl
  rw[this,e,h];rfl;obtain rfl:k=m+1:=by omega
  rfl
theorem gO.drop(h:gO A w a l)(i:Nat)(n:l.length<=m):gO A w (zb a i m) (l.drop i):=λk e=>by
 have c:i+k<l.length:=by simp at e;omega
 obtain⟨b,o,f,g,j⟩:=h (i+k) c;have d:¬m=i:=by omega
 refine⟨b,o+i,f,?_,?_⟩;unfold zb;rw[cy d,g];simp[iB];rw[show o+i+k=o+(i+k) by omega,j,List.getElem_drop]
def PN{A:nd}{G:Array Bool}(B:GL w x l)(H:m<=w.heap.size)(f:l.length<=1000)(p:w.heap[k]? =some (.cells [Value.int .i64 s].toArray 3)) (I:∀v d,GL d v (l++[s])->(∀b,cH v b->cH x b\/m<=b)->cW (cH x) w d->(∀b a,cH x b->w.heap[b]? =some (.cells a 3)->d.heap[b]? =some (.cells a 3)\/d.heap[b]? =some (.cells (a.setIfInBounds l.length (.int .i64 s)) 3))->A v d):zV V.prog (builtin .append #[27,27] T G #[x,.slice (some ⟨k,0,none⟩) 1 i]) w A:=by
 obtain⟨o,q⟩:∃o:Obj,∀b,cH x b->w.heap[b]? =some o:=by by_cases C:∃b,cH x b;obtain⟨b,c⟩:=C;obtain⟨a,r⟩:=B.c3 c;exact⟨.cells a 3,λD t=>by rw[EH c t];exact r⟩;exact⟨.cells #[] 3,λb c=>absurd ⟨b,c⟩ C⟩
 obtain⟨u,j⟩:∃u:Obj,∀b a,cH x b->o=.cells a 3->u=.cells (a.setIfInBounds l.kq (i64 s)) 3:=by
  cases o with
  |cells a T K=>exact⟨.cells (a.setIfInBounds l.kq (i64 s)) 3,λb y _ e=>by injection e with e;rw[e]⟩
  |_=>exact⟨.cells #[] 3,λb y _ e=>by cases e⟩
 refine xk (w0:=w) B q H f p u j λv d E F=>I v d ?_ (λb c=>?_) F.k λb a c J=>?_;rcases E with⟨_,_,_,_,_,h⟩|⟨_,_,_,_,h⟩<;>exact h;rcases E with⟨D,c',z,rfl,_⟩|⟨D,c',z,rfl,_⟩;rw[mI (l':=0) (c':=0) c];exact .inl z;rw[mI (l':=0) (c':=0) c];exact .inr z;rcases F.n b _ c J with h|⟨h,g⟩;exact .inl h;exact .inr (by rw[g,j b a c h.symm])
def GL.mf{n0 mk ms:Nat}(h:GL w x l)(e:MF A n0 mk ms H B w t)(d:∀b,cH x b->¬A b):GL t x l:=by rcases h with h|⟨b,c,f,a,g,i,j⟩;exact .inl h;exact .inr ⟨b,c,f,a,g,e.at_ (d b ⟨_,_,a⟩) i,j⟩
def G1(d:Nat)(w:cn)(f:cq)(a:cz)(e:cn):Option cz->Prop
 |none=>e.heap[d]? =w.heap[d]?
 |some o=>a.length<=o.length/\∃c,e.heap[d]? =some (.cells #[c] 27)/\GL e c o/\∀b,cH c b->cH f b\/w.heap.size<=b
def TS(a b c d:Nat):cq:=.func (.func 170) #[] #[cM a,cM b,cM c,cM d]
def GL.B4(h:GL w x l)(a:w.heap[m]? =some (.cells #[y] 27)):∀b,cH x b->b≠m:=λb c e=>by subst e;obtain⟨f,d⟩:=h.c3 c;exact fS d a (by decide)
theorem ES{wp gp mk ms n0:Nat}{xs:List Sx}(an:n0<=mk)(hn:n0<=ms)(ao:∀x∈xs,tD 100000 x)(hf:m<=eS H):
 ∀(z:Nat) (l c:List Nat) (la:Option Addr) (Y:Nat) (W ov:cq) (w:cn),LB wp gp mk ms n0 H xs I m J k i j o A w->gO (λb=>b=j) w la l->l.length<=Y->l.length<=1000->(∀d∈l,d<xs.length)->GL w W c->(∀d∈c,d<xs.length)->z+c.length<=1000->w.heap[j]? =some (.cells #[ov] 27)->(∀b,cH ov b->b<w.heap.size)->
  Calls V.prog 169 #[.slice la l.length Y,W,.int .i64 z,TS k i j o] w (ux λv w'=>MF (λx=>x=j) n0 mk ms H A w w'/\v=.bool (iX (tt H xs m J) z l c).1/\G1 j w W c w' (iX (tt H xs m J) z l c).2)
 |0,l,c,la,Y,W,ov,w,hB,hl,ad,aF,ae,s,af,ap,R,aq=>by obtain⟨ba,bc,rfl,ag,aG⟩:=s.row;refine gd Tryz.func169 Tryz.ntmps169 ?_;refine ff (jZ rfl (iW (R9 hB an hn ao hf ag af (by omega) R) (λw' h=>.inr ⟨rfl,h⟩) λv y ⟨e1,hv,B⟩=>?_));subst hv;exact .inl ⟨_,rfl,e1,rfl,cJ _,_,B,s.mf e1 (s.B4 R),λb s=>.inl s⟩
 |z+1,l,c,la,Y,W,ov,w,hB,hl,ad,aF,ae,s,af,ap,R,aq=>by
  obtain⟨p,hp⟩:∃p,p=tt H xs m J:=⟨_,rfl⟩;have ar:=s.B4 R;refine gd Tryz.func169 Tryz.ntmps169 ?_;refine ff (lx (by simp;omega) (cS ?_));rw[<-hp];have aH:=(GO (λx=>x=j) n0 mk ms H A).trans;refine eE (n:=l.length) (λg=>[(0,.slice la l.length Y),(1,W),(2,i64 (z+1:Nat)),(3,TS k i j o),(16,.slice la l.length Y),(17,i64 l.length),(18,i64 g)]) (λg w'=>(fo p z l c g).1=false/\MF (λx=>x=j) n0 mk ms H A w w'/\G1 j w W c w' (fo p z l c g).2) ⟨by trivial,rfl,(GO _ _ _ _ _ _).refl _,rfl⟩ ?_ ?_ ?_;rintro g y hk hJ;exact du ⟨rfl,rfl,by trivial,hJ⟩;rintro g y hk ⟨ah,m1,C⟩;have ai:=hB.mf m1;have au:gO (λb=>b=j) y la l:=hl.go (λ_ h=>.inl h) λb Z v s hc=>m1.cell s hc;have av:GL y W c:=s.mf m1 ar;have s1:=m1.size;obtain⟨D,B,ab⟩:∃D,y.heap[j]? =some (.cells #[D] 27)/\∀b,cH D b->b<y.heap.size:=by
   cases S:(fo p z l c g).2 with
   |none=>
    rw[S]at C;exact⟨ov,(show y.heap[j]? =w.heap[j]? from C).trans R,λb s=>dE (aq b s) s1⟩
   |some Z=>
    rw[S]at C;obtain⟨_,D,M,E,_⟩:=C;exact⟨D,M,λb s=>E.blk s⟩
  have aI:=cP.lt_of_heap B;obtain⟨lb,lo,aP,rfl,K⟩:=au g hk;obtain⟨d,hd⟩:∃d,d=l[g]:=⟨_,rfl⟩;rw[<-hd]at K;have aJ:d<xs.length:=by rw[hd];exact ae _ (ef hk)
  refine fw g hk (cu K ?_);have hE:=Vt y c.length d;refine hH 12 hE (GO (λx=>x=j\/y.heap.size<=x) n0 mk ms H A) (λa b h=>h.mf ai.p) ?_;refine .exact (i64 ((g:Int)+1)) (λf _=>cF ⟨rfl,hE.refl _⟩) ?_;refine .exact (.slice (zb (some ⟨lb,lo,none⟩) (g+1) Y) (l.length-(g+1)) (Y-(g+1))) (λf _=>Nl (g+1) (by omega) ad ⟨rfl,hE.refl _⟩) ?_;refine .early rfl (λv f=>GN y.heap.size f v c) (λv a b h e=>h.pe e λh=>by omega) (λf F=>?_) ?_;have aK:GL f W c:=av.keep F.e λb s=>by have:=av.blk s;omega
  obtain⟨ba,bc,rfl,ag,aG⟩:=aK.row;exact cD (lL ag (by omega)) λu w3 ⟨e3,hu⟩=>⟨(hu.low F.e.size).gn,e3.pe _ _ _⟩;refine .early rfl (λv f=>∃N,v=.slice (some ⟨N,0,none⟩) 1 1/\y.heap.size<=N/\f.heap[N]? =some (.cells [Value.int .i64 d].toArray 3)) (λv a b ⟨N,h1,h2,h3⟩ e=>⟨N,h1,h2,?_⟩) (λf F=>eg [i64 d] 3 λw3 N e3 aw s=>⟨⟨N,rfl,cZ F.e.size aw,s⟩,e3.pe _ _ _⟩) ?_;obtain⟨aj,M,E,L⟩:=e.r N _ h2 h3;rw[M];have:aj=[Value.int .i64 d].toArray:=by
   apply KM;intro ax;rcases L ax with q|⟨q0,q⟩;exact q;have hj:ax<aj.size:=(eU.1 q).1;have E:aj.size=1:=E;obtain rfl:ax=0:=by omega
   rw[q];rfl
  rw[this];refine .early rfl (λv f=>GN y.heap.size f v (c++[d])) (λv a b h e=>h.pe e λh=>by simp) (λf F ay aL ak T=>?_) ?_;obtain⟨N,rfl,aw,az⟩:∃N,ay=.slice (some ⟨N,0,none⟩) 1 1/\y.heap.size<=N/\f.heap[N]? =some (.cells [Value.int .i64 d].toArray 3):=aL;have T:GN y.heap.size f ak c:=T;refine PN T.1 F.e.size (by omega) az λv w3 M E L X=>⟨⟨M,λb s=>(E b s).elim (T.2 b) id⟩,L.trans (cW.refl (λ_=>False) w3) (λx _ Q=>T.2 x Q) (λ_ _ h=>h.elim),λx cs Q hc=>?_,.inr (.inl λx Q=>F.e.block x Q (by omega))⟩;by_cases aA:cH ak x;rcases X x cs aA hc with q|q;exact⟨cs,q,rfl,λ_=>.inl rfl⟩;refine⟨_,q,by simp,λax=>?_⟩;by_cases hj:c.length=ax;subst hj;rcases fj c.length cs.size with hs|hs;exact .inr ⟨rfl,kI hs⟩;left;rw[lT hs,lT (by simpa using hs)];exact .inl (eo hj);exact⟨cs,L.fe hc aA,rfl,λ_=>.inl rfl⟩;refine .exact (i64 ((z+1:Nat)-1)) (λf _=>fx ⟨rfl,hE.refl _⟩) ?_;obtain⟨P,hP⟩:∃P,P=iX p z (l.drop (g+1)) (c++[d]):=⟨_,rfl⟩
  refine .spec (λv f=>v=.bool P.1/\y.heap.size<=f.heap.size/\match P.2 with
   |none=>f.heap[j]? =y.heap[j]?
   |some Z=>c.length<=Z.length/\∃t,f.heap[j]? =some (.cells #[t] 27)/\GL f t Z/\(∀b,cH t b->y.heap.size<=b)/\∃b,cH t b) (λv a b ⟨h1,h2,h3⟩ e=>⟨h1,cZ h2 e.e.size,?_⟩) (λf F al aa=>?_) ?_
  cases S:P.2 with
  |none=>
   rw[S]at h3;have h3:a.heap[j]? =y.heap[j]? :=h3;show b.heap[j]? =y.heap[j]?;rw[<-h3];exact e.e.block j (by omega) (by omega)
  |some Z=>
   rw[S]at h3;obtain⟨M,t,E,L,X,b0,g5⟩:=h3;rcases e.o with he|he|he;exact⟨M,t,he.at_ E,L.keep (he.keep λ_=>False) λ_ _ h=>h,X,b0,g5⟩;exfalso;have:=he j aI;rw[E,B]at this;have:=cO this;injection this with this;have:t=D:=by simpa using cT Array.toList this
   subst this;have:=X b0 g5;have:=ab b0 g5;omega;omega
  have aa:GN y.heap.size f al (c++[d]):=aa;have M2:MF (λx=>x=j) n0 mk ms H A y f:=(F.mf ai.p).narrow λx Q hf=>hf.elim id λh=>by omega
  have aM:=ai.mf M2;have aN:gO (λb=>b=j) f (some ⟨lb,lo,none⟩) l:=au.go (λ_ h=>.inl h) λb Z v s hc=>M2.cell s hc;have ac:f.heap[j]? =some (.cells #[D] 27):=F.e.fe B (by omega);have ih:=ES an hn ao hf z (l.drop (g+1)) (c++[d]) _ (Y-(g+1)) al D f aM (aN.drop (g+1) ad) (by simp;omega) (by simp;omega) (λx Q=>ae x (List.mem_of_mem_drop Q)) aa.1 (λx Q=>(jH.1 Q).elim (af x) λh=>by rw[iJ.1 h];exact aJ) (by simp;omega) ac (λb s=>dE (ab b s) F.e.size);rw[<-hp,<-hP]at ih;have aB:(l.drop (g+1)).length=l.length-(g+1):=by simp
  rw[aB]at ih;rw[show((z+1:Nat):Int)-1=(z:Int) by omega];refine iW ih (λw' h=>.inr ⟨rfl,h⟩) ?_;rintro v w3 ⟨m3,rfl,O⟩;refine⟨⟨rfl,cZ F.e.size m3.size,?_⟩,m3.wide λx Q=>.inl Q⟩;cases S:P.2 with
  |none=>
   rw[S]at O;have O:w3.heap[j]? =f.heap[j]? :=O;show w3.heap[j]? =y.heap[j]?;rw[O,ac,B]
  |some Z=>
   rw[S]at O;obtain⟨M,t,E,L,X⟩:=O;simp only[jA,eI,fB]at M;obtain⟨b0,c0,_,q0,_⟩:=L.v (by omega);exact⟨by omega,t,E,L,λb s=>(X b s).elim (aa.2 b) λh=>cZ F.e.size h,b0,by rw[q0];exact⟨_,_,rfl⟩⟩
  rintro f F aQ ⟨rfl,aR,hR⟩ al _ ay _ ak _;have M2:MF (λx=>x=j) n0 mk ms H A y f:=F.narrow λx Q hf=>hf.elim id λh=>by omega
  have aC:l.getD g 0=d:=by rw[getD_eq hk,hd]
  have G:=B2 p z l c g ah;rw[aC,<-hP]at G;have aD:=aH _ _ _ m1 M2;have am:G1 j w W c f (P.2.or (fo p z l c g).2):=by
   cases S:P.2 with
   |none=>
    rw[S]at hR;have hR:f.heap[j]? =y.heap[j]? :=hR;cases aE:(fo p z l c g).2 with
    |none=>
     rw[aE]at C;exact(show f.heap[j]? =w.heap[j]? from hR.trans C)
    |some Z=>
     rw[aE]at C;obtain⟨M,t,E,L,X⟩:=C;exact⟨M,t,hR.trans E,L.mf M2 (L.B4 B),X⟩
   |some Z=>
    rw[S]at hR;obtain⟨M,t,E,L,X,_⟩:=hR;exact⟨M,t,E,L,λb s=>.inr (cZ s1 (X b s))⟩
  rw[<-show(fo p z l c (g+1)).2=P.2.or (fo p z l c g).2 by rw[G]]at am;have U:(fo p z l c (g+1)).1=P.1:=by rw[G]
  refine⟨λht=>?_,λaO=>?_⟩;have e:iX p (z+1) l c=fo p z l c (g+1):=B3 p z l c (show g+1<=l.length by omega) (U.trans ht);exact .inl ⟨_,rfl,aD,by rw[e,U,ht];rfl,by rw[e];exact am⟩;exact cF ⟨by trivial,U.trans aO,aD,am⟩;rintro y ⟨ah,m1,C⟩;exact .inl ⟨_,rfl,m1,by show _=Value.bool (fo p z l c l.length).1;rw[ah];rfl,C⟩
def ll.PO{wp gp mk ms:Nat}{n:List Sx}(h:ll wp gp mk ms H n I w)(p:∀(b:Nat) (a:dU) (d:cw) (e:Nat×Nat),w.heap[b]? =some (Obj.cells a d e)->t.heap[b]? =some (Obj.cells a d e))(q:w.heap.size<=t.heap.size):ll wp gp mk ms H n I t:=by
 have cell:∀{f:Addr} {v:cq},w.cell? f=some v->t.cell? f=some v:=λ{f v} c=>by unfold World.cell? at c⊢;split at c;rename_i a d e r;rw[p _ _ _ _ r];exact c;cases c
 obtain⟨s,u,x,y,z,A⟩:=h.at_;obtain⟨B,C,D,⟨a,E,F,G⟩,J,K⟩:=h.g.at_;refine⟨⟨⟨B,C,D,⟨a,p _ _ _ _ E,F,G⟩,λk i=>?_,cell K⟩,h.g.ok,dE h.g.mlt q,dE h.g.slt q,h.g.ne,h.g.gk⟩,h.len,h.bf,s,u,cell x,cell y,cell z,λk i=>?_⟩;obtain⟨b,o,l,m,L,M⟩:=J k i;exact⟨b,o,l,cell m,cell L,cell M⟩;obtain⟨b,o,l,m⟩:=A k i;exact⟨b,o,l,λj v N=>cell (m j v N)⟩
def jF(p:cz->Bool)(l:cz)(k:Nat):Bool×cz:=(List.range k).foldl (λa m=>if a.1 then a else((iX p m l []).1,(iX p m l []).2.getD a.2)) (false,[])
def oH(p:cz->Bool)(l:cz):cz:=(jF p l (l.length+1)).2
def uz(p:cz->Bool)(l:cz)(k:Nat):jF p l (k+1)=if(jF p l k).1 then jF p l k else((iX p k l []).1,(iX p k l []).2.getD (jF p l k).2):=by unfold jF;rw[oO,xo];rfl
def B5(p:cz->Bool)(l:cz)(d:k<=m)(h:(jF p l k).1=true):jF p l m=jF p l k:=by
 induction m with
 |zero=>obtain rfl:k=0:=by omega
        rfl
 |succ m a=>
  rcases fj k (m+1)with b|c;rw[uz,a (by omega),h];rfl;obtain rfl:k=m+1:=by omega
  rfl
def Nm{wp gp mk ms n0:Nat}{f:List Sx}{s canv:Int}(h:ll wp gp mk ms H f s w)(hA:∀b,A b->b<w.heap.size)(hp:kQ A mk ms H w)(aa:n0<=mk)(hn:n0<=ms)(ab:∀x∈f,tD 100000 x)(hf:m<=eS H):
 Calls V.prog 123 #[cM wp,.int .i64 m,.int .i64 canv] w (ux λv J=>MA n0 mk ms H A w J/\∃a c,v=.slice a (oH (tt H f m canv) (dn H.tries f)).length c/\fN J a (oH (tt H f m canv) (dn H.tries f))/\(oH (tt H f m canv) (dn H.tries f)).length<=c):=by
 have ac:=h.g.uh;have h5:=ac.many;have aj:=h.len;have ai:=lN H.tries f;refine gd Tryz.func123 Tryz.ntmps123 ?_;refine ej λw1 wb e1 ak j=>ej λw2 fb X al u=>ej λw3 cb O am y=>eD λw4 B P an z=>?_;have j:w1.heap[wb]? =some (.cells #[cM wp] 133):=j;have u:w2.heap[fb]? =some (.cells #[i64 m] 3):=u;have y:w3.heap[cb]? =some (.cells #[i64 canv] 3):=y;have z:w4.heap[B]? =some (.cells #[.slice none 0 0] 27):=z;have l1:=cP.lt_of_heap j;have l2:=cP.lt_of_heap u;have l3:=cP.lt_of_heap y;have l4:=cP.lt_of_heap z;have s1:=e1.size;have s2:=X.size;have s3:=O.size;have E4:Ext w w4:=((e1.trans X).trans O).trans P;refine cu (cr ((X.trans (O.trans P)).at_ j) rfl) (cD (xh (h.ext E4)) ?_);rintro v Y ⟨N,Q⟩;obtain⟨oa,oc,rfl,_,ad⟩:=Q.row;have s4:=E4.size;have s5:=N.size
 have ae:gO (λb=>b=B) Y oa (dn H.tries f):=by
  obtain⟨a,c,R,q2,_⟩:=Q.RP (A:=λb=>b=B) λb i=>by omega
  injection R with R;rw[R];exact q2
 have Z:=E4.trans N;obtain⟨A',D⟩:∃A':Nat->Prop,A'=λx=>A x\/x=B:=⟨_,rfl⟩;have hB:LB wp gp mk ms n0 H f s m canv wb fb B cb A' Y:=by
  refine⟨h.ext Z,(hp.more (A':=A') λb i=>?_).ext Z,λb i=>?_,(X.trans (O.trans (P.trans N))).at_ j,(O.trans (P.trans N)).at_ u,(P.trans N).at_ y,λJ hc hs=>h.PO (λb cs t fz i=>hc b cs t fz (by have:=cP.lt_of_heap i;omega) (Z.at_ i)) (by omega),⟨by omega,by omega,by omega⟩,by rw[D];exact .inr rfl⟩;rw[D]at i;exact i.imp id λe=>by omega
  rw[D]at i;rcases i with i|i;have:=hA b i;omega;omega
 obtain⟨p,S⟩:∃p,p=tt H f m canv:=⟨_,rfl⟩;rw[<-S];have T:∀{E:cn} {F:cq} {l:List Nat},MF (λx=>x=B) n0 mk ms H A' Y E->GL E F l->MA n0 mk ms H A w E/\∃a c,F=.slice a l.length c/\fN E a l/\l.length<=c:=λK hg=>by refine⟨⟨K.after (Z.gG n0) λx hx=>by omega,λ_=>(K.m hB.a hB.p).fewer λb i=>by rw[D];exact .inl i⟩,?_⟩;obtain⟨a,c,R,q2,q3⟩:=hg.row;exact⟨a,c,R,q2,q3⟩
 refine cS (cF ?_);refine eE (n:=(dn H.tries f).length+1) (λk=>[(3,cM wb),(4,cM fb),(5,cM cb),(7,cM B),(8,.slice oa (dn H.tries f).length oc),(14,i64 ((dn H.tries f).length+1:Nat)),(15,i64 k)]) (λk J=>(jF p (dn H.tries f) k).1=false/\MF (λx=>x=B) n0 mk ms H A' Y J/\∃F,J.heap[B]? =some (.cells #[F] 27)/\GL J F (jF p (dn H.tries f) k).2) ⟨by trivial,rfl,(GO _ _ _ _ _ _).refl _,_,N.at_ z,.inl ⟨rfl,rfl⟩⟩ ?_ ?_ ?_;rintro k E hk hJ;exact du ⟨rfl,rfl,by trivial,hJ⟩;rintro k E hk ⟨U,K,F,q,C⟩;have af:=hB.mf K;have ih:=ES aa hn ab hf k (dn H.tries f) [] oa oc (.slice none 0 0) F E af (ae.go (λ_ h=>.inl h) λb o v i hc=>K.cell i hc) ad (by omega) (λd hd=>kO hd) (.inl ⟨rfl,rfl⟩) (λd hd=>by cases hd) (by simp;omega) q (λb i=>C.blk i);rw[<-S]at ih;refine iW ih (λJ h=>.inr ⟨rfl,h⟩) ?_;rintro v w7 ⟨m7,rfl,G⟩;have M7:=(GO (λx=>x=B) n0 mk ms H A').trans _ _ _ K m7;have r:=uz p (dn H.tries f) k;rw[U,cy (by simp)]at r;obtain⟨I,L,W⟩:∃I,w7.heap[B]? =some (.cells #[I] 27)/\GL w7 I (jF p (dn H.tries f) (k+1)).2:=by
  rw[r];cases hq:(iX p k (dn H.tries f) []).2 with
  |none=>
   rw[hq]at G;exact⟨F,(show w7.heap[B]? =E.heap[B]? from G).trans q,C.mf m7 (C.B4 q)⟩
  |some o=>
   rw[hq]at G;obtain⟨_,ag,g1,g2,_⟩:=G;exact⟨ag,g1,g2⟩
 have M:(jF p (dn H.tries f) (k+1)).1=(iX p k (dn H.tries f) []).1:=by rw[r]
 refine⟨λht=>?_,λah=>?_⟩;refine cu (cr L rfl) (.inl ⟨_,rfl,?_⟩);have e:oH p (dn H.tries f)=(jF p (dn H.tries f) (k+1)).2:=by unfold oH;rw[B5 p (dn H.tries f) (show k+1<=(dn H.tries f).length+1 by omega) (M.trans ht)]
 rw[e];exact T M7 W;exact cF ⟨by trivial,M.trans ah,M7,I,L,W⟩;rintro E ⟨U,K,F,q,C⟩;exact cu (cr q rfl) (.inl ⟨_,rfl,T K C⟩)
def Iy(D:ep)(ps:cz):Prop:=∀k (h:k<ps.length),ps[k]<(dN D k).length
def Nn(D:ep):Sp->Prop
 |none=>True
 |some (l,_,_)=>∃ps:cz,l=ps.map Int.ofNat/\ps.length=D.opn.length/\Iy D ps
theorem ET(b x:Sp):lV b x=x\/lV b x=b:=by unfold lV;split;exact .inl rfl;exact .inr rfl
theorem wl(D:ep):∀(n:Nat) (ps:cz) (L:Nat->Nat) (b:Sp),ps.length+n=D.opn.length->Iy D ps->Nn D b->Nn D (er D n ps L b)
 |0,ps,L,b,j,a,c=>by simp only[er];rcases ET b (eB D L ps)with h|h;rw[h];unfold eB;split;trivial;exact⟨ps,rfl,by omega,a⟩;rw[h];exact c
 |n+1,ps,L,b,j,a,c=>by
  simp only[er]
  have d:∀(g:cz) (b:Sp),(∀i∈g,i<(dN D ps.length).length)->Nn D b->Nn D (g.foldl (λb i=>er D n (ps++[i]) (jU (fu D ps.length) ((dN D ps.length).getD i []) L) b) b):=by
   intro g;induction g with
   |nil=>intro b _ c;exact c
   |cons i r l=>
    intro b e c;rw[qa];refine l _ (λx m=>e x (iw _ m)) (wl D n _ _ _ (by simp;omega) (λk o=>?_) c);rcases fj k ps.length with f|p;rw[nU f];exact a k f;obtain rfl:k=ps.length:=by simp at o;omega
    simp only[vA (cJ _),mZ,oN];exact e i iP
  exact d _ b (λi q=>gR.1 q) c
theorem EU(D:ep):Nn D (gN D):=wl D _ [] L0 none (by simp) (λk a=>by simp at a) trivial
def mA(D:ep)(ps:cz):Nat->Nat->Nat
 |0=>L0
 |k+1=>jU (fu D k) ((dN D k).getD (ps.getD k 0) []) (mA D ps k)
def tu(G:Gd)(L:Nat->Nat)(k:Nat):List (Nat×cz):=(List.range k).flatMap λs=>((gH G (L s)).getD []).map λl=>(s,l)
def zd(G:Gd)(D:ep):Option (List (Nat×cz)):=match gN D with
 |none=>none
 |some (l,_,_)=>some (tu G (mA D (l.map Int.toNat) l.length) 6)
theorem wm(G:Gd)(L:Nat->Nat)(k:Nat):tu G L (k+1)=tu G L k++((gH G (L k)).getD []).map λl=>(k,l):=by unfold tu;rw[oO,List.flatMap_append];simp
theorem zf{G:Gd}{L:Nat->Nat}:∀k,(tu G L k).length<=5*k
 |0=>cJ _
 |k+1=>by
  rw[wm,jA,tF];have:=zf (G:=G) (L:=L) k;have a:((gH G (L k)).getD []).length<=5:=by
   cases h:gH G (L k)with
   |none=>simp
   |some b=>exact pR h
  omega
theorem zg{s:Nat}{a:List cz}(h:gH H s=some a):∀l∈a,l.length<=5:=λl b=>by unfold gH at h;split at h;obtain rfl:=cO h;cases b;obtain⟨c,_,rfl⟩:=il.1 h;obtain⟨g,_,rfl⟩:=mq.1 b;exact ut
def sK:List (Nat×cz)->dr->dr
 |p::r,u::s=>.int .i64 p.1::u::sK r s
 |_,_=>[]
theorem uA(p:Nat×cz)(u:cq):∀(ps:List (Nat×cz)) (a:dr),a.length=ps.length->sK (ps++[p]) (a++[u])=sK ps a++[.int .i64 p.1,u]
 |[],[],_=>rfl
 |q::r,v::s,h=>by simp only[qx,sK];rw[uA p u r s (by simpa using h)]
theorem AV:∀(ps:List (Nat×cz)) (a:dr),a.length=ps.length->(sK ps a).length=2*ps.length
 |[],[],_=>rfl
 |q::r,v::s,h=>by simp only[sK,eI];rw[AV r s (by simpa using h)];omega
theorem AW:∀(ps:List (Nat×cz)) (a:dr),a.length=ps.length->∀k (h:k<ps.length),(sK ps a)[2*k]? =some (.int .i64 ps[k].1)/\(sK ps a)[2*k+1]? =a[k]?
 |q::r,v::s,h,0,_=>⟨rfl,rfl⟩
 |q::r,v::s,h,k+1,b=>by have:=AW r s (by simpa using h) k (by simpa using b);rw[show 2*(k+1)=2*k+1+1 by omega];simp only[sK,Ad,Ht];exact this
def ml(n0:Nat)(w:cn)(v:cq)(ps:List (Nat×cz)):Prop:=∃a:dr,a.length=ps.length/\cR n0 29 [.int .i64 0,.slice none 0 0] w v ps.length (sK ps a)/\∀k (h:k<ps.length),∃u,a[k]? =some u/\fE n0 w u ps[k].2
def vw(w:cn)(a:ek)(ps:List (Nat×cz)):Prop:=∀k (h:k<ps.length),∃b o c d,a=some ⟨b,o,none⟩/\w.cell? ⟨b,o+k*2,none⟩=some (.int .i64 ps[k].1)/\w.cell? ⟨b,o+k*2+1,none⟩=some (.slice c ps[k].2.length d)/\fN w c ps[k].2/\ps[k].2.length<=d
section
variable{n0:Nat}{w w':cn}{v:cq}{ps:List (Nat×List Nat)}
theorem ml.nil(n0:Nat)(w:cn):ml n0 w (.slice none 0 0) []:=⟨[],rfl,cR.nil _ _ _ _,λk a=>by simp at a⟩
theorem ml.gG{m:Nat}(h:ml n0 w v ps)(e:iV m w w'):ml n0 w' v ps:=by obtain⟨a,b,c,d⟩:=h;refine⟨a,b,c.gG e,λk f=>?_⟩;obtain⟨u,g,i⟩:=d k f;exact⟨u,g,cR.gG i e⟩
theorem ml.ext(h:ml n0 w v ps)(e:Ext w w'):ml n0 w' v ps:=h.gG (e.gG 0)
theorem ml.low{a:Nat}(h:ml n0 w v ps)(b:a<=n0):ml a w v ps:=by obtain⟨c,d,e,f⟩:=h;exact⟨c,d,e.low b,λk g=>by obtain⟨u,i,j⟩:=f k g;exact⟨u,i,j.low b⟩⟩
theorem ml.blk(h:ml n0 w v ps){b:Nat}(a:cH v b):n0<=b/\b<w.heap.size:=by obtain⟨d,_,c,_⟩:=h;exact c.blk a
theorem ml.row(h:ml n0 w v ps):∃a c,v=.slice a ps.length c/\vw w a ps/\ps.length<=c:=by obtain⟨e,f,⟨z,⟨j,rfl⟩|⟨b,c,A,B,rfl,g,C,l,D,i,E⟩⟩,m⟩:=h;exact⟨none,0,by rw[j],λk d=>by omega,by omega⟩;refine⟨_,c,rfl,λk d=>?_,l⟩;obtain⟨u,n,o⟩:=m k d;obtain⟨p,q,rfl,r,s⟩:=o.row;obtain⟨t,x⟩:=AW ps e f k d;have y:=AV ps e f;refine⟨b,0,p,q,rfl,cr g ?_,cr g ?_,r,s⟩;rw[cG,Nat.mul_comm,i _ (by omega)];exact t;rw[cG,Nat.mul_comm,i _ (by omega),x];exact n
theorem PP{k:nd}{r:Array Bool}(h:ml n0 w v ps)(m:n0<=w.heap.size){b c:Nat}{u:cq}{p:Nat×cz}(n:fE n0 w u p.2)(s:w.heap[b]? =some (.cells [Value.int .i64 p.1,u].toArray 29))(d:ps.length+1<=1000000) (t:∀e w',ml n0 w' e (ps++[p])->(∀W,Ext W w->W.heap.size<=n0->Ext W w')->cW (cH v) w w'->(∀b,cH e b->cH v b\/w.heap.size<=b)->k e w'):zV V.prog (builtin .append #[26,26] T r #[v,.slice (some ⟨b,0,none⟩) 1 c]) w k:=by
 obtain⟨y,o,j,z⟩:=h;have f:u.oneCell'=true:=by obtain⟨a,c,rfl,_⟩:=fE.row n;rfl
 refine gq RN j m s d (λe w' A l B=>t e w' ⟨y++[u],by simp[o],by rw[uA _ _ _ _ o];simpa using A,λi C=>?_⟩ (λW D E=>D.ia l j E) l B) rfl (by show ri [u]=true;simp[ri,f]);rcases fj i ps.length with g|F;obtain⟨x,G,q⟩:=z i g;refine⟨x,by rw[nT (by omega)];exact G,?_⟩;rw[nU g];exact cR.keep q l (kN q j (by decide));obtain rfl:i=ps.length:=by simp at C;omega
 refine⟨u,by rw[oM (by omega)];simp[o],?_⟩;simp only[vA (cJ _),mZ,oN];exact cR.keep n l (kN n j (by decide))
end
def PQ(a:Nat)(L:Nat->Nat)(w:cn):Prop:=w.heap[a]? =some (.cells #[.int .u8 (L 0),.int .u8 (L 1),.int .u8 (L 2),.int .u8 (L 3),.int .u8 (L 4),.int .u8 (L 5)] 204)
theorem PQ.cell{a:Nat}{L:Nat->Nat}{w:cn}(h:PQ a L w){s:Nat}(b:s<6):w.cell? ⟨a,s,none⟩=some (.int .u8 (L s)):=by
 have:s=0\/s=1\/s=2\/s=3\/s=4\/s=5:=by omega
 rcases this with rfl|rfl|rfl|rfl|rfl|rfl<;>exact cr h rfl
theorem Sa{w:cn}{k:cU}{a:Nat}{L:Nat->Nat}(h:PQ a L w)(s v:Nat)(e:s<6)(b:∀w',cW (λx=>x=a) w w'->PQ a (Gp L s v) w'->k w'):DO V.prog (Instr.storeAt 154 (.pointer (some ⟨a,0+s,none⟩)) (.int .u8 v)) w k:=by
 have:s=0\/s=1\/s=2\/s=3\/s=4\/s=5:=by omega
 rcases this with rfl|rfl|rfl|rfl|rfl|rfl<;>exact dq h λw' c d=>b w' c (by unfold PQ;rw[d];rfl)
end Go.Proofs.W
variable{D E:Bool}
namespace Go.Proofs.W
open Go.RowKit
def PS{k:nd}(L:Nat->Nat)(s:Nat)(a:s<6)(h:k (.int .u8 (L s)) w):jj V.prog (Instr.index 204 (.agg #[.int .u8 (L 0),.int .u8 (L 1),.int .u8 (L 2),.int .u8 (L 3),.int .u8 (L 4),.int .u8 (L 5)]) (.int .i64 s)) w k:=by
 have:s=0\/s=1\/s=2\/s=3\/s=4\/s=5:=by omega
 rcases this with rfl|rfl|rfl|rfl|rfl|rfl;exact⟨_,w,Dq _ _ _ _ _ _ w,h⟩;exact⟨_,w,Ds _ _ _ _ _ _ w,h⟩;exact⟨_,w,Dt _ _ _ _ _ _ w,h⟩;exact⟨_,w,Dv _ _ _ _ _ _ w,h⟩;exact⟨_,w,Dw _ _ _ _ _ _ w,h⟩;exact⟨_,w,Dx _ _ _ _ _ _ w,h⟩
theorem zh{D:ep}{ps:cz}(a:H.doors.length<=5)(b:∀d∈D.opn,d<H.doors.length):∀k,k<=D.opn.length->∀s,nP H (mA D ps k s)
 |0,_,s=>nP.zero H
 |k+1,e,s=>by have c:=zh (ps:=ps) a b k (by omega) s;simp only[mA,jU];split;exact c.qi (b _ (by unfold fu;rw[getD_eq (by omega)];exact ef _)) a;exact c
def Jw.rows{o:Option (List cz)}(h:Jw A o x D w):∃a c,x=.slice a (o.getD []).length c/\lz A w a (o.getD []):=by
 cases o with
 |none=>exact⟨none,0,h.1,λk b=>by simp at b⟩
 |some f=>
  obtain⟨_,a,c,d,e,_⟩:=h;exact⟨a,c,d,e⟩
def TT(a:Nat)(o:Option (List (Nat×cz)))(v:cq)(w:cn):Prop:=match o with
 |none=>v=.tuple #[.slice none 0 0,.bool false]
 |some b=>∃u,v=.tuple #[u,.bool true]/\ml a w u b
def PT{wp gp mk ms n0:Nat}{G:Gd}{xs:List Sx}(h:ll wp gp mk ms G xs I w)(hA:∀b,A b->b<w.heap.size)(hp:kQ A mk ms G w)(ay:n0<=mk)(hn:n0<=ms)(aV:∀x∈xs,tD 100000 x)(hf:m<=eS G):
 Calls V.prog 117 #[cM wp,.int .i64 m] w (ux λv z=>MA n0 mk ms G A w z/\TT w.heap.size (zd G (jo G xs m)) v z):=by
 have az:=h.g.uh;have h5:=az.many;have aA:=h.len;refine gd Tryz.func117 Tryz.ntmps117 ?_;refine cD (yU h hA hp ay hn aV hf) ?_;rintro v w1 ⟨m1,pb,rfl,hP⟩;have hN:∀b,EJ w.heap.size w1 b->b<w1.heap.size:=λb q=>by obtain⟨_,_,_,_,q⟩:=q;exact cP.lt_of_heap q
 refine iW (EQ hP hN) (λz h=>.inr ⟨rfl,h⟩) ?_;rintro v w2 ⟨e2,y,rfl,X⟩;have hD:∀d∈(jo G xs m).opn,d<G.doors.length:=λd hd=>by rw[<-aA];exact kO hd
 have B:=EF az aA m;have al:=EU (jo G xs m);unfold zd;obtain⟨D,aW⟩:∃D,D=jo G xs m:=⟨_,rfl⟩;rw[<-aW]at hP X hD B al⊢;obtain⟨ya,yl,yc,ym,yk,yb⟩:=y;refine eD λw3 sb e3 aX aB=>dq aB λw4 k4 F=>?_;have F:w4.heap[sb]? =some (.cells #[.slice ya yl yc,i64 ym,i64 yk,.bool yb] 199):=F;have am:Ext w2 w4:=e3.cC k4 aX;have an:Ext w1 w4:=e2.trans am;have s2:=e2.size;have bn:=an.size;cases hq:gN D with
 |none=>
  rw[hq]at X;have X:(⟨ya,yl,yc,ym,yk,yb⟩:SV)=⟨none,0,0,0,0,false⟩:=X;injection X with _ _ _ _ _ X;subst X;exact cu (cr F rfl) (ei (jZ rfl (.inl ⟨_,rfl,(wO n0 mk ms G A).trans _ _ _ m1 (an.ma _ _ _ _ _),rfl⟩)))
 |some s=>
  obtain⟨l,mm,nn⟩:=s;rw[hq]at X al;obtain⟨r,rfl,bo,aY⟩:=al;obtain⟨y1,y2,y3,y4,y5⟩:=X;simp only at y1 y2 y3 y4 y5;subst y3;have y4:yl=r.length:=by rw[y4];simp
  subst y4
  have aZ:∀i (W:i<r.length),∃b,ya=some ⟨b,0,none⟩/\w1.heap.size<=b/\w2.cell? ⟨b,i,none⟩=some (i64 r[i]):=λi W=>by
   rcases y5 with⟨h0,_⟩|⟨_,b,g1,g2,g3,_,fz,_,g4⟩;have:=cT List.length h0;simp at this;rw[this]at W;simp at W;refine⟨b,g2,g1,?_⟩;simp only[World.cell?,g4];have:(fP (r.map Int.ofNat) yc)[i]? =some (i64 r[i]):=by unfold fP;simp[List.getElem?_append,W]
   simpa using this
  clear y5;refine cu (cr F rfl) (ei (lx rfl (eD λw5 O e5 bp ae=>?_)));have a0:PQ O L0 w5:=ae;have aC:=an.trans e5;have a1:=am.trans e5;have bq:=cP.lt_of_heap ae;have a2:fg (EJ w.heap.size w1) pb D w5:=hP.same λb q=>aC.block b (hN b q);obtain⟨wk,u1,u2,fz,_,af,a3,aD⟩:=a2.at_;have H:∀{b:Nat},EJ w.heap.size w1 b->¬b=O:=λq e=>by have:=hN _ q;omega
  have c1:∀{z},cW (λx=>x=O) w5 z->z.cell? ⟨pb,1,none⟩=some u1:=λk=>k.eP (by simp only[World.cell?,af];rfl) (H hP.lt);have c2:∀{z},cW (λx=>x=O) w5 z->z.cell? ⟨pb,2,none⟩=some u2:=λk=>k.eP (by simp only[World.cell?,af];rfl) (H hP.lt);have br:=cP.lt_of_heap F;refine cu (cr (e5.at_ F) rfl) (cS ?_);refine eE (n:=r.length) (λi=>[(0,cM wp),(6,cM pb),(8,cM O),(29,.slice ya r.length yc),(30,i64 r.length),(31,i64 i)]) (λi z=>cW (λx=>x=O) w5 z/\PQ O (mA D r i) z) ⟨by trivial,cW.refl _ _,a0⟩ ?_ ?_ ?_;rintro i w6 W hJ;exact du ⟨rfl,rfl,by trivial,hJ⟩;rintro i w6 W ⟨k6,Y⟩;have bs:i<5:=by have:=B.five;omega
  obtain⟨ao,rfl,bm,aE⟩:=aZ i W;have ag:w6.cell? ⟨ao,i,none⟩=some (i64 r[i]):=k6.eP (a1.cell aE) (λ(e:ao=O)=>by have:=rq aE;have:=am.size;omega);obtain⟨n,aF⟩:∃n,n=r[i]:=⟨_,rfl⟩;have C:=aY i W;rw[<-aF]at ag C;refine fw i W (cu (by rw[cG];exact ag) ?_);have P:i<D.lists.length:=by rw[B.len];omega
  have Z:i<D.opn.length:=by omega
  obtain⟨b2,bt,ui,a4,aG,a5,a6⟩:=aD.at_ i P;have aH:dN D i=D.lists[i]:=by unfold dN;rw[getD_eq P]
  rw[aH]at C;obtain⟨b3,bu,bv,a7,aI,a8,Q⟩:=a6.at_ n C;obtain⟨a9,ba,ap⟩:=Q.len;obtain⟨t,E⟩:∃t,t=D.lists[i][n]:=⟨_,rfl⟩;rw[<-E]at Q ap;have aJ:∀s∈t,s<6:=by rw[E];exact B.shift _ (ef P) _ (ef C)
  have aK:t.length<=65536:=by rw[E];exact B.long _ (ef P) _ (ef C)
  refine cu (c2 k6) ?_;rw[a4];refine fw i P (cu (by rw[cG];exact k6.eP a5 (H aG)) ?_);rw[a7];refine fw n C (cu (by rw[cG];exact k6.eP a8 (H aI)) ?_);rw[ap];have R:mA D r (i+1)=jU (fu D i) t (mA D r i):=by simp only[mA];rw[aH,getD_eq W,<-aF,getD_eq C,E]
  obtain⟨d,hd⟩:∃d,d=fu D i:=⟨_,rfl⟩;have aL:d=D.opn[i]:=by rw[hd];unfold fu;rw[getD_eq Z]
  have aq:d<5:=by have:=hD d (by rw[aL];exact ef Z);omega
  rw[<-hd]at R;obtain⟨b4,bw,ud,bc,aM,bd,ar⟩:=a3.at_ i Z;have ar:ud=i64 d:=by rw[aL];exact ar
  subst ar;have ah:∀s,s<6->mA D r i s<32:=λs _=>(zh h5 hD i (by omega) s).1;refine cS ?_;refine eE (n:=t.length) (λj=>[(0,cM wp),(6,cM pb),(8,cM O),(9,i64 i),(29,.slice (some ⟨ao,0,none⟩) r.length yc),(30,i64 r.length),(31,i64 i),(45,.slice a9 t.length ba),(46,i64 t.length),(47,i64 j)]) (λj z=>cW (λx=>x=O) w5 z/\PQ O (jU d (t.take j) (mA D r i)) z) ⟨by trivial,k6,?_⟩ ?_ ?_ ?_;have:jU d (t.take 0) (mA D r i)=mA D r i:=by funext s;simp[jU]
  rw[this];exact Y;rintro j w7 J hJ;exact du ⟨rfl,rfl,by trivial,hJ⟩;rintro j w7 J ⟨k7,S⟩;obtain⟨b5,bx,us,aa,aN,be,au⟩:=Q.at_ j J;obtain⟨s,hs⟩:∃s,s=t[j]:=⟨_,rfl⟩;have au:us=i64 s:=by rw[hs];exact au
  subst au;have K:s<6:=by rw[hs];exact aJ _ (ef J)
  rw[ap]at aa;injection aa with aa _ bz;subst aa;refine fw j J (cu (by rw[cG];exact k7.eP be (H aN)) ?_);have aO:jU d (t.take j) (mA D r i) s<32:=Bz aq ah s K;refine cX cV (pG s 6 K (cK (by rw[cG];exact S.cell K) (cK (c1 k7) ?_)));rw[bc];refine iK i Z (cK (by rw[cG];exact k7.eP bd (H aM)) (iC cV _ (λw8 e8=>xf _ d w8 aO aq) (pG s 6 K λw8 e8=>?_)));have bf:PQ O (jU d (t.take j) (mA D r i)) w8:=e8.at_ S;refine Sa bf s _ K λw9 k9 bg=>cF ⟨by trivial,(k7.trans (e8.keep λ_=>False) (λ_ _ h=>h) λ_ _ h=>h.elim).trans k9 (λ_ _ h=>h) λ_ _ h=>h,?_⟩;have:=Ay (L:=mA D r i) aq ah j J (by rw[<-hs];exact K);rw[<-hs]at this;rw[<-this];exact bg;rintro w7 ⟨k7,S⟩;rw[mW,<-R]at S;exact cF ⟨by trivial,k7,S⟩;rintro w6 ⟨k6,Y⟩;have aK:(List.map Int.ofNat r).length=r.length:=by simp
  have aP:(List.map Int.ofNat r).map Int.toNat=r:=by simp[Ct]
  simp only[aK,aP];obtain⟨f,aQ⟩:∃f,f=mA D r r.length:=⟨_,rfl⟩;rw[<-aQ]at Y⊢;have bh:∀s,nP G (f s):=λs=>by rw[aQ];exact zh h5 hD _ (by omega) s
  have bi:Ext w1 w6:=aC.cC k6 (by omega);have m6:MA n0 mk ms G A w w6:=(wO n0 mk ms G A).trans _ _ _ m1 (bi.ma _ _ _ _ _);refine dJ (vs:=[.int .u8 (f 0),.int .u8 (f 1),.int .u8 (f 2),.int .u8 (f 3),.int .u8 (f 4),.int .u8 (f 5)]) (λj v J=>by rw[cG];exact cr Y (by simpa using J)) ?_;have av:∀b,¬cH (.slice none 0 0) b:=λb q=>by obtain⟨_,_,q⟩:=q;cases q
  refine gT (n:=6) (λk v=>[(0,cM wp),(13,v),(66,.agg #[.int .u8 (f 0),.int .u8 (f 1),.int .u8 (f 2),.int .u8 (f 3),.int .u8 (f 4),.int .u8 (f 5)]),(67,i64 k)]) (λk v z=>iV n0 w z/\kQ (λx=>A x\/cH v x) mk ms G z/\ml w.heap.size z v (tu G f k)) (.slice none 0 0) ⟨by trivial,m6.1,(m6.2 hp).more λb q=>q.elim .inl λq=>absurd q (av b),ml.nil _ _⟩ ?_ ?_ ?_;rintro k v w7 hk hJ;exact du ⟨rfl,rfl,by trivial,hJ⟩;rintro k v w7 hk ⟨m7,ab,ac⟩;have h7:=h.gG m7;have s7:=m7.size;obtain⟨sa,sc,g1,g2,g3,g4⟩:=h7.at_;refine PS f k hk (cu g1 (cD (yN h7.g (λb q=>q.elim (λq=>by have:=hA b q;omega) λq=>(ac.blk q).2) ab ay hn (bh k)) ?_));rintro v8 w8 ⟨m8,u,b,rfl,bj⟩;have M8:=m7.trans m8.1;obtain⟨a,c,rfl,ai⟩:=bj.rows;obtain⟨M,aw⟩:∃M,M=(gH G (f k)).getD []:=⟨_,rfl⟩;rw[<-aw]at ai⊢;have aR:M.length<=5/\∀l∈M,l.length<=5:=by
   rw[aw];cases hw:gH G (f k)with
   |none=>exact⟨by simp,λl hl=>by cases hl⟩
   |some bA=>exact⟨pR hw,zg hw⟩
  have bB:=zf (G:=G) (L:=f) k;refine cS (gT (n:=M.length) (λj v=>[(0,cM wp),(13,v),(14,i64 k),(66,.agg #[.int .u8 (f 0),.int .u8 (f 1),.int .u8 (f 2),.int .u8 (f 3),.int .u8 (f 4),.int .u8 (f 5)]),(67,i64 k),(80,.slice a M.length c),(81,i64 M.length),(82,i64 j)]) (λj v z=>iV n0 w z/\kQ (λx=>A x\/cH v x) mk ms G z/\ml w.heap.size z v (tu G f k++(M.take j).map λl=>(k,l))/\lz (λx=>A x\/cH v x) z a M) v ⟨by trivial,M8,m8.2 ab,by simpa using ac.gG m8.1,ai⟩ ?_ ?_ ?_);rintro j v w9 J hJ;exact du ⟨rfl,rfl,by trivial,hJ⟩;rintro j v w9 J ⟨m9,ax,ad,aS⟩;obtain⟨bb,oo,a',c',_,rfl,hc,bk,_⟩:=aS j J;refine fw j J (cu hc (cD (lL bk.n (by have:=aR.2 _ (ef J);omega)) λu bC hu=>?_));obtain⟨T,hu⟩:=hu;obtain⟨ua,uc,rfl,_,_⟩:=hu.row;have s9:=m9.size;have bD:=T.size;refine dS (.agg #[i64 k,.slice ua M[j].length uc]) (eg [i64 k,.slice ua M[j].length uc] 29 λaT nb N bE q=>?_);have bl:iV n0 w aT:=m9.trans ((T.trans N).gG n0);have aj:=(ad.ext T).ext N;have U:=(ax.ext T).ext N;have aU:lz (λx=>A x\/cH v x) aT (some ⟨bb,oo,none⟩) M:=aS.gG (n0:=0) ((T.trans N).gG 0);refine PP (p:=(k,M[j])) aj (by have:=N.size;omega) (cR.ext (hu.low (by omega)) N) q (by simp;omega) λv' bF g1 g2 g3 g4=>cF ⟨v',by trivial,?_,?_,?_,?_⟩;obtain⟨us,_,q2,_⟩:=aj;exact bl.ia g3 q2 (cJ _);exact U.go (λb q=>q.elim (λq=>.inl (.inl q)) λq=>(g4 b q).imp .inr id) (λb o v q hc=>g3.eP hc λhf=>q (.inr hf)) λb o q ho=>g3.fe ho λhf=>by rcases q with rfl|rfl;exact U.ak (.inr hf);exact U.asm (.inr hf)
  rw[jc J,vB,<-List.append_assoc];exact g1;exact aU.go (λb q=>q.elim (λq=>.inl (.inl q)) λq=>(g4 b q).imp .inr id) λb o v q hc=>g3.eP hc λhf=>q (.inr hf);rintro v w9 ⟨m9,ax,ad,_⟩;rw[mW]at ad;refine cF ⟨v,by trivial,m9,ax,?_⟩;rw[wm,<-aw];exact ad;rintro v w7 ⟨m7,ab,ac⟩;exact .inl ⟨_,rfl,⟨m7,λ_=>ab.fewer λb q=>.inl q⟩,_,rfl,ac⟩
def nJ{b:Type}(a:b->Nat)(es:List b):Nat->List b
 |0=>es
 |j+1=>match es[j+1]?,es[j]? with
  |some x,some y=>if a x<a y then nJ a ((es.set (j+1) y).set j x) j else es
  |_,_=>es
def lO{b:Type}(a:b->Nat)(es:List b):Nat->List b
 |0=>es
 |k+1=>nJ a (lO a es k) (k+1)
def pf{a:Type}(b:a->Nat)(es:List a):List a:=lO b es (es.length-1)
theorem AX{b:Type}(a:b->Nat):∀(j:Nat) (es:List b),(nJ a es j).length=es.length
 |0,es=>rfl
 |j+1,es=>by simp only[nJ];split;split;rw[AX a j];simp;rfl;rfl
theorem pT{b:Type}(a:b->Nat)(es:List b):∀k,(lO a es k).length=es.length
 |0=>rfl
 |k+1=>by simp only[lO];rw[AX,pT a es k]
theorem AY{d:Type}(c:d->Nat):∀(j:Nat) (es:List d) (x:d),x∈nJ c es j->x∈es
 |0,es,x,h=>h
 |j+1,es,x,h=>by simp only[nJ]at h;split at h;rename_i a b e f;split at h;have:=AY c j _ x h;rcases tG this with h|rfl;rcases tG h with h|rfl;exact h;exact vD f;exact vD e;exact h;exact h
theorem tv{b:Type}(a:b->Nat)(es:List b):∀(k:Nat) (x:b),x∈lO a es k->x∈es
 |0,x,h=>h
 |k+1,x,h=>tv a es k x (AY a _ _ x h)
theorem AZ{c d:Type}(b:c->Nat)(a:d->Nat)(f:c->d)(e:∀x,a (f x)=b x):∀(j:Nat) (es:List c),nJ a (es.map f) j=(nJ b es j).map f
 |0,es=>rfl
 |j+1,es=>by
  simp only[nJ,so];cases g:es[j+1]? with
  |none=>rfl
  |some x=>
   cases h:es[j]? with
   |none=>rfl
   |some y=>
    simp only[jJ,e];split;rw[<-AZ b a f e j];simp;rfl
theorem zi{c d:Type}(b:c->Nat)(a:d->Nat)(f:c->d)(e:∀x,a (f x)=b x)(es:List c):∀k,lO a (es.map f) k=(lO b es k).map f
 |0=>rfl
 |k+1=>by simp only[lO];rw[zi b a f e es k,AZ b a f e]
def J0{c d:Type}(b:c->Nat)(a:d->Nat)(f:c->d)(e:∀x,a (f x)=b x)(es:List c):pf a (es.map f)=(pf b es).map f:=by unfold pf;rw[tF,zi b a f e]
structure El where
 s:Nat
 a:Option Addr
 c:Nat
 l:List Nat
def uL(e:El):dr:=[.int .i64 e.s,.slice e.a e.l.length e.c]
structure pg(sb:Nat)(es:List El)(w:cn):Prop where
 out:∃cs,w.heap[sb]? =some (.cells cs 29)/\es.length*2<=cs.size/\∀k (h:k<es.length) j v,(uL es[k])[j]? =some v->cs[k*2+j]? =some v
section
variable{w:cn}{sb:Nat}{es:List El}
def pg.ext{a:cn}(h:pg sb es w)(e:Ext w a):pg sb es a:=by obtain⟨b,c,d⟩:=h.out;exact⟨b,e.at_ c,d⟩
def pg.keep{a:cn}{F:cN}(h:pg sb es w)(k:cW F w a)(b:¬F sb):pg sb es a:=by obtain⟨c,d,e⟩:=h.out;exact⟨c,k.fe d b,e⟩
def pg.cell(h:pg sb es w)(k:Nat)(a:k<es.length):∀j v,(uL es[k])[j]? =some v->w.cell? ⟨sb,0+k*2+j,none⟩=some v:=λj v b=>by obtain⟨e,c,f,d⟩:=h.out;exact cr c (by rw[cG];exact d k a j v b)
def Q5{s:cU}(h:pg sb es w)(k:Nat)(z:k<es.length)(e:El)(n:∀a,cW (λx=>x=sb) w a->pg sb (es.set k e) a->s a):DO V.prog (Instr.storeAt 29 (.pointer (some ⟨sb,0+k*2,none⟩)) (.agg (uL e).toArray)) w s:=by
 obtain⟨o,p,q,r⟩:=h.out;have A:k*2+2<=o.size:=by have:=qy 2 (show k+1<=es.length by omega);omega
 refine iT p (by show 0+k*2+2<=_;omega) (λa t c=>n a t ⟨_,c,by rw[n5];simpa using q,λi v j u b=>?_⟩) (fK (l:=uL e) rfl);have y:j<2:=(iI.1 b).1;rw[nE _ _ _ _ (by show 0+k*2+2<=_;omega)];have d:(Value.agg (uL e).toArray).cells.toList=uL e:=rfl;rw[d];have f:(uL e).length=2:=rfl;rw[f];have g:i<es.length:=by simpa using v
 by_cases m:i=k;subst m;rw[List.getElem_set_self]at b;rw[cB (by omega),show i*2+j-(0+i*2)=j by omega];exact b;rw[List.getElem_set_ne (by omega)]at b;rw[cy (by omega)];exact r i g j u b
end
def PU(s t:Nat)(a b:Option Addr)(l g c h:Nat)(w:cn)(r:s<=1000000)(u:t<=1000000):Calls V.prog 157 #[.agg #[.int .i64 s,.slice a l c],.agg #[.int .i64 t,.slice b g h]] w (fi λv k=>v=.int .i64 ((s:Int)-t)/\Ext w k):=by refine gd Tryz.func157 Tryz.ntmps157 ?_;refine ej λm n o p e=>ej λq f i j d=>?_;have e:m.heap[n]? =some (.cells #[i64 s,.slice a l c] 29):=e;have d:q.heap[f]? =some (.cells #[i64 t,.slice b g h] 29):=d;exact cu (cr (i.at_ e) rfl) (cu (cr d rfl) (fx ⟨_,rfl,rfl,o.trans i⟩))
def G2:cq:=.func (.func 157) #[] #[]
def A0{l c:Nat}{n:List El}(h:pg l n w)(hn:0<n.length)(aa:n.length<=1000)(hs:∀e∈n,e.s<=1000000):
 Calls V.prog 200 #[.slice (some ⟨l,0,none⟩) n.length c,.int .i64 0,.int .i64 n.length,G2] w (fi λv C=>cW (λx=>x=l) w C/\pg l (pf El.s n) C):=by
 refine gd Tryz.func200 Tryz.ntmps200 ?_;refine cF ?_;refine fW (n.length-1) (λk (_:Unit)=>[(0,.slice (some ⟨l,0,none⟩) n.length c),(1,i64 0),(2,i64 n.length),(3,G2),(8,i64 (k+1:Nat))]) (λk _ C=>cW (λx=>x=l) w C/\pg l (lO El.s n k) C) () ⟨by trivial,cW.refl _ _,h⟩ ?_;rintro k _ w1 hk ⟨k1,T⟩;have N:(lO El.s n k).length=n.length:=pT _ _ _;refine du ⟨λO=>?_,λD=>?_⟩;have O:k+1<n.length:=by have:=dO O;omega
 obtain⟨A,B⟩:∃A,A=lO El.s n k:=⟨_,rfl⟩;have E:∀x∈A,x.s<=1000000:=λx M=>hs x (by rw[B]at M;exact tv _ _ _ _ M);rw[<-B]at T N;refine fW (k+1) (λt (g:List El)=>[(0,.slice (some ⟨l,0,none⟩) n.length c),(1,i64 0),(2,i64 n.length),(3,G2),(8,i64 (k+1:Nat)),(9,i64 (k+1-t:Nat))]) (λt g C=>cW (λx=>x=l) w C/\pg l g C/\g.length=n.length/\(∀x∈g,x.s<=1000000)/\nJ El.s g (k+1-t)=nJ El.s A (k+1)) A ⟨by trivial,k1,T,N,E,rfl⟩ ?_;rintro t g w2 ht ⟨k2,S,U,F,G⟩;obtain⟨j,hj⟩:∃j,j=k+1-t:=⟨_,rfl⟩;rw[<-hj]at G⊢;have stop:∀q,Ext w2 q->nJ El.s g j=g->cW (λx=>x=l) w q/\pg l (lO El.s n (k+1)) q:=λq p W=>by refine⟨k2.trans (p.keep λ_=>False) (λ_ _ h=>h) λ_ _ h=>h.elim,?_⟩;simp only[lO];rw[<-B,<-G,W];exact S.ext p
 refine cX cV (yA ⟨λr=>?_,λr=>?_⟩);have r:0<j:=by have:=dO r;omega
 obtain⟨i,rfl⟩:∃i,j=i+1:=⟨j-1,by omega⟩;have H:i+1<g.length:=by omega
 have I:i<g.length:=by omega
 obtain⟨x,M⟩:∃x,x=g[i+1]:=⟨_,rfl⟩;obtain⟨y,X⟩:∃y,y=g[i]:=⟨_,rfl⟩;have d:=S.cell (i+1) H;have f:=S.cell i I;rw[<-M]at d;rw[<-X]at f;have P:x.s<=1000000:=F x (by rw[M];exact ef _);have Q:y.s<=1000000:=F y (by rw[X];exact ef _);have o:nJ El.s g (i+1)=if x.s<y.s then nJ El.s ((g.set (i+1) y).set i x) i else g:=by simp only[nJ];rw[eV H,eV I,<-M,<-X]
 refine gE (i+1) 2 (by omega) (dx (.agg (uL x).toArray) (λq p=>dJ (vs:=uL x) (λm v J=>p.cell (d m v J)) ⟨rfl,Ext.refl _⟩) (ti (gE i 2 (by omega) (dx (.agg (uL y).toArray) (λq p=>dJ (vs:=uL y) (λm v J=>p.cell (f m v J)) ⟨rfl,Ext.refl _⟩) (fh (i64 ((x.s:Int)-y.s)) (λq p=>PU x.s y.s _ _ _ _ _ _ q P Q) (Mk λq p=>⟨λK=>?_,λK=>?_⟩))) (by omega))));have K:x.s<y.s:=by have:=dO K;omega
 rw[cB K]at o;have h3:=S.ext p;have k3:cW (λx=>x=l) w q:=k2.trans (p.keep λ_=>False) (λ_ _ h=>h) λ_ _ h=>h.elim;refine hH 15 cV (iF (λx=>x=l)) (λa b h=>h.keep _) ?_;refine .exact (i64 ((i+1:Nat)-1)) (λu _=>fx ⟨rfl,Ext.refl _⟩) (.exact (i64 ((i+1:Nat)-1)) (λu _=>fx ⟨rfl,Ext.refl _⟩) (.exact (.pointer (some ⟨l,0+i*2,none⟩)) (λu _=>eN i 2 (by omega) ⟨rfl,Ext.refl _⟩ (by omega)) ?_));refine .BD rfl (.agg (uL y).toArray) (λu L=>dJ (vs:=uL y) (λm v J=>L.cell (p.cell (f m v J))) ⟨rfl,Ext.refl _⟩) (.exact (.pointer (some ⟨l,0+(i+1)*2,none⟩)) (λu _=>eN (i+1) 2 (by omega) ⟨rfl,Ext.refl _⟩) (.BD rfl (.agg (uL x).toArray) (λu L=>dJ (vs:=uL x) (λm v J=>L.cell (p.cell (d m v J))) ⟨rfl,Ext.refl _⟩) (.exact (.pointer (some ⟨l,0+(i+1)*2,none⟩)) (λu _=>eN (i+1) 2 (by omega) ⟨rfl,Ext.refl _⟩) ?_)));refine .vT (λ_ u=>pg l (g.set (i+1) y) u) (λ_ a b h e=>h.ext e) (λu L=>Q5 (h3.ext L) (i+1) H y λw5 Y Z=>⟨Z,Y⟩) ?_;refine .exact (.pointer (some ⟨l,0+i*2,none⟩)) (λu _=>eN i 2 (by omega) ⟨rfl,Ext.refl _⟩ (by omega)) ?_;intro u L hJ;have hJ:pg l (g.set (i+1) y) u:=hJ;refine Q5 hJ i (by simpa using I) x λw5 Y Z=>fx ⟨by omega,(g.set (i+1) y).set i x,⟨rfl,rfl,rfl,rfl,rfl,?_,trivial⟩,(k3.trans L (λ_ _ h=>h) λ_ _ h=>h).trans Y (λ_ _ h=>h) λ_ _ h=>h,Z,by simpa using U,λz R=>?_,?_⟩;show some (Value.int .i64 (((i+1:Nat):Int)-1))=some (i64 ((k+1-(t+1):Nat)));rw[show((i+1:Nat):Int)-1=((k+1-(t+1):Nat):Int) by omega];rcases tG R with R|rfl;rcases tG R with R|rfl;exact F z R;exact Q;exact P;rw[show k+1-(t+1)=i by omega,<-o,G];have K:¬x.s<y.s:=by have:=ee K;omega
 rw[cy K]at o;exact cF ⟨by omega,(),by trivial,stop q p o⟩;have r:j=0:=by have:=ee r;omega
 subst r;exactλq p=>lx rfl (cF ⟨by omega,(),by trivial,stop q p rfl⟩);have D:k=n.length-1:=by have:=ee D;omega
 subst D;exact⟨_,rfl,k1,T⟩
def tw(e:Nat)(w:cn)(v:cq)(b:List El):Prop:=(b=[]/\∃a c,v=.slice a 0 c)\/∃d c,e<=d/\v=.slice (some ⟨d,0,none⟩) b.length c/\pg d b w
def rD(v:cq)(a:Nat)(w:cn)(c:a<=1000):Calls V.prog 200 #[v,.int .i64 a,.int .i64 a,G2] w (fi λv b=>b=w):=by refine gd Tryz.func200 Tryz.ntmps200 ?_;refine cF ?_;refine fW 0 (λk (_:Unit)=>[(2,i64 a),(8,i64 ((a:Int)+1))]) (λk _ b=>b=w) () ⟨by trivial,rfl⟩ ?_;rintro k _ b d rfl;exact du (lx (by simp;omega) ⟨_,rfl,rfl⟩)
def G3{d:List El}(h:tw m w x d)(A:d.length<=20)(B:∀e∈d,e.s<=1000000):
 Calls V.prog 184 #[x,.int .i64 d.length,G2] w (fi λ_ b=>cW (λg=>m<=g) w b/\tw m b x (pf El.s d)):=by
 refine gd Tryz.func184 Tryz.ntmps184 ?_;have n:(pf El.s d).length=d.length:=pT _ _ _;refine fW 1 (λk (_:Unit)=>[(0,x),(1,i64 d.length),(2,G2),(6,i64 20),(7,i64 (20*k:Nat)),(8,i64 (20*k+20:Nat))]) (λk _ b=>cW (λg=>m<=g) w b/\(k=0->tw m b x d)/\(k=1->d.length=20/\tw m b x (pf El.s d))) () ⟨by trivial,cW.refl _ _,λ_=>h,λh=>by omega⟩ ?_;rintro k _ r q ⟨o,C,t⟩;refine ue ⟨λf=>?_,λf=>?_⟩;have f:20*k+20<=d.length:=by have:=dO f;omega
 obtain rfl:k=0:=by omega
 rcases C rfl with⟨rfl,_⟩|⟨p,c,u,rfl,v⟩;simp at f;have j:d.length=20:=by omega
 have D:=A0 (c:=c) v (by omega) (by omega) B;rw[j]at D⊢;refine cD D ?_;rintro _ i ⟨y,z⟩;refine cF ⟨by omega,(),by trivial,o.trans y (λ_ _ h=>h) λg _ (E:g=p)=>by omega,λh=>by omega,λ_=>⟨rfl,.inr ⟨p,c,u,by rw[n,j],z⟩⟩⟩;have f:¬20*k+20<=d.length:=by have:=ee f;omega
 have F:∀{Q:QW} {G:L} {i:cn},cW (λg=>m<=g) w i/\tw m i x (pf El.s d)->(∀l b,cW (λg=>m<=g) w b/\tw m b x (pf El.s d)->Q .normal l b)->True:=λ_ _=>trivial;obtain rfl|rfl:k=0\/k=1:=by omega
 rcases C rfl with⟨rfl,a,c,rfl⟩|⟨p,c,u,rfl,v⟩;refine cD (rD _ 0 r (by omega)) ?_;rintro _ i rfl;refine fW 0 (λk (_:Unit)=>[(1,i64 0),(6,i64 20)]) (λk _ b=>b=i) () ⟨by trivial,rfl⟩ ?_;rintro k _ b q rfl;exact du (lx rfl ⟨_,rfl,o,.inl ⟨rfl,a,c,rfl⟩⟩);rcases mY d.length with j|j;obtain rfl:=oL j;refine cD (rD _ 0 r (by omega)) ?_;rintro _ i rfl;refine fW 0 (λk (_:Unit)=>[(1,i64 0),(6,i64 20)]) (λk _ b=>b=i) () ⟨by trivial,rfl⟩ ?_;rintro k _ b q rfl;exact du (lx rfl ⟨_,rfl,o,.inl ⟨rfl,_,c,rfl⟩⟩);refine cD (A0 (c:=c) v j (by omega) B) ?_;rintro _ i ⟨y,z⟩;refine fW 0 (λk (_:Unit)=>[(1,i64 d.length),(6,i64 20)]) (λk _ b=>b=i) () ⟨by trivial,rfl⟩ ?_;rintro k _ b q rfl;exact du (lx (by simp;omega) ⟨_,rfl,o.trans y (λ_ _ h=>h) λg _ (E:g=p)=>by omega,.inr ⟨p,c,u,by rw[n],z⟩⟩);obtain⟨j,t⟩:=t rfl;rw[j];refine cD (rD _ 20 r (by omega)) ?_;rintro _ i rfl;refine fW 0 (λk (_:Unit)=>[(1,i64 20),(6,i64 20)]) (λk _ b=>b=i) () ⟨by trivial,rfl⟩ ?_;rintro k _ b q rfl;exact du (lx rfl ⟨_,rfl,o,t⟩)
def tw.v_{b:List El}(h:tw m w x b):∃a c,x=.slice a b.length c:=by rcases h with⟨rfl,a,c,rfl⟩|⟨d,c,_,rfl,_⟩;exact⟨a,c,rfl⟩;exact⟨_,c,rfl⟩
def No{d:List El}(h:tw m w x d)(b:d.length<=20)(g:∀e∈d,e.s<=1000000):
 Calls V.prog 156 #[x,G2] w (fi λ_ f=>cW (λi=>m<=i) w f/\tw m f x (pf El.s d)):=by
 obtain⟨a,c,rfl⟩:=h.v_;refine gd Tryz.func156 Tryz.ntmps156 ?_;refine cS (cD (G3 h b g) ?_);rintro _ k j;exact⟨_,rfl,j⟩
def Wz(x:Sx):cq:=.agg (ly x).toArray
def G4{wp gp mk ms wb:Nat}{e:List Sx}(h:ll wp gp mk ms H e I w)(f:w.heap[wb]? =some (.cells #[cM wp] 133))(x:Sx):Calls V.prog 160 #[Wz x,cM wb] w (fi λv i=>v=.bool (!eZ H.tries x)/\Ext w i):=by obtain⟨p,q,k,r,s,t⟩:=h.at_;refine gd Tryz.func160 Tryz.ntmps160 ?_;refine ej λl m c n a=>?_;have a:l.heap[m]? =some (.cells (ly x).toArray 166):=a;refine cX cV (cK (cr (c.at_ f) rfl) (cK (c.cell k) (dx (Wz x) (λd b=>dJ (vs:=ly x) (λj v o=>by rw[cG];exact cr (b.at_ a) (by simpa using o)) ⟨rfl,Ext.refl _⟩) (fh (.bool (eZ H.tries x)) (λd b=>um (h.g.ext (c.trans b)) x) (kF λd b=>⟨_,rfl,rfl,c.trans b⟩)))))
def pU(p:Sx->Bool):List Sx->Nat->Int
 |[],_=> -1
 |y::r,i=>if p y then i else pU p r (i+1)
def EV(p:Sx->Bool)(l:List Sx)(k:Nat)(a:k<l.length):pU p (l.drop k) k=if p l[k]then(k:Int)else pU p (l.drop (k+1)) (k+1):=by rw[sn a];rfl
theorem zj(p:Sx->Bool):∀(l:List Sx) (i:Nat),decide (0<=pU p l i)=l.any p
 |[],_=>rfl
 |y::r,i=>by
  simp only[pU,List.any_cons];by_cases h:p y=true;simp[h];have h:p y=false:=by simpa using h
  simpa[h]using zj p r (i+1)
def J1{wp gp mk ms wb:Nat}{q:List Sx}(h:ll wp gp mk ms H q I w)(r:w.heap[wb]? =some (.cells #[cM wp] 133)){d:List Sx}{c:Nat}(s:tn w a d)(m:d.length<=100000):
 Calls V.prog 159 #[.slice a d.length c,.func (.func 160) #[] #[cM wb]] w (fi λv g=>v=.bool (d.any λx=>!eZ H.tries x)/\Ext w g):=by
 have i:Calls V.prog 185 #[.slice a d.length c,.func (.func 160) #[] #[cM wb]] w (fi λv g=>v=i64 (pU (λx=>!eZ H.tries x) d 0)/\Ext w g):=by refine gd Tryz.func185 Tryz.ntmps185 ?_;refine cS (eE (n:=d.length) (λk=>[(0,.slice a d.length c),(1,.func (.func 160) #[] #[cM wb]),(7,i64 d.length),(8,i64 k)]) (λk g=>Ext w g/\pU (λx=>!eZ H.tries x) d 0=pU (λx=>!eZ H.tries x) (d.drop k) k) ⟨by trivial,Ext.refl _,rfl⟩ ?_ ?_ ?_);rintro k l j t;exact du ⟨rfl,rfl,by trivial,t⟩;rintro k l j ⟨e,f⟩;obtain⟨b,o,rfl,u⟩:=(s.ext e) k j;rw[EV _ _ _ j]at f;refine eN k 8 j (dJ (vs:=ly d[k]) u (dG (v0:=.bool (!eZ H.tries d[k])) (G4 (h.ext e) (e.at_ r) d[k]) λA p=>⟨λy=>?_,λz=>?_⟩));rw[cB y]at f;exact⟨_,rfl,by rw[f];rfl,e.trans p⟩;rw[cy (by rw[z];simp)]at f;exact cF ⟨by trivial,e.trans p,f⟩;rintro l ⟨e,f⟩;exact⟨_,rfl,by rw[f];simp[pU],e⟩
 refine gd Tryz.func159 Tryz.ntmps159 ?_;exact dG i λl e=>yz ⟨_,rfl,by rw[<-zj _ d 0];rfl,e⟩
end Go.Proofs.W
variable{S:cn->Prop}
namespace Go.Proofs.W
open Go.RowKit
def iH(T:Int)(b:Nat):List Sx->cz->Option (List Sx)
 |a,[]=>some a
 |a,d::r=>if nO (a.getD d lM) (b/2)||eZ T (a.getD d lM)then none else iH T b (a.set d (gm (a.getD d lM) b false)) r
def J2(f:Nat->Int)(s:Nat)(v:Int):Nat->Int:=λx=>if x=s then v else f x
def ji(G:Gd)(b:Int):List Sx->(Nat->Int)->List (Nat×cz)->Option (List Sx)
 |c,_,[]=>some c
 |c,a,p::r=>if b<a p.1+1\/G.minutes<iU G p.2 then none else match iH G.tries p.1 c p.2 with
  |none=>none
  |some d=>ji G b d (J2 a p.1 (a p.1+1)) r
def rV(G:Gd)(c:List Sx)(a:Int)(d:List (Nat×cz)):Bool:=match ji G a c (λ_=>0) (pf Prod.fst d)with
 |none=>false
 |some b=>!b.any λx=>!eZ G.tries x
def wR(T:Int)(b:Nat)(a:List Sx)(l:cz)(k:Nat)(c:k<l.length):iH T b a (l.drop k)=if nO (a.getD l[k] lM) (b/2)||eZ T (a.getD l[k] lM)then none else iH T b (a.set l[k] (gm (a.getD l[k] lM) b false)) (l.drop (k+1)):=by rw[sn c];rfl
def wS(G:Gd)(b:Int)(e:List Sx)(a:Nat->Int)(c:List (Nat×cz))(k:Nat)(f:k<c.length):ji G b e a (c.drop k)=if b<a c[k].1+1\/G.minutes<iU G c[k].2 then none else match iH G.tries c[k].1 e c[k].2 with
 |none=>none
 |some d=>ji G b d (J2 a c[k].1 (a c[k].1+1)) (c.drop (k+1)):=by
 rw[sn f];rfl
def tD.le{x:Sx}(h:tD k x)(d:k<=m):tD m x:=by obtain⟨a,b,c⟩:=h;refine⟨⟨a.1,by omega⟩,⟨b.1,by omega⟩,c.1,by omega⟩
theorem wn{c:Type}{P:Nat->c->Prop}:∀(n:Nat),(∀k,k<n->∃x,P k x)->∃l:List c,l.length=n/\∀k (h:k<l.length),P k l[k]
 |0,_=>⟨[],rfl,λk b=>by simp at b⟩
 |n+1,h=>by
  obtain⟨l,d,e⟩:=wn n λk b=>h k (by omega);obtain⟨x,f⟩:=h n (by omega);refine⟨l++[x],by simp[d],λk b=>?_⟩;rcases fj k l.length with a|g;rw[nU a];exact e k a;obtain rfl:k=n:=by simp at b;omega
  have:(l++[x])[k]=x:=by simp[d]
  rw[this];exact f
theorem vx:∀a:List El,(a.flatMap uL).length=a.length*2
 |[]=>rfl
 |x::r=>by have:=vx r;simp[uL,this];omega
theorem vy:∀(a:List El) (k:Nat) (b:k<a.length) (j:Nat) (v:cq),(uL a[k])[j]? =some v->(a.flatMap uL)[k*2+j]? =some v
 |x::r,0,_,j,v,h=>by have c:j<(uL x).length:=(iI.1 h).1;simp only[mV,Nat.zero_mul,cG];rw[nT c];exact h
 |x::r,k+1,b,j,v,h=>by have d:=vy r k (by simpa using b) j v (by simpa using h);have e:(uL x).length=2:=rfl;simp only[mV];rw[oM (by omega),e,show(k+1)*2+j-2=k*2+j by omega];exact d
def J3(e:El):Nat×cz:=(e.s,e.l)
def vw.XL{f:List (Nat×cz)}(h:vw w a f):∃g:List El,g.map J3=f/\(∀e∈g,fN w e.a e.l/\e.l.length<=e.c)/\ii w a (g.flatMap uL):=by
 obtain⟨g,A,p⟩:=wn (P:=λk (e:El)=>∃(m:k<f.kq),J3 e=f[k]/\fN w e.a e.l/\e.l.kq<=e.c/\∃b o,a=some (cY b o)/\∀j v,(uL e)[j]? =some v->w.cell? (cY b (o+k*2+j))=some v) f.kq λk m=>by
  obtain⟨b,o,B,C,q,s,D,E,F⟩:=h k m;refine⟨⟨f[k].1,B,C,f[k].2⟩,m,rfl,E,F,b,o,q,λj v d=>?_⟩;match j,d with
  |0,d=>cases d;exact s
  |1,d=>cases d;exact D
 refine⟨g,?_,λe G=>?_,?_⟩;apply List.ext_getElem;simpa using A;intro i n t;rw[List.getElem_map];exact(p i (by simpa using n)).2.1;obtain⟨i,H,rfl⟩:=List.getElem_of_mem G;obtain⟨_,_,q,s,_⟩:=p i H;exact⟨q,s⟩;rcases g with _|⟨x,r⟩;exact .inl rfl;obtain⟨_,_,_,_,b,o,rfl,_⟩:=p 0 (by simp);refine .inr ⟨b,o,rfl,λj u d=>?_⟩;have I:j<(x::r).kq*2:=by rw[<-vx];exact(iI.1 d).1
 have m:j/2<(x::r).kq:=by omega
 obtain⟨_,_,_,_,J,K,e,L⟩:=p (j/2) m;obtain⟨rfl,rfl⟩:b=J/\o=K:=by injection e with e;injection e with M N;exact⟨M,N⟩
 have O:j%2<(uL (x::r)[j/2]).kq:=by show j%2<2;omega
 have z:=eV O;have n:=vy (x::r) (j/2) m (j%2) _ z;have t:=L (j%2) _ z;have y:j/2*2+j%2=j:=by omega
 rw[y]at n;rw[d]at n;obtain rfl:=cO n;have:o+j/2*2+j%2=o+j:=by omega
 rw[this]at t;exact t
def vw.rn{a:List (Nat×cz)}(h:vw w none a):a.length=0:=by rcases a with _|⟨x,r⟩;rfl;obtain⟨b,o,_,_,e,_⟩:=h 0 (by simp);cases e
theorem vw.gG{n0:Nat}{c:List (Nat×cz)}(h:vw w a c)(e:iV n0 w t):vw t a c:=λk d=>by obtain⟨b,o,f,g,i,j,l,m,n⟩:=h k d;exact⟨b,o,f,g,i,e.cell j,e.cell l,m.gG e,n⟩
def EX{d:List El}{c:Nat}(m:ii w a (d.flatMap uL))(n:a=none->d.length=0)(f:d.length<=1000000):Calls V.prog 155 #[.slice a d.length c] w (fi λv h=>Ext w h/\tw w.heap.size h v d):=by refine(My a d.length c (d.flatMap uL) w (vx d) n m (λu g=>?_) f).mono ?_;obtain⟨x,_,g⟩:=sq.1 g;simp[uL]at g;rcases g with rfl|rfl<;>rfl;rintro e h ⟨v,rfl,i,C,⟨o,rfl⟩|⟨b,p,q,r,rfl,s,t,y,D,z,E⟩⟩;exact⟨_,rfl,i,.inl ⟨oL o,none,0,rfl⟩⟩;refine⟨_,rfl,i,.inr ⟨b,p,r,rfl,⟨q,s,?_,λk A j v B=>?_⟩⟩⟩;have:([i64 0,jK]:dr).length=2:=rfl;rw[this]at t;have:=qy 2 y;omega;have l:=vy d k A j v B;rw[z _ (iI.1 l).1];exact l
def PV(a:Nat)(f:Nat->Int)(w:cn):Prop:=w.heap[a]? =some (.cells #[.int .i64 (f 0),.int .i64 (f 1),.int .i64 (f 2),.int .i64 (f 3),.int .i64 (f 4),.int .i64 (f 5)] 178)
def PV.cell{f:Nat->Int}(h:PV m f w)(a:s<6):w.cell? ⟨m,0+s,none⟩=some (.int .i64 (f s)):=by
 have:s=0\/s=1\/s=2\/s=3\/s=4\/s=5:=by omega
 rcases this with rfl|rfl|rfl|rfl|rfl|rfl<;>exact cr h rfl
def Sd{f:Nat->Int}(h:PV m f w)(s:Nat)(v:Int)(e:s<6)(b:∀a,cW (λx=>x=m) w a->PV m (J2 f s v) a->S a):DO V.prog (Instr.storeAt 3 (.pointer (some ⟨m,0+s,none⟩)) (.int .i64 v)) w S:=by
 have:s=0\/s=1\/s=2\/s=3\/s=4\/s=5:=by omega
 rcases this with rfl|rfl|rfl|rfl|rfl|rfl<;>exact dq h λa c d=>b a c (by unfold PV;rw[d];rfl)
theorem tp.keep{a:List Sx}(h:tp m w x a)(k:cW A w t)(e:∀b,cH x b->¬A b):tp m t x a:=by rcases h with h|⟨d,c,f,rfl,g⟩;exact .inl h;exact .inr ⟨d,c,f,rfl,g.keep k (e d ⟨_,_,rfl⟩)⟩
theorem tw.keep{a:List El}(h:tw m w x a)(k:cW A w t)(e:∀b,cH x b->¬A b):tw m t x a:=by rcases h with h|⟨d,c,f,rfl,g⟩;exact .inl h;exact .inr ⟨d,c,f,rfl,g.keep k (e d ⟨_,_,rfl⟩)⟩
def tp.v_{b:List Sx}(h:tp m w x b):∃a c,x=.slice a b.length c:=by rcases h with⟨rfl,a,c,rfl⟩|⟨d,c,_,rfl,_⟩;exact⟨a,c,rfl⟩;exact⟨_,c,rfl⟩
def tp.Vu{b:List Sx}(h:tp m w x b):∃a c,x=.slice a b.length c/\tn w a b:=by rcases h with⟨rfl,a,c,rfl⟩|⟨f,c,_,rfl,d⟩;exact⟨a,c,rfl,λk e=>by simp at e⟩;exact⟨_,c,rfl,d.row⟩
def tp.blk{a:List Sx}(h:tp m w x a)(b:0<a.length)(d:cH x k):m<=k/\k<w.heap.size:=by rcases h with⟨rfl,_⟩|⟨g,c,e,rfl,f⟩;simp at b;obtain⟨i,q,_⟩:=f.out;have:=cP.lt_of_heap q;rw[mI (l':=0) (c':=0) d];exact⟨e,this⟩
def J4{wp gp mk ms:Nat}{A:List Sx}{ak canv:Int}(h:ll wp gp mk ms H A ak w)(ba:∀x∈A,tD 100000 x){Y:List (Nat×List Nat)}{pc:Nat}(hr:vw w a Y)(bs:Y.length<=20)(aO:∀p∈Y,p.1<6/\p.2.length<=1000/\∀d∈p.2,d<A.length):
 Calls V.prog 109 #[cM wp,.int .i64 canv,.slice a Y.length pc] w (fi λv y=>v=.bool (rV H A canv Y)/\Ext w y):=by
 have bb:=h.g.uh;have h5:=bb.many;have bw:=h.len;obtain⟨es,al,bc,am⟩:=hr.XL;have Z:es.length=Y.length:=by rw[<-al];simp
 refine gd Tryz.func109 Tryz.ntmps109 ?_;refine ej λw1 wb e1 bx K=>?_;have K:w1.heap[wb]? =some (.cells #[cM wp] 133):=K;have bz:=cP.lt_of_heap K;obtain⟨sa,sc,g1,g2,g3,g4⟩:=h.at_;refine cu (cr K rfl) (cu (e1.cell g2) (cD (uo (g4.ext e1) (by omega)) ?_));rintro dv w2 ⟨e2,aE⟩;refine eD λw3 mb e3 bA ax=>?_;have bd:PV mb (λ_=>0) w3:=ax;have bB:=cP.lt_of_heap ax;have s1:=e1.size;have s2:=e2.size;have aP:=(e1.trans e2).trans e3;have aQ:=EX (c:=pc) (w:=w3) (by rcases am with J|⟨b,o,q1,q2⟩;exact .inl J;exact .inr ⟨b,o,q1,λj u hj=>aP.cell (q2 j u hj)⟩) (λe=>by subst e;rw[Z];exact hr.rn) (by omega);rw[Z]at aQ;refine cD aQ ?_;rintro ev w4 ⟨e4,be⟩;have aR:∀e∈es,e.s<6:=λe he=>(aO (J3 e) (by rw[<-al];exact List.mem_map_of_mem he)).1;refine cD (No be (by omega) λe he=>by have:=aR e he;omega) ?_;rintro _ w5 ⟨k5,aF⟩;obtain⟨E,an⟩:∃E,E=pf El.s es:=⟨_,rfl⟩;rw[<-an]at aF;have bC:E.length=Y.length:=by rw[an,<-Z];exact pT _ _ _
 have bf:∀e∈E,e∈es:=λe he=>tv _ _ _ _ (by rw[an]at he;exact he);have bg:pf Prod.fst Y=E.map J3:=by rw[an,<-al];exact J0 El.s Prod.fst J3 (λx=>rfl) es
 obtain⟨ea,ec,rfl⟩:=aF.v_;have ao:Ext w3 w5:=e4.yR k5 λb hb=>hb;have E5:=aP.trans ao;obtain⟨da,dc,rfl⟩:=aE.v_;have ay:∀b,0<A.length->cH (.slice da A.length dc) b->w1.heap.size<=b/\b<w2.heap.size:=λb J hb=>aE.blk J hb
 have aa:rV H A canv Y=match ji H canv A (λ_=>0) (E.map J3)with
  |none=>false
  |some bh=>!bh.any λx=>!eZ H.tries x:=by unfold rV;rw[bg]<;>rfl
 have s3:=e3.size;have s4:=e4.size;have s5:=k5.size;refine cS ?_
 refine gT (n:=E.length) (λk (st:List Sx×(Nat->Int))=>[(1,i64 canv),(3,cM wb),(7,.slice da A.length dc),(8,cM mb),(23,.slice ea E.length ec),(24,i64 E.length),(25,i64 k)])
  (λk st y=>Ext w y/\w5.heap.size<=y.heap.size/\y.heap[wb]? =some (.cells #[cM wp] 133)/\tp w1.heap.size y (.slice da A.length dc) st.1/\PV mb st.2 y/\tw w3.heap.size y (.slice ea E.length ec) E/\st.1.length=A.length/\(∀x∈st.1,tD (100000+1000*k) x)/\(∀s,0<=st.2 s/\st.2 s<=k)/\ji H canv A (λ_=>0) (E.map J3)=ji H canv st.1 st.2 ((E.map J3).drop k))
  (A,λ_=>0) ⟨by trivial,E5,cJ _,((e2.trans e3).trans ao).at_ K,aE.keep ((e3.trans ao).keep λ_=>False) (λ_ _ h=>h),ao.at_ bd,aF,rfl,ba,λs=>by simp,rfl⟩ ?_ ?_ ?_
 rintro k st w6 hk hJ;exact du ⟨rfl,rfl,by trivial,hJ⟩;rintro k ⟨ys,t⟩ w6 hk ⟨E6,s6,ab,ac,aG,aS,R,aH,L,f⟩;simp only at ac aG R aH L f;rcases aS with⟨h0,_⟩|⟨eb,bD,bi,M,aI⟩;rw[h0]at hk;simp at hk;injection M with M _ ad;subst M;subst ad;obtain⟨e,he⟩:∃e,e=E[k]:=⟨_,rfl⟩;have N:e∈es:=bf e (by rw[he];exact ef _);have aT:=aI.cell k hk;rw[<-he]at aT;have B:=aR e N;obtain⟨aU,bE⟩:=bc e N;obtain⟨_,aV,ap⟩:=aO (J3 e) (by rw[<-al];exact List.mem_map_of_mem N);have aV:e.l.length<=1000:=aV;have ap:∀d∈e.l,d<A.length:=ap;have bj:k<(E.map J3).length:=by simpa using hk
 rw[wS H canv ys t _ k bj]at f;have bk:(E.map J3)[k]=(e.s,e.l):=by rw[List.getElem_map,<-he];rfl
 rw[bk]at f;simp only at f;refine eN k 2 hk (dJ (vs:=uL e) aT (eD λw7 xb e7 aW aX=>dq aX λw8 k8 aq=>?_));have aq:w8.heap[xb]? =some (.cells #[i64 e.s,.slice e.a e.l.length e.c] 29):=aq;have S:Ext w6 w8:=e7.cC k8 aW;have bF:eb<w6.heap.size:=by obtain⟨cs,q,_⟩:=aI.out;exact cP.lt_of_heap q
 have aY:PV mb t w8:=S.at_ aG;refine cu (cr aq rfl) (th e.s 6 B (cu (aY.cell B) (cF (th e.s 6 B (Sd aY e.s (t e.s+1) B λw9 k9 aJ=>?_)) (by have:=L e.s;omega))));have E9:Ext w w9:=(E6.trans S).cC k9 (by omega);have ae:w9.heap[wb]? =some (.cells #[cM wp] 133):=k9.fe (S.at_ ab) (by omega);have aK:w9.heap[xb]? =some (.cells #[i64 e.s,.slice e.a e.l.length e.c] 29):=k9.fe aq (by omega);have bl:∀b,0<A.length->cH (.slice da A.length dc) b->¬b=mb:=λb J hb=>by have:=ay b J hb;omega
 have bm:tp w1.heap.size w9 (.slice da A.length dc) ys:=by rcases mY A.length with J|J;have hy:ys=[]:=oL (R.trans J);rw[hy,J];exact .inl ⟨rfl,_,_,rfl⟩;exact(ac.keep (S.keep λ_=>False) λ_ _ h=>h).keep k9 λb hb=>bl b J hb
 have bn:pg eb E w9:=(aI.ext S).keep k9 (by omega);have aL:=h.ext E9;obtain⟨bG,bH,z1,z2,z3,z4⟩:=aL.at_;obtain⟨r,G⟩:∃r,r=J2 t e.s (t e.s+1):=⟨_,rfl⟩;rw[<-G]at aJ f;have bo:r e.s=t e.s+1:=by rw[G];unfold J2;rw[cB rfl]
 have aZ:∀s,0<=r s/\r s<=(k+1:Nat):=λs=>by rw[G];unfold J2;have:=L s;have:=L e.s;split<;>omega
 have s9:=S.size;have bI:=k9.size;have a0:∀y,Ext w9 y->ji H canv A (λ_=>0) (E.map J3)=none->∃v,Ending.returned (one [.bool false])=.returned v/\v=.bool (rV H A canv Y)/\Ext w y:=λy e' hn=>⟨_,rfl,by rw[aa,hn];rfl,E9.trans e'⟩;have a1:=aJ.cell B;rw[bo]at a1;refine cX cV (cK (cr aK rfl) (pG e.s 6 B (cK a1 (yA ⟨λO=>?_,λO=>?_⟩))));have O:canv<t e.s+1:=dO O;exactλaf z=>jZ rfl (a0 af z (by rw[f,cB (.inl O)]));have O:¬canv<t e.s+1:=ee O;refine cK (cr ae rfl) (cK z1 (cK (cr aK rfl) (fh (i64 (iU H e.l)) (λaf z=>BK (aL.g.ext z) (λd hd=>by have:=ap d hd;omega) (by omega) ((aU.ext E9).ext z)) (cK (cr ae rfl) (cK z1 (cK aL.g.c3 (yA λaf z=>⟨λC=>?_,λC=>?_⟩)))))));have C:H.minutes<iU H e.l:=dO C;exact a0 af z (by rw[f,cB (.inr C)]);have C:¬H.minutes<iU H e.l:=ee C;rw[cy (λJ=>J.elim O C)]at f;have az:=z.at_ aK;have bJ:=z.size;refine cu (cr az rfl) (cS ?_)
 refine gT (n:=e.l.length) (λj (m:List Sx)=>[(1,i64 canv),(3,cM wb),(7,.slice da A.length dc),(8,cM mb),(11,cM xb),(23,.slice (some ⟨eb,0,none⟩) E.length ec),(24,i64 E.length),(25,i64 k),(60,.slice e.a e.l.length e.c),(61,i64 e.l.length),(62,i64 j)])
  (λj m y=>Ext w y/\af.heap.size<=y.heap.size/\y.heap[wb]? =some (.cells #[cM wp] 133)/\tp w1.heap.size y (.slice da A.length dc) m/\PV mb r y/\pg eb E y/\y.heap[xb]? =some (.cells #[i64 e.s,.slice e.a e.l.length e.c] 29)/\m.length=A.length/\(∀x∈m,tD (100000+1000*k+j) x)/\iH H.tries e.s ys e.l=iH H.tries e.s m (e.l.drop j)) ys ⟨by trivial,E9.trans z,cJ _,z.at_ ae,bm.keep (z.keep λ_=>False) (λ_ _ h=>h),z.at_ aJ,bn.ext z,az,R,aH,rfl⟩ ?_ ?_ ?_
 rintro j m ar hj hJ;exact du ⟨rfl,rfl,by trivial,hJ⟩;rintro j m ar hj ⟨T,bp,I,ag,ah,ai,Q,U,au,D⟩;obtain⟨lb,lo,a2,a3⟩:=(aU.ext T) j hj;obtain⟨d,hd⟩:∃d,d=e.l[j]:=⟨_,rfl⟩;rw[<-hd]at a3;have av:d<A.length:=by rw[hd];exact ap _ (ef hj)
 rw[a2];refine fw j hj (cu a3 ?_);rw[<-a2];rcases ag with⟨h0,_⟩|⟨sb,c',a4,M,hS⟩;rw[h0]at U;simp at U;omega;injection M with M _ ad;subst M;subst ad;have aw:d<m.length:=by omega
 have bK:sb<w2.heap.size:=(ay sb (by omega) ⟨_,_,rfl⟩).2;have bt:w1.heap.size<=sb:=a4;have aA:=h.ext T;obtain⟨bu,bv,t1,t2,t3,t4⟩:=aA.at_;have D:=D;rw[wR _ _ _ _ j hj,<-hd,getD_eq aw]at D;have aM:∀{y},nF sb m y->∀i v,(ly m[d])[i]? =some v->y.cell? ⟨sb,0+d*8+i,none⟩=some v:=λhS i v hi=>by obtain⟨cs,y1,y2,y3⟩:=hS.out;exact cr y1 (by rw[cG];exact y3 d aw i v hi)
 have a5:ar.cell? ⟨sb,0+d*8+4+e.s/2,none⟩=some (.bool (nO m[d] (e.s/2))):=by
  have:(ly m[d])[4+e.s/2]? =some (.bool (nO m[d] (e.s/2))):=by
   obtain h0|h0|h0:e.s/2=0\/e.s/2=1\/e.s/2=2:=by omega
   all_goals rw[h0];rfl
  have:=aM hS _ _ this;rwa[<-vF]at this
 have aB:∀y,Ext ar y->iH H.tries e.s ys e.l=none->∃v,Ending.returned (one [.bool false])=.returned v/\v=.bool (rV H A canv Y)/\Ext w y:=λy e' hn=>⟨_,rfl,by rw[hn]at f;rw[aa,f];rfl,T.trans e'⟩;refine cX cV (cK (cr Q rfl) (dx (i64 (e.s/2:Nat)) (λP _=>kG (n:=2) (by omega) (by omega) ⟨rfl,Ext.refl _⟩) (gE d 8 av (dx (.pointer (some ⟨sb,0+d*8+4+e.s/2,none⟩)) (λP _=>xg 3 (by omega) ⟨rfl,Ext.refl _⟩) (cK a5 ⟨λh1=>?_,λh1=>?_⟩)))));exactλP F=>jZ rfl (aB P F (by rw[D,cB (by rw[h1];rfl)]));refine cK (cr I rfl) (cK t1 (gE d 8 av (dx (.agg (ly m[d]).toArray) (λP F=>dJ (vs:=ly m[d]) (aM (hS.ext F)) ⟨rfl,Ext.refl _⟩) (fh (.bool (eZ H.tries m[d])) (λP F=>um (aA.g.ext F) m[d]) λP F=>⟨λh2=>?_,λh2=>?_⟩))));exact aB P F (by rw[D,cB (by rw[h2];simp)]);rw[cy (by rw[h1,h2];simp)]at D;have a7:=au _ (ef aw);have bq:(0<=m[d].tries/\m[d].tries<=1000000)/\(0<=m[d].mornings/\m[d].mornings<=1000000)/\0<=m[d].evenings/\m[d].evenings<=1000000:=by obtain⟨z1,z2,z3⟩:=a7;omega
 have aC:=hS.ext F;have a8:=F.at_ Q;refine cX cV (gE d 8 av (dx (.agg (ly m[d]).toArray) (λaN aj=>dJ (vs:=ly m[d]) (aM (aC.ext aj)) ⟨rfl,Ext.refl _⟩) (cK (cr a8 rfl) (fh (.agg (ly (gm m[d] e.s false)).toArray) (λaN aj=>AH m[d] e.s false aN B bq) (gE d 8 av λaN aj=>?_)))));have W:=F.trans aj;refine ME (aC.ext aj) d 0 aw (by omega) (gm m[d] e.s false) (qb rfl) (λi u hi=>?_) λbL X a9=>?_;have br:i<8:=(iI.1 hi).1;rw[cB ⟨fV _,br⟩];exact hi;have bM:=W.size;refine cF ⟨m.set d (gm m[d] e.s false),by trivial,(T.trans W).cC X (by omega),by have:=X.size;omega,X.fe (W.at_ I) (by omega),.inr ⟨sb,dc,a4,by rw[xp,U],a9⟩,X.fe (W.at_ ah) (by omega),(ai.ext W).keep X (by omega),X.fe (W.at_ Q) (by omega),by simpa using U,λx J=>?_,D⟩;rcases tG J with J|rfl;exact(au x J).le (by omega);exact(a7.QU e.s false).le (by omega);rintro m ar ⟨T,bp,I,ag,ah,ai,Q,U,au,D⟩;have D:iH H.tries e.s ys e.l=some m:=by rw[D];simp[iH]
 rw[D]at f;simp only at f;refine cF ⟨(m,r),by trivial,T,by omega,I,ag,ah,.inr ⟨eb,ec,bi,rfl,ai⟩,U,λx J=>(au x J).le (by omega),aZ,f⟩;rintro⟨ys,t⟩ w6 ⟨E6,s6,ab,ac,aG,aS,R,aH,L,f⟩;simp only at ac R f;have f:ji H canv A (λ_=>0) (E.map J3)=some ys:=by rw[f,List.drop_of_length_le (by simp)];rfl
 obtain⟨a6,c6,q1,q2⟩:=ac.Vu;injection q1 with q1 _ q3;subst q1;subst q3;have aD:=J1 (h.ext E6) ab q2 (c:=dc) (by omega);rw[R]at aD;refine dG aD λw7 e7=>ei ⟨_,rfl,?_,E6.trans e7⟩;rw[aa,f];rfl
def wN.Uw{w b:cn}{gp mk ms:Nat}{G:Gd}(h:wN w gp mk ms G b):kQ (λ_=>False) mk ms G b:=
 ⟨⟨#[],0,h.sm,λe a=>by cases a⟩,⟨#[],0,h.km,λe a=>by cases a⟩,λh=>h,λh=>h⟩
def dP(G:Gd)(l:List Tq)(a b:Int):Int:=if jQ G l=0 then(if rm G (dZ l) a=0 then(if kP b 0 5 then 0 else 1)else rm G (dZ l) a)else jQ G l
def Np(w:cn)(G:Gd)(l:List Tq)(e:Int)(v:cq)(b:cn):Prop:=
 (e≠0/\v=.tuple #[.pointer none,.int .i64 e])\/(e=0/\∃a c mk d,v=.tuple #[cM a,.int .i64 0]/\ED w a c mk d G (fQ G l).2 (dZ l) b/\∀x∈(fQ G l).2,tD 100000 x)
section
variable{G:Gd}{da:Option Addr}{dc:Nat}{w:cn}{l:List Tq}{la:Option Addr}{lc:Nat}
def mJ(o:fZ w da G.doors)(g:G.doors.length<=100000)(p:ja w la l)(h:l.length<=100000)(a b:Int):
 Calls V.prog 105 #[gV G da dc,.slice la l.length lc,.int .i64 a,.int .i64 b] w (fi λv m=>Ext w m/\Np w G l (dP G l a b) v m):=by
 refine gd Tryz.func105 Tryz.ntmps105 ?_;refine ej λz A f q r=>dA r (cD (mP (dc:=dc) (o.ext f) g (p.ext f) h) ?_);rintro v B ⟨i,⟨d,rfl⟩|⟨d,s,t,mk,u,rfl,n,y⟩⟩;exact fD (jZ (by simpa using d) ⟨_,rfl,f.trans i,.inl ⟨by unfold dP;rw[cy d];exact d,by unfold dP;rw[cy d];rfl⟩⟩);refine fD (lx (by simp) (dg (Pp n.k a) (fD ⟨λc=>?_,λc=>?_⟩)));have c:¬rm G (dZ l) a=0:=dO c;exact⟨_,rfl,f.trans i,.inl ⟨by unfold dP;rw[cB d,cy c];exact c,by unfold dP;rw[cB d,cy c];rfl⟩⟩;have c:rm G (dZ l) a=0:=by simpa using c
 refine dg (eY _ _ _ _) (ei ⟨λe=>?_,λe=>?_⟩);have e:kP b 0 5=false:=by simpa using e
 exact⟨_,rfl,f.trans i,.inl ⟨by unfold dP;rw[cB d,cB c,e];decide,by unfold dP;rw[cB d,cB c,e];rfl⟩⟩;have e:kP b 0 5=true:=by simpa using e
 exact⟨_,rfl,f.trans i,.inr ⟨by unfold dP;rw[cB d,cB c,e];rfl,s,t,mk,u,rfl,n.low f,λx j=>(y x j).le h⟩⟩
def ko(b:G.Ok)(h:dP G l I J=0):∃f:Nat,I=f/\f<=eS G/\f<2*G.days:=by unfold dP at h;split at h;split at h;rename_i a;unfold rm at a;split at a;rename_i c;simp only[kP,dW,iQ]at c;have:=b.days;exact⟨I.toNat,by omega,by unfold eS;omega,by omega⟩;omega;rename_i a;exact absurd h a;rename_i d;exact absurd h d
def Se(a:Nat)(o:Option (List cz))(v:cq)(w:cn):Prop:=match o with
 |none=>v=.tuple #[.slice none 0 0,.int .i64 11]
 |some b=>∃u,v=.tuple #[u,.int .i64 0]/\gU a w u b
def EY(y:fZ w da G.doors)(k:G.doors.length<=100000){ds:List Int}{a:Option Addr}{c:Nat}(D:gF w a ds)(m:ds.length<=100000)(H:ds.length<=c):
 Calls V.prog 69 #[gV G da dc,.slice a ds.length c] w (fi λv E=>Ext w E/\((my G ds≠0/\v=.tuple #[.slice none 0 0,.int .i64 (my G ds)])\/(my G ds=0/\Se w.heap.size (gH G (io (ds.map Int.toNat))) v E))):=by
 refine gd Tryz.func69 Tryz.ntmps69 ?_;refine ej λT U i I z=>dA z (cD (yG (dc:=dc) (y.ext i) k (D.ext i) m H) ?_);rintro v J ⟨t,⟨n,rfl⟩|⟨n,W,mk,X,rfl,o⟩⟩;have e:my G ds=dK G:=by simp[my,n]
 exact fD (jZ (by simpa using n) ⟨_,rfl,i.trans t,.inl ⟨by rw[e];exact n,by rw[e];rfl⟩⟩);have e:my G ds=ig G.doors.length ds:=by simp[my,n]
 refine fD ⟨λf=>?_,λf=>?_⟩;have f:¬ig G.doors.length ds=0:=dO f;exact⟨_,rfl,i.trans t,.inl ⟨by rw[e];exact f,by rw[e];rfl⟩⟩;have f:ig G.doors.length ds=0:=by simpa using f
 obtain⟨j,rfl,p⟩:=od f;have A:=o.g.uh;have K:=A.many;have L:(pI j).length=j.length:=by simp[pI]
 have q:(pI j).map Int.toNat=j:=by simp[pI,Ct]
 have B:=(D.ext (i.trans t)).En;rw[L]at m⊢;rw[q];have r:=nP.io (G:=G) K (l:=j) p;refine dg (rS j a c J B (λd y=>by have:=p d y;omega) m) (cD (yN (n0:=w.heap.size) o.g (λb z=>z.elim) o.Uw (by have:=o.lo;have:=i.size;omega) (by have:=o.lo;have:=i.size;omega) r) ?_);rintro v F ⟨M,u,b,rfl,h⟩;have C:Ext w F:=M.1.from (i.trans t) (cJ _);cases x:gH G (io j)with
 |none=>
  rw[x]at h;obtain⟨rfl,rfl⟩:=h;exact ei (jZ rfl ⟨_,rfl,C,.inr ⟨by rw[e];exact f,rfl⟩⟩)
 |some N=>
  rw[x]at h;obtain⟨rfl,O,P,rfl,s,_⟩:=h;have Q:=pR x;refine ei (lx rfl (cD (GH N O P F s.rows (by omega) λl m=>by have:=zg x l m;omega) ?_));rintro v Y ⟨R,S⟩;exact⟨_,rfl,C.trans R,.inr ⟨by rw[e];exact f,_,rfl,S.low C.size⟩⟩
end
def gP(G:Gd)(b:List Sx)(a:Nat)(d:Nat):Bool:=(fX G (b.getD d lM) a).isEmpty||!nG G (io [d])
def A1(G:Gd)(b:List Sx)(a:Nat):cz:=(dn G.tries b).filter (gP G b a)
def PW(a:Nat)(o:Option (List (Nat×cz)))(v:cq)(w:cn):Prop:=match o with
 |none=>v=.tuple #[.slice none 0 0,.int .i64 11]
 |some b=>∃u,v=.tuple #[u,.int .i64 0]/\ml a w u b
section
variable{G:Gd}{da:Option Addr}{dc:Nat}{w:cn}{l:List Tq}{la:Option Addr}{lc:Nat}
def G5(t:fZ w da G.doors)(i:G.doors.length<=100000)(x:ja w la l)(m:l.length<=100000)(a:Int):
 Calls V.prog 48 #[gV G da dc,.slice la l.length lc,.int .i64 a] w (ux λv n=>Ext w n/\((dP G l a 0≠0/\v=.tuple #[.slice none 0 0,.int .i64 (dP G l a 0)])\/(dP G l a 0=0/\PW w.heap.size (zd G (jo G (fQ G l).2 a.toNat)) v n))):=by
 refine gd Tryz.func48 Tryz.ntmps48 ?_;refine ej λE F c y o=>dA o (cD (mJ (dc:=dc) (t.ext c) i (x.ext c) m a 0) ?_);rintro v H ⟨p,⟨d,rfl⟩|⟨d,I,J,mk,K,rfl,j,z⟩⟩;exact fD (jZ (by simpa using d) (.inl ⟨_,rfl,c.trans p,.inl ⟨d,rfl⟩⟩));have A:=j.g.lo;have L:=c.size;obtain⟨f,rfl,q,_⟩:=ko j.k.g.uh d;refine fD (lx (by simp) (iW (PT (n0:=w.heap.size) j.k (λb o=>o.elim) j.g.Uw (by omega) (by omega) z q) (λn h=>.inr ⟨rfl,h⟩) ?_));rintro v B ⟨C,e⟩;have r:Ext w B:=C.1.from (c.trans p) (cJ _);rw[mT];cases s:zd G (jo G (fQ G l).2 f)with
 |none=>
  rw[s]at e;have e:v=.tuple #[.slice none 0 0,.bool false]:=e;subst e;exact ei (jZ rfl (.inl ⟨_,rfl,r,.inr ⟨d,rfl⟩⟩))
 |some M=>
  rw[s]at e;obtain⟨u,rfl,D⟩:=e;exact ei (lx rfl (.inl ⟨_,rfl,r,.inr ⟨d,u,rfl,D.low (by have:=(c.trans p).size;omega)⟩⟩))
def EZ(s:fZ w da G.doors)(e:G.doors.length<=100000)(t:ja w la l)(n:l.length<=100000)(d canv:Int):
 Calls V.prog 55 #[gV G da dc,.slice la l.length lc,.int .i64 d,.int .i64 canv] w (ux λv o=>Ext w o/\((dP G l d canv≠0/\v=.tuple #[.slice none 0 0,.int .i64 (dP G l d canv)])\/(dP G l d canv=0/\∃a c,v=.tuple #[.slice a (oH (tt G (fQ G l).2 d.toNat canv) (dn G.tries (fQ G l).2)).length c,.int .i64 0]/\fN o a (oH (tt G (fQ G l).2 d.toNat canv) (dn G.tries (fQ G l).2))/\(oH (tt G (fQ G l).2 d.toNat canv) (dn G.tries (fQ G l).2)).length<=c))):=by
 refine gd Tryz.func55 Tryz.ntmps55 ?_;refine ej λC D i u p=>dA p (cD (mJ (dc:=dc) (s.ext i) e (t.ext i) n d canv) ?_);rintro v E ⟨r,⟨j,rfl⟩|⟨j,F,H,mk,I,rfl,m,x⟩⟩;exact fD (jZ (by simpa using j) (.inl ⟨_,rfl,i.trans r,.inl ⟨j,rfl⟩⟩));have y:=m.g.lo;have J:=i.size;obtain⟨f,rfl,q,_⟩:=ko m.k.g.uh j;refine fD (lx (by simp) (iW (Nm (n0:=w.heap.size) (canv:=canv) m.k (λb p=>p.elim) m.g.Uw (by omega) (by omega) x q) (λo h=>.inr ⟨rfl,h⟩) ?_));rintro v K ⟨z,a,c,rfl,A,B⟩;rw[mT];exact .inl ⟨_,rfl,z.1.from (i.trans r) (cJ _),.inr ⟨j,a,c,rfl,A,B⟩⟩
def zk(hd:fZ w da G.doors)(Y:G.doors.length<=100000)(hr:ja w la l)(ag:l.length<=100000)(h:Int):
 Calls V.prog 53 #[gV G da dc,.slice la l.length lc,.int .i64 h] w (fi λv W=>Ext w W/\((dP G l h 0≠0/\v=.tuple #[.slice none 0 0,.int .i64 (dP G l h 0)])\/(dP G l h 0=0/\∃u,v=.tuple #[u,.int .i64 0]/\fE w.heap.size W u (A1 G (fQ G l).2 h.toNat)))):=by
 refine gd Tryz.func53 Tryz.ntmps53 ?_;refine ej λw1 gb Z ar m=>dA m (cD (mJ (dc:=dc) (hd.ext Z) Y (hr.ext Z) ag h 0) ?_);rintro v w2 ⟨e2,⟨z,rfl⟩|⟨z,wp,gp,mk,K,rfl,hg,X⟩⟩;exact fD (jZ (by simpa using z) ⟨_,rfl,Z.trans e2,.inl ⟨z,rfl⟩⟩);have au:=hg.g.lo;have s1:=Z.size;have aa:=hg.k.g.uh;have h5:=aa.many;have ah:=hg.k.len;obtain⟨f,rfl,ai,_⟩:=ko aa z;obtain⟨c,aj⟩:∃c,c=(fQ G l).2:=⟨_,rfl⟩;have hk:=hg.k;rw[<-aj]at hk X ah⊢;have aq:=lN G.tries c;refine fD (lx (by simp) (cD (xh hk) ?_));rintro ov L ⟨e3,al⟩;obtain⟨oa,oc,rfl,am,av⟩:=al.row;have E2:=Z.trans e2;have E3:=E2.trans e3;have s2:=E2.size;rw[mT];have M:∀b,¬cH (.slice none 0 0) b:=λb m=>by obtain⟨_,_,m⟩:=m;cases m
 refine cS ?_;refine gT (n:=(dn G.tries c).length) (λk v=>[(2,i64 f),(8,cM wp),(10,v),(24,.slice oa (dn G.tries c).length oc),(25,i64 (dn G.tries c).length),(26,i64 k)]) (λk v W=>iV w.heap.size L W/\kQ (cH v) mk K G W/\fE L.heap.size W v (((dn G.tries c).take k).filter (gP G c f))) (.slice none 0 0) ⟨by trivial,iV.refl _ _,(hg.g.Uw.ext e3).more λb m=>absurd m (M b),cR.nil _ _ _ _⟩ ?_ ?_ ?_;rintro k v I ab hJ;exact du ⟨rfl,rfl,by trivial,hJ⟩;rintro k v I B ⟨N,C,y⟩;obtain⟨b,o,rfl,hc⟩:=(am.gG N) k B;obtain⟨d,O⟩:∃d,d=(dn G.tries c)[k]:=⟨_,rfl⟩;have P:d<c.length:=by rw[O];exact kO (ef B)
 rw[<-O]at hc;have Q:=hk.gG ((e3.gG w.heap.size).trans N);have J:=nP.io (G:=G) h5 (l:=[d]) λx X=>by rw[iJ.1 X];omega
 obtain⟨sa,sc,g1,g2,g3,g4⟩:=Q.at_;have R:=wO w.heap.size mk K G (cH v);have an:∀b,cH v b->b<I.heap.size:=λb m=>(cR.blk y m).2;have A:(dn G.tries c).take (k+1)=(dn G.tries c).take k++[d]:=by rw[jc B,O]
 have aw:(((dn G.tries c).take k).filter (gP G c f)).length<=5:=by have:=List.length_filter_le (gP G c f) ((dn G.tries c).take k);simp only[KT]at this;omega
 have S:gP G c f d=((fX G c[d] f).isEmpty||!nG G (io [d])):=by unfold gP;rw[getD_eq P]
 have same:∀j,MA w.heap.size mk K G (cH v) I j->gP G c f d=false->iV w.heap.size L j/\kQ (cH v) mk K G j/\fE L.heap.size j v (((dn G.tries c).take (k+1)).filter (gP G c f)):=λj m5 hf=>by
  refine⟨N.trans m5.1,m5.2 C,?_⟩;have e:((dn G.tries c).take (k+1)).filter (gP G c f)=((dn G.tries c).take k).filter (gP G c f):=by rw[A,List.filter_append,List.filter_cons,hf];simp
  rw[e];exact cR.gG y m5.1
 have ac:∀j,MA w.heap.size mk K G (cH v) I j->gP G c f d=true->∀k':cq->cn->Prop,(∀D q,iV w.heap.size L q->kQ (cH D) mk K G q->fE L.heap.size q D (((dn G.tries c).take (k+1)).filter (gP G c f))->k' D q)->∀(p:Nat) (q:cn),Ext j q->q.heap[p]? =some (.cells [i64 d].toArray 3)->∀(t:cw) (cb:Array Bool),zV V.prog (builtin .append #[27,27] t cb #[v,.slice (some ⟨p,0,none⟩) 1 1]) q k':=λj m5 ht k' ab p q E m t cb=>by
  have F:MA w.heap.size mk K G (cH v) I q:=R.trans _ _ _ m5 (E.ma _ _ _ _ _);have ad:fE L.heap.size q v (((dn G.tries c).take k).filter (gP G c f)):=cR.gG y F.1;have T:=F.2 C;refine gq sg ad (by have:=N.size;have:=F.1.size;omega) m (by omega) λD w7 z r h3=>ab D w7 ((N.trans F.1).ia r ad (cJ _)) ?_ ?_;exact T.go (λb m=>h3 b m) (λb o v m hc=>r.eP hc m) λb o m ho=>r.fe ho λhf=>by rcases m with rfl|rfl;exact T.ak hf;exact T.asm hf
  have e:((dn G.tries c).take (k+1)).filter (gP G c f)=((dn G.tries c).take k).filter (gP G c f)++[d]:=by rw[A,List.filter_append,List.filter_cons,ht];simp
  rw[e];simpa[fE,jy]using z
 refine fw k B (cu hc ?_);refine cX R ?_;refine .rel (λu j=>gU I.heap.size j u (fX G c[d] f)) (λu a b hu e=>hu.gG e.1) (λj s=>cD (EI (Q.gG s.1) P (X _ (ef P)) ai) λu q ⟨E,hu⟩=>⟨hu.low s.1.size,E.ma _ _ _ _ _⟩) ?_;refine .exact (i64 (fX G c[d] f).length) (λj s U ao=>?_) ?_;obtain⟨a3,c3,rfl,_⟩:=gU.row (show gU I.heap.size j U (fX G c[d] f)from ao);exact cS ⟨rfl,R.refl _⟩;refine Ed ⟨λr=>?_,λr=>?_⟩ R;have r:(fX G c[d] f).length=0:=by have:=dO r;omega
 have hl:gP G c f d=true:=by rw[S,oL r];rfl
 exactλj s U _=>jZ rfl (eg [i64 d] 3 λq p E H m=>ac j s hl _ (λD w7 q1 q2 q3=>cF ⟨D,by trivial,q1,q2,q3⟩) p q E m _ _);have r:¬(fX G c[d] f).length=0:=λe=>by have:=ee r;omega
 have ae:(fX G c[d] f).isEmpty=false:=by
  cases hq:fX G c[d] f with
  |nil=>rw[hq]at r;exact absurd rfl r
  |cons _ _=>rfl
 refine .exact (cM gp) (λj s=>cu (s.1.cell g1) ⟨rfl,R.refl _⟩) ?_;refine .rel (λu j=>∃p,u=.slice (some ⟨p,0,none⟩) 1 1/\j.heap[p]? =some (.cells [Value.int .i64 d].toArray 3)) (λu a b ⟨p,z,r⟩ e=>⟨p,z,e.1.at_ r⟩) (λj s=>eg [i64 d] 3 λq p E H m=>⟨⟨p,rfl,m⟩,E.ma _ _ _ _ _⟩) ?_;refine .exact (.int .u8 (io [d])) (λj s af ap=>?_) ?_;obtain⟨p,rfl,H⟩:∃p,af=.slice (some ⟨p,0,none⟩) 1 1/\j.heap[p]? =some (.cells [Value.int .i64 d].toArray 3):=ap
 exact dg (rS [d] _ 1 j (λi hi=>⟨p,0,rfl,cr H (by have:i=0:=by simp at hi;omega
                                                  subst this;rfl)⟩) (λx X=>by rw[iJ.1 X];omega) (by simp)) ⟨rfl,R.refl _⟩
 refine .exact (.bool (nG G (io [d]))) (λj s=>cD (BT (Q.g.gG s.1) (λb m=>dE (an b m) s.1.size) (s.2 C) (by omega) J.1 J.2) λu q ⟨z,r⟩=>⟨z,r⟩) ?_;refine kF ?_ R;intro j s af _ U _;refine⟨λh3=>?_,λh3=>?_⟩;have hl:gP G c f d=true:=by rw[S,ae,h3];rfl
 exact eg [i64 d] 3 λq p E H m=>ac j s hl _ (λD w7 q1 q2 q3=>cF ⟨D,by trivial,q1,q2,q3⟩) p q E m _ _;have hl:gP G c f d=false:=by rw[S,ae,h3];rfl
 exact cF ⟨v,by trivial,same j s hl⟩;rintro v I ⟨N,C,y⟩;rw[mW]at y;exact⟨_,rfl,N.from E3 (cJ _),.inr ⟨z,v,rfl,y.low E3.size⟩⟩
end
def zl(w:cn)(a:ek)(c:List (Int×gC)):Prop:=∀k (h:k<c.length),∃b o d e,a=some ⟨b,o,none⟩/\w.cell? ⟨b,o+k*2,none⟩=some (.int .i64 c[k].1)/\w.cell? ⟨b,o+k*2+1,none⟩=some (.slice d c[k].2.length e)/\gF w d c[k].2/\c[k].2.length<=e
theorem zl.ext{w c:cn}{a:ek}{d:List (Int×gC)}(h:zl w a d)(e:Ext w c):zl c a d:=λk f=>by obtain⟨b,o,g,i,j,l,m,n,p⟩:=h k f;exact⟨b,o,g,i,j,e.cell l,e.cell m,n.ext e,p⟩
def ky(n:Int)(a last:Int):List (Int×gC)->Int
 |[]=>0
 |p::r=>if kP p.1 a last then(if ig n p.2=0 then ky n a last r else ig n p.2)else 3
def B6(n a last:Int)(b:List (Int×gC))(k:Nat)(c:k<b.length):ky n a last (b.drop k)=if kP b[k].1 a last then(if ig n b[k].2=0 then ky n a last (b.drop (k+1))else ig n b[k].2)else 3:=by rw[sn c];rfl
def NZ(p:Int×gC):Nat×cz:=(p.1.toNat,p.2.map Int.toNat)
theorem zm{n:Nat}{a last:Int}:∀{d:List (Int×gC)},ky n a last d=0->∀p∈d,kP p.1 a last=true/\ig n p.2=0
 |p::r,h,q,b=>by simp only[ky]at h;split at h;rename_i e;split at h;rename_i c;rcases eO.1 b with rfl|b;exact⟨e,c⟩;exact zm h q b;rename_i c;exact absurd h c;omega
theorem zl.En{n:Nat}{c last:Int}{w:cn}{a:ek}{f:List (Int×gC)}(h:zl w a f)(J:0<=c)(x:ky n c last f=0):vw w a (f.map NZ)/\∀p∈f.map NZ,(p.1:Int)<=last/\∀d∈p.2,d<n:=by
 have t:=zm x;refine⟨λk y=>?_,λp z=>?_⟩;have i:k<f.length:=by simpa using y
 obtain⟨b,o,A,B,C,D,l,u,m⟩:=h k i;obtain⟨r,s⟩:=t _ (ef i);obtain⟨g,j,v⟩:=od s;have e:(pI g).map Int.toNat=g:=by simp[pI,Ct]
 have E:((f.map NZ)[k]).2=g:=by simp[NZ,j,e]
 have F:(((f.map NZ)[k]).1:Int)=f[k].1:=by simp only[kP,dW,iQ]at r;simp only[List.getElem_map,NZ];omega
 rw[E];rw[j]at l u m;have G:(pI g).length=g.length:=by simp[pI]
 rw[G]at l m;exact⟨b,o,A,B,C,by rw[F];exact D,l,u.En,m⟩;obtain⟨q,H,rfl⟩:=mq.1 z;obtain⟨r,s⟩:=t q H;obtain⟨g,j,v⟩:=od s;have e:(pI g).map Int.toNat=g:=by simp[pI,Ct]
 simp only[kP,dW,iQ]at r;refine⟨by simp only[NZ];omega,λd I=>v d ?_⟩;simpa[NZ,j,e]using I
def oh(G:Gd)(l:List Tq)(a b:Int)(c:List (Int×gC)):Bool×Int:=
 if dP G l a b=0 then(if ky G.doors.length a (2*G.days-1) c=0 then(rV G (fQ G l).2 b (c.map NZ),0)else(false,ky G.doors.length a (2*G.days-1) c))else(false,dP G l a b)
section
variable{G:Gd}{da:Option Addr}{dc:Nat}{w:cn}{l:List Tq}{la:Option Addr}{lc:Nat}
def B7(S:fZ w da G.doors)(C:G.doors.length<=100000)(hr:ja w la l)(T:l.length<=100000)(h canv:Int){ps:List (Int×List Int)}{O:Option Addr}{pc:Nat}(hp:zl w O ps)(U:ps.length<=20)(D:∀p∈ps,p.2.length<=1000):
 Calls V.prog 38 #[gV G da dc,.slice la l.length lc,.int .i64 h,.int .i64 canv,.slice O ps.length pc] w (fi λv u=>Ext w u/\v=.tuple #[.bool (oh G l h canv ps).1,.int .i64 (oh G l h canv ps).2]):=by
 refine gd Tryz.func38 Tryz.ntmps38 ?_;refine ej λw1 gb P ae hb=>dA hb (cD (mJ (dc:=dc) (S.ext P) C (hr.ext P) T h canv) ?_);rintro v w2 ⟨e2,⟨A,rfl⟩|⟨A,wp,gp,mk,ms,rfl,hg,hx⟩⟩;exact fD (jZ (by simpa using A) ⟨_,rfl,P.trans e2,by unfold oh;rw[cy A];rfl⟩);have E:=hg.k;have x:=E.g.uh;have h5:=x.many;have W:=E.len;obtain⟨f,rfl,af,ag⟩:=ko x A;have Q:=P.trans e2;obtain⟨sa,sc,g1,g2,g3,g4⟩:=E.at_;refine fD (lx (by simp) (cS ?_));refine eE (n:=ps.length) (λk=>[(2,i64 f),(3,i64 canv),(4,.slice O ps.length pc),(12,cM wp),(28,.slice O ps.length pc),(29,i64 ps.length),(30,i64 k)]) (λk u=>Ext w2 u/\ky G.doors.length f (2*G.days-1) ps=ky G.doors.length f (2*G.days-1) (ps.drop k)) ⟨by trivial,Ext.refl _,rfl⟩ ?_ ?_ ?_;rintro k X ah hJ;exact du ⟨rfl,rfl,by trivial,hJ⟩;rintro k X s ⟨B,a⟩;obtain⟨b,o,a',c',rfl,q1,q2,q3,q4⟩:=(hp.ext (Q.trans B)) k s;rw[B6 _ _ _ _ _ s]at a;have y:=D _ (ef s);obtain⟨p,Y⟩:∃p,p=ps[k]:=⟨_,rfl⟩;rw[<-Y]at q1 q2 q3 q4 a y;refine eN k 2 s (dJ (vs:=[i64 p.1,.slice a' p.2.length c']) (λj v F=>?_) (eD λw4 xb Z aa H=>dq H λw5 k5 t=>?_));match j,F with
 |0,F=>cases F;exact q1
 |1,F=>cases F;exact q2
 have t:w5.heap[xb]? =some (.cells #[i64 p.1,.slice a' p.2.length c'] 29):=t;have I:Ext X w5:=Z.cC k5 aa;have m:=B.trans I;have J:=E.ext m;have K:∀u (c:Int),Ext w5 u->ky G.doors.length f (2*G.days-1) ps=c->c≠0->∃v,Ending.returned (one [.bool false,i64 c])=.returned v/\Ext w u/\v=.tuple #[.bool (oh G l f canv ps).1,i64 (oh G l f canv ps).2]:=λu c e hc h0=>⟨_,rfl,(Q.trans m).trans e,by unfold oh;rw[cB A,hc,cy h0];rfl⟩;refine cX cV (cK (cr t rfl) (cK (m.cell g1) (iC cV _ (λR r=>last_at (J.g.ext r)) (iC cV _ (λR r=>eY _ _ _ R) (kF λR r=>⟨λz=>?_,λz=>?_⟩)))));have z:kP p.1 f (2*G.days-1)=false:=by simpa using z
 exact K R 3 r (by rw[a,cy (by rw[z];simp)]) (by omega);have z:kP p.1 f (2*G.days-1)=true:=by simpa using z
 rw[cB z]at a;have ab:=J.ext r;refine cX cV (cK (r.cell (m.cell g1)) (cK (cr (r.at_ t) rfl) (iC cV _ (λw7 L=>AG (ab.g.ext L) ((q3.ext (I.trans r)).ext L) (by omega) q4) λw7 L=>fD ⟨λi=>?_,λi=>?_⟩)));have i:¬ig G.doors.length p.2=0:=dO i;exact K w7 _ (r.trans L) (by rw[a,cy i]) i;have i:ig G.doors.length p.2=0:=by simpa using i
 rw[cB i]at a;exact cF ⟨by trivial,(m.trans r).trans L,a⟩;rintro X ⟨B,a⟩;have a:ky G.doors.length f (2*G.days-1) ps=0:=by rw[a,List.drop_of_length_le (cJ _)];rfl
 obtain⟨ac,M⟩:=(hp.ext (Q.trans B)).En (by omega) a;have ai:=x.days;have N:=J4 (canv:=canv) (pc:=pc) (E.ext B) hx ac (by simpa using U) λq hq=>⟨by have:=(M q hq).1;omega,by obtain⟨q',ad,rfl⟩:=mq.1 hq;have:=D q' ad;simpa[NZ]using this,λd S=>by rw[W];exact(M q hq).2 d S⟩;rw[tF]at N;refine dG N λw4 Z=>⟨_,rfl,(Q.trans B).trans Z,?_⟩;unfold oh;rw[cB A,cB a];rfl
end
def Fa(l a:List (Nat×List Nat))(la j:Option Addr)(lc n:Nat)(w:cn)(D:vw w la l)(s:vw w j a)(B:l.length<=100000)(t:∀x∈l,x.2.length<=100000):
 Calls V.prog 42 #[.slice la l.length lc,.slice j a.length n] w (fi λv r=>v=.bool (decide (l=a))/\Ext w r):=by
 refine gd Tryz.func42 Tryz.ntmps42 ?_;refine cS (cS (fD ⟨λh=>?_,λh=>?_⟩));have h:¬l=a:=λe=>by subst e;simp at h
 exact⟨_,rfl,by simp[h],Ext.refl _⟩;have h:l.length=a.length:=by simp at h;omega
 refine fW l.length (λk (_:Unit)=>[(0,.slice la l.length lc),(1,.slice j a.length n),(5,i64 k)]) (λk _ r=>Ext w r/\l.take k=a.take k) () ⟨by trivial,Ext.refl _,by simp⟩ ?_;rintro k _ r K ⟨e,C⟩;refine cS (du ⟨λd=>?_,λp=>?_⟩);have d:k<l.length:=by simpa using d
 have i:k<a.length:=by omega
 obtain⟨b,o,x,c,rfl,E,u,F,_⟩:=(D.gG (e.gG 0)) k d;obtain⟨L,M,G,H,rfl,y,q,z,_⟩:=(s.gG (e.gG 0)) k i;refine cX cV (gE k 2 d (cK E (gE k 2 i (cK y (QK ⟨λf=>?_,λf=>?_⟩)))));have f:¬l[k].1=a[k].1:=λe=>dO f (by rw[e]);have:¬l=a:=λe=>by subst e;exact f rfl
 exactλA m=>jZ rfl ⟨_,rfl,by simp[this],e.trans m⟩;have f:l[k].1=a[k].1:=by have:=ee f;omega
 refine gE k 2 d (cK u (gE k 2 i (cK q (fh (.bool (decide (l[k].2=a[k].2))) (λA m=>pM l[k].2 a[k].2 x G c H A (F.ext m) (z.ext m) (t _ (ef d))) (kF λA m=>⟨λg=>?_,λg=>?_⟩)))));have g:¬l[k].2=a[k].2:=by simpa using g
 have:¬l=a:=λe=>by subst e;exact g rfl
 exact⟨_,rfl,by simp[this],e.trans m⟩;have g:l[k].2=a[k].2:=by simpa using g
 refine cF ⟨d,(),by trivial,e.trans m,?_⟩;rw[jc d,jc i,C,Prod.ext f g];have p:¬k<l.length:=by simpa using p
 have:l=a:=by have I:l.take k=l:=vE (by omega);have J:a.take k=a:=vE (by omega);rw[<-I,<-J,C]
 exact⟨_,rfl,by simp[this],e⟩
def nK:List Tq:=[⟨0,0,false⟩,⟨1,0,true⟩,⟨2,1,false⟩]
def zn:iG fy [0,1,2,3]=38/\iU fy [0,1,2,3]=55/\my fy [0,1,2,3]=0:=by decide+kernel
def Fb:my fy [3,2,1,0]=0/\gH fy (io [3,2,1,0])=some [[0,1],[2,3]]:=by decide+kernel
def B8:List Sx:=[⟨1,1,0,false,true,false,false,false⟩,⟨1,1,0,true,true,false,false,false⟩,⟨1,0,1,false,true,false,false,false⟩,lM]
def Nq:fQ fy nK=(0,B8):=by rfl
def zo:dP fy nK 5 0=0/\dP fy nK 2 0=0/\dP fy nK 2 1=0/\dP fy [] 3 1=0:=by decide+kernel
def PX:A1 fy B8 5=[2,3]:=by decide+kernel
def Vv:ep:=⟨[0,2,3],[[[3],[5]],[[2],[4]],[[2,5],[3,4]]],[0,1,-1,-1,1,1,-1,-1,1,1,-1,-1,1,2,-1,-1,0,0,0,0,0,0,0,0,0,0,0,0,0,0,0,0]⟩
def Nr:jo fy B8 2=Vv:=by unfold jo Vv;rw[ep.mk.injEq];exact⟨by decide+kernel,by decide+kernel,by decide+kernel⟩
def PY:gN Vv=some ([0,1,1],1,2):=by decide+kernel
def PZ:zd fy (jo fy B8 2)=some [(3,[0,3]),(4,[2,3])]:=by rw[Nr];unfold zd;rw[PY];decide+kernel
def J5:oh fy nK 2 1 [(3,[0,3]),(4,[2,3])]=(true,0):=by decide+kernel
def G6:List Sx:=[lM,lM,lM,lM]
def P0:fQ fy []=(0,G6):=by rfl
def Ns:oH (tt fy G6 3 1) (dn fy.tries G6)=[0,1]:=by decide+kernel
def lP{l:gC}(h:w.heap[m]? =some (.cells (l.map (Value.int .i64)).toArray T)):gF w (some ⟨m,0,none⟩) l:=λk a=>⟨m,0,rfl,cr h (by rw[cG];simp[eV a])⟩
def mQ(h:w.heap[m]? =some (.cells (jy l).toArray T)):fN w (some ⟨m,0,none⟩) l:=λk a=>⟨m,0,rfl,cr h (by rw[cG];simp[jy,eV a])⟩
theorem A2:∀(l:List Tq) (k:Nat) (a:k<l.length) (j:Nat) (v:cq),(nQ l[k])[j]? =some v->(l.flatMap nQ)[k*3+j]? =some v
 |x::r,0,_,j,v,h=>by have b:j<(nQ x).length:=(iI.1 h).1;simp only[mV,Nat.zero_mul,cG];rw[nT b];exact h
 |x::r,k+1,a,j,v,h=>by have c:=A2 r k (by simpa using a) j v (by simpa using h);have d:(nQ x).length=3:=rfl;simp only[mV];rw[oM (by omega),d,show(k+1)*3+j-3=k*3+j by omega];exact c
def J6{l:List Tq}(h:w.heap[m]? =some (.cells (l.flatMap nQ).toArray T)):ja w (some ⟨m,0,none⟩) l:=λk a=>⟨m,0,rfl,λj v b=>cr h (by rw[cG];simpa using A2 l k a j v b)⟩
def Nt(w:cn):ja w none []:=λk a=>by simp at a
def rW{k:nd}{c:List PanicEntry->cU}(d:∀a b,Ext w a->fZ a (some ⟨b,0,none⟩) fy.doors->k (gV fy (some ⟨b,0,none⟩) 4) a):O9 V.prog 95 [] w k c:=
 cD (MC w) λv a ⟨e,b,_,f,g⟩=>by subst f;exact d a b e (Js g)
def zp{k:nd}{c:List PanicEntry->cU}(d:∀a b,Ext w a->ja a (some ⟨b,0,none⟩) nK->k (.slice (some ⟨b,0,none⟩) 3 3) a):O9 V.prog 96 [] w k c:=
 cD (Jt w) λv a ⟨e,b,_,f,g⟩=>by subst f;exact d a b e (J6 g)
def Nu:fy.doors.length<=100000/\ -1000000<=fy.streets/\fy.streets<=1000000:=by decide
def J7:vg fy [0,1,2,3]=.tuple #[.agg (mz 38 55).toArray,.int .i64 0]:=by unfold vg;rw[cB zn.2.2];show Value.tuple #[.agg (mz (iG fy [0,1,2,3]) (iU fy [0,1,2,3])).toArray,i64 0]=_;rw[zn.1,zn.2.1]
def XM{a:Func}{c:Code}{R:Ending->cU}(d:V.prog.funcs[K]? =some a)(e:a.ntmps=m)(h:dM V.prog m c (W.toList.zipIdx.map λp=>(p.2,p.1)) w (QR V.prog a.results.toList R))
 (f:a.body=some c:=by rfl)(b:Nat.ble W.toList.length m=true:=by rfl):Calls V.prog K W w R:=by
 have:=QF (args:=W.toList) m d f e (qb b) h;simpa using this
def Fc{a:Func}{c:Code}{R:Ending->cU}(d:Tryz.prog.funcs[K]? =some a)(e:a.ntmps=m)(h:dM V.prog m c (W.toList.zipIdx.map λp=>(p.2,p.1)) w (QR V.prog a.results.toList R))
 (f:a.body=some c:=by rfl)(b:Nat.ble W.toList.length m=true:=by rfl)(g:K≠163:=by decide):Calls V.prog K W w R:=XM (V.fn d g) e h f b
def rE(w:cn):Calls V.prog 26 #[] w (ux λv w'=>v=.bool true/\Ext w w'):=by
 obtain⟨d,bn⟩:=Nu;refine Fc Tryz.func26 Tryz.ntmps26 (dM.seq dj ?_);refine dM.seq dj<|rW λw1 b1 e1 aC=>eg [i64 0,i64 1,i64 2,i64 3] 3 λw2 bs e2 bo aD=>dG (Jr (l:=[0,1,2,3]) (aC.ext e2) d (lP aD) (by decide) (by decide)) λw3 e3=>?_;rw[J7];refine eD λw4 H e4 aE S=>dq S λw5 k5 I=>?_;have I:w5.heap[H]? =some (.cells (mz 38 55).toArray 56):=I;have E5:Ext w w5:=((e1.trans e2).trans e3).trans (e4.cC k5 aE);refine dM.jN (l0:=[(1,cM H),(2,i64 0)]) (by trivial) (dM.seq dj ?_);refine rW λw6 b6 e6 aF=>eg [i64 3,i64 2,i64 1,i64 0] 3 λw7 bt e7 bp aG=>cD (EY (ds:=[3,2,1,0]) (aF.ext e7) d (lP aG) (by decide) (by decide)) ?_;rintro v w8 ⟨e8,⟨h,_⟩|⟨_,T⟩⟩;exact absurd Fb.1 h;have aH:gH fy (io (([3,2,1,0]:gC).map Int.toNat))=some [[0,1],[2,3]]:=Fb.2;rw[aH]at T;obtain⟨a,rfl,aI⟩:=T;have E8:=((E5.trans e6).trans e7).trans e8;have aJ:=((e6.trans e7).trans e8).at_ I;refine dM.jN (l0:=[(1,cM H),(2,i64 0),(3,a),(4,i64 0)]) (by trivial) (dM.seq dj ?_);refine rW λw9 b9 e9 aK=>zp λbu bv J U=>cD (zk (l:=nK) (aK.ext J) d U (by decide) 5) ?_;rintro v bw ⟨W,⟨h,_⟩|⟨_,lv,rfl,X⟩⟩;exact absurd zo.1 h;have aL:A1 fy (fQ fy nK).2 (5:Int).toNat=[2,3]:=by rw[Nq];exact PX
 rw[aL]at X;have aM:=((E8.trans e9).trans J).trans W;have z:=(e9.trans J).trans W;refine dM.jN (l0:=[(1,cM H),(2,i64 0),(3,a),(4,i64 0),(5,lv),(6,i64 0)]) (by trivial) (dM.seq dj ?_);refine rW λbx bz Y Z=>zp λbA bB K aa=>iW (G5 (l:=nK) (Z.ext K) d aa (by decide) 2) (λw' h=>.inr ⟨rfl,h⟩) ?_;rintro v bC ⟨ab,⟨h,_⟩|⟨_,T⟩⟩;exact absurd zo.2.1 h;have aN:zd fy (jo fy (fQ fy nK).2 (2:Int).toNat)=some [(3,[0,3]),(4,[2,3])]:=by rw[Nq];exact PZ
 rw[aN]at T;obtain⟨pv,rfl,aO⟩:=T;have aP:=((aM.trans Y).trans K).trans ab;have e:=(Y.trans K).trans ab;refine dM.jN (l0:=[(1,cM H),(2,i64 0),(3,a),(4,i64 0),(5,lv),(6,i64 0),(7,pv),(8,i64 0)]) (by trivial) (dM.seq dj ?_);refine rW λbD bE aQ ac=>iW (EZ (l:=[]) (la:=none) (lc:=0) ac d (Nt _) (by decide) 3 1) (λw' h=>.inr ⟨rfl,h⟩) ?_;rintro v bF ⟨aR,⟨h,_⟩|⟨_,va,vc,rfl,ad,_⟩⟩;exact absurd zo.2.2.2 h;have aS:oH (tt fy (fQ fy []).2 (3:Int).toNat 1) (dn fy.tries (fQ fy []).2)=[0,1]:=by rw[P0];exact Ns
 rw[aS]at ad⊢;have c:=aQ.trans aR;have ae:=aP.trans c;refine dM.jN (l0:=[(1,cM H),(2,i64 0),(3,a),(4,i64 0),(5,lv),(6,i64 0),(7,pv),(8,i64 0),(9,.slice va 2 vc),(10,i64 0)]) (by trivial) (dM.seq dj ?_);refine rW λbG bH aT af=>zp λbI bJ ag ah=>eg [i64 0,i64 3] 3 λbK A aU aV ai=>dG (BO 3 _ 2 2 _) λbL aW=>eg [i64 2,i64 3] 3 λbM B aX aY aj=>dG (BO 4 _ 2 2 _) λbN ak=>eg [i64 3,j7 A 2 2,i64 4,j7 B 2 2] 29 λaZ n al a0 g=>?_;have o:=(aW.trans aX).trans (ak.trans al)
 have L:zl aZ (Bb n 0) [(3,[0,3]),(4,[2,3])]:=λk hk=>by
  have am:k<2:=hk;obtain rfl|rfl:k=0\/k=1:=by omega
  exact⟨n,0,some (cY A 0),2,rfl,cr g rfl,cr g rfl,lP (o.at_ ai),cJ _⟩;exact⟨n,0,some (cY B 0),2,rfl,cr g rfl,cr g rfl,lP ((ak.trans al).at_ aj),cJ _⟩
 have f:=aU.trans o;refine cD (B7 (l:=nK) (ps:=[(3,[0,3]),(4,[2,3])]) ((af.ext ag).ext f) d (ah.ext f) (by decide) 2 1 L (by decide) (by decide)) ?_;rintro v bO ⟨a1,rfl⟩;rw[J5];have b:=((aT.trans ag).trans f).trans a1;have bP:=ae.trans b;refine dM.jN (l0:=[(1,cM H),(2,i64 0),(3,a),(4,i64 0),(5,lv),(6,i64 0),(7,pv),(8,i64 0),(9,.slice va 2 vc),(10,i64 0),(11,.bool true),(12,i64 0)]) (by trivial) (dM.seq dj ?_);have an:=(((z.trans e).trans c).trans b).at_ aJ;refine ff (jZ rfl ?_);refine ff (jZ rfl ?_);refine ff (jZ rfl ?_);refine ff (jZ rfl ?_);refine ff (jZ rfl ?_);refine ff (jZ rfl ?_);refine jZ rfl ?_;refine dJ (vs:=mz 38 55) (λj v hj=>by rw[cG];exact cr an (by simpa using hj)) ?_;refine dS (.agg (mz 38 55).toArray)<|dS (.bool true)<|jZ rfl<|eg [i64 0,i64 1] 3 λbQ C x a2 ao=>eg [i64 2,i64 3] 3 λbR D p a3 ap=>eg [j7 C 2 2,j7 D 2 2] 27 λaq q m a4 E=>?_;obtain⟨wa,wc,rfl,a5,_⟩:=aI.row;have ar:=((((z.trans e).trans c).trans b).trans x).trans (p.trans m)
 have y:wM aq (Bb q 0) [[0,1],[2,3]]:=λk hk=>by
  have am:k<2:=hk;obtain rfl|rfl:k=0\/k=1:=by omega
  exact⟨q,0,some (cY C 0),2,rfl,cr E rfl,mQ (l:=[0,1]) ((p.trans m).at_ ao),cJ _⟩;exact⟨q,0,some (cY D 0),2,rfl,cr E rfl,mQ (l:=[2,3]) (m.at_ ap),cJ _⟩
 refine dG (Em [[0,1],[2,3]] [[0,1],[2,3]] wa _ wc 2 aq (a5.ext ar) y (by decide) (by decide)) λbS M=>jZ (by decide)<|eg [i64 2,i64 3] 3 λa6 bq N a7 au=>?_;obtain⟨a8,a9,rfl,ba,_⟩:=X.row;have O:=(((((e.trans c).trans b).trans x).trans (p.trans m)).trans M).trans N;refine dG (pM [2,3] [2,3] a8 _ a9 2 a6 (ba.ext O) (mQ au) (by decide)) λbT av=>jZ (by decide)<|eg [i64 0,i64 3] 3 λbU F bb bc aw=>dG (BO 3 _ 2 2 _) λbV ax=>eg [i64 2,i64 3] 3 λbW G ay bd az=>dG (BO 4 _ 2 2 _) λbX P=>eg [i64 3,j7 F 2 2,i64 4,j7 G 2 2] 29 λaA r Q be i=>?_;obtain⟨bf,bg,rfl,bh,_⟩:=aO.row;have s:=((bb.trans ax).trans (ay.trans P)).trans Q;have R:=((((((c.trans b).trans x).trans (p.trans m)).trans M).trans N).trans av).trans s
 have t:vw aA (Bb r 0) [(3,[0,3]),(4,[2,3])]:=λk hk=>by
  have am:k<2:=hk;obtain rfl|rfl:k=0\/k=1:=by omega
  exact⟨r,0,some (cY F 0),2,rfl,cr i rfl,cr i rfl,mQ (l:=[0,3]) (((ax.trans (ay.trans P)).trans Q).at_ aw),cJ _⟩;exact⟨r,0,some (cY G 0),2,rfl,cr i rfl,cr i rfl,mQ (l:=[2,3]) ((P.trans Q).at_ az),cJ _⟩
 refine dG (Fa [(3,[0,3]),(4,[2,3])] [(3,[0,3]),(4,[2,3])] bf _ bg 2 aA (bh.gG (R.gG 0)) t (by decide) (by decide)) λbY bi=>jZ (by decide)<|eg [i64 0,i64 1] 3 λbj br bk bl aB=>?_;have u:=((((((b.trans x).trans (p.trans m)).trans M).trans N).trans av).trans s).trans (bi.trans bk);refine dG (pM [0,1] [0,1] va _ vc 2 bj (ad.ext u) (mQ aB) (by decide)) λbZ bm=>dM.of dj (.inl ⟨_,rfl,?_,(ae.trans u).trans bm⟩);show Value.bool (decide (([0,1]:cz)=[0,1]))=.bool true;rw[decide_eq_true rfl]
def u64(n:Int):Int:=IntKind.wrap .u64 n
def Iz(n:Int):0<=u64 n:=by unfold u64 IntKind.wrap;simp only[IntKind.signed,Bool.false_and,ik,eF];exact Int.emod_nonneg _ (by decide)
def Sf(a b:Int):Int:=u64 (BitVec.ofInt 64 a^^^BitVec.ofInt 64 b).toNat
section
variable{w:cn}{t:cw}{x y:dw}{a b:Int}
def pV:Sem.run V.prog (do eqGuard .xor t x y (.int .u64 a) (.int .u64 b);binOp .xor t (.int .u64 a) (.int .u64 b)) w=.ok (.int .u64 (Sf a b)) w:=rfl
def zu:Sem.run V.prog (do eqGuard .mul t x y (.int .u64 a) (.int .u64 b);binOp .mul t (.int .u64 a) (.int .u64 b)) w=.ok (.int .u64 (u64 (a*b))) w:=rfl
def Nw:Sem.run V.prog (do eqGuard .add t x y (.int .u64 a) (.int .u64 b);binOp .add t (.int .u64 a) (.int .u64 b)) w=.ok (.int .u64 (u64 (a+b))) w:=rfl
def IA(n:Nat)(d:n<=64)(c:b=n:=by rfl):Sem.run V.prog (do eqGuard .shl t x y (.int .u64 a) (.int .u64 b);binOp .shl t (.int .u64 a) (.int .u64 b)) w=.ok (.int .u64 (u64 (a*2^n))) w:=by
 subst c;show Sem.run jD (Op.shift .shl .u64 a .u64 n) w=_;unfold Op.shift;rw[cy (by omega)];have:min (n:Int).toNat IntKind.u64.bits=n:=by simp[IntKind.bits];omega
 rw[this];rfl
def rZ(n:Nat)(d:n<=64)(c:b=n:=by rfl):Sem.run V.prog (do eqGuard .shr t x y (.int .u64 a) (.int .u64 b);binOp .shr t (.int .u64 a) (.int .u64 b)) w=.ok (.int .u64 (a.fdiv (2^n))) w:=by
 subst c;show Sem.run jD (Op.shift .shr .u64 a .u64 n) w=_;unfold Op.shift;rw[cy (by omega)];have:min (n:Int).toNat IntKind.u64.bits=n:=by simp[IntKind.bits];omega
 rw[this];rfl
def Ny(h:b≠0):Sem.run V.prog (do eqGuard .rem t x y (.int .u64 a) (.int .u64 b);binOp .rem t (.int .u64 a) (.int .u64 b)) w=.ok (.int .u64 (a.tmod b)) w:=by show Sem.run jD (Op.intDiv .rem .u64 a b) w=_;unfold Op.intDiv;rw[cy h];rfl
def IK:Tryz.prog.underlying 3=some (.int .i64):=by kernel_rfl
def Nz:Tryz.prog.underlying 119=some (.int .u64):=by kernel_rfl
def IB:Sem.run V.prog (convert 3 119 (.int .i64 a)) w=.ok (.int .u64 (u64 a)) w:=by unfold convert;simp only[Sem.run_bind,gB IK,gB Nz,Result.andThen_ok];rfl
def P3:Sem.run V.prog (convert 119 3 (.int .u64 a)) w=.ok (.int .i64 (IntKind.wrap .i64 a)) w:=by unfold convert;simp only[Sem.run_bind,gB IK,gB Nz,Result.andThen_ok];rfl
end
section
variable{E:cn->cn->Prop}{w:cn}{kx:cq->Prop}{kr kp kl:gy->Prop}{lb ea:Bool}
def pW{s:Sem cq}(v:cq)(b:fJ E)(c:∀w,Sem.run V.prog s w=.ok v w)(k:kx v):vS E E w (λa d=>jj V.prog s a d) kx kr kp lb kl ea:=.exact v (λa _=>⟨v,a,c a,rfl,b.refl _⟩) k
end
structure iq(db:Nat)(w:cn):Prop where
 at_:∃(la:Option Addr) (ns:List Int) (lc i:Nat) (s:Int),w.heap[db]? =some (.cells #[.slice la ns.length lc,.int .i64 i,.int .u64 s] 121)/\gF w la ns/\(∀b o,ns≠[]->la=some ⟨b,o,none⟩->b<db)/\i<=ns.length/\ns.length<=9223372036854775807
def gF.keep{w c:cn}{a:ek}{l:gC}{F:cN}(h:gF w a l)(k:cW F w c)(g:∀b o,l≠[]->a=some ⟨b,o,none⟩->¬F b):gF c a l:=λi d=>by obtain⟨b,o,f,j⟩:=h i d;exact⟨b,o,f,k.eP j (g b o (λe=>by subst e;exact absurd d (by simp)) f)⟩
def iq.lt{w:cn}(h:iq m w):m<w.heap.size:=by obtain⟨b,c,d,i,s,a,_⟩:=h.at_;exact cP.lt_of_heap a
theorem iq.keep{w a:cn}{F:cN}(h:iq m w)(k:cW F w a)(c:∀b,F b->m<b):iq m a:=by obtain⟨f,g,j,i,s,l,n,d,p⟩:=h.at_;refine⟨f,g,j,i,s,k.fe l λx=>Nat.lt_irrefl _ (c _ x),n.keep k λb o q e r=>?_,d,p⟩;have:=d b o q e;have:=c b r;omega
def iq.ext{w a:cn}(h:iq m w)(e:Ext w a):iq m a:=h.keep (e.keep λ_=>False) λ_ h=>h.elim
def DE(c:Nat)(a b:cn):Prop:=cW (λx=>x=c) a b/\(iq c a->iq c b)
def Ext.de{a b:cn}(h:Ext a b)(c:Nat):DE c a b:=⟨h.keep _,λk=>k.ext h⟩
theorem DE.trans{a b c:cn}(h:DE m a b)(k:DE m b c):DE m a c:=⟨h.1.trans k.1 (λ_ _ h=>h) λ_ _ h=>h,λx=>k.2 (h.2 x)⟩
def zv(d:Nat):fJ (DE d):=⟨λw=>(Ext.refl w).de d,λa b c h k=>h.trans k,λw=>(Ext.drew w).de d⟩
def P5{w:cn}(h:iq m w):Calls V.prog 104 #[cM m] w (fi λv r=>(∃z:Int,v=.int .u64 z/\0<=z)/\DE m w r):=by
 obtain⟨t,j,p,i,s,D,N,E,W,X⟩:=h.at_
 have u:∀r (F:Int) (y:Nat),cW (λx=>x=m) w r->r.heap[m]? =some (.cells #[.slice t j.length p,i64 y,.int .u64 F] 121)->y<=j.length->DE m w r:=λr F y k G Y=>
  ⟨k,λ_=>⟨t,j,p,y,F,G,N.keep k λb o H e G=>by have:=E b o H e;omega,E,Y,X⟩⟩
 refine gd Tryz.func104 Tryz.ntmps104 ?_;refine cX cV (cK (cr D rfl) (cK (cr D rfl) (pW _ cV (λ_=>IA 13 (by decide)) (pW _ cV (λ_=>pV) λw1 O=>dq (O.at_ D) λZ I d=>?_))));replace d:Z.heap[m]? =some (.cells #[.slice t j.length p,i64 i,.int .u64 (Sf s (u64 (s*2^13)))] 121):=d;generalize Sf s (u64 (s*2^13))=A at d;replace I:=(O.keep (λx=>x=m)).trans I (λ_ _ h=>h) λ_ _ h=>h;refine cX cV (cK (cr d rfl) (cK (cr d rfl) (pW _ cV (λ_=>rZ 7 (by decide)) (pW _ cV (λ_=>pV) λw3 P=>dq (P.at_ d) λw4 J f=>?_))));replace f:w4.heap[m]? =some (.cells #[.slice t j.length p,i64 i,.int .u64 (Sf A (A.fdiv (2^7)))] 121):=f;generalize Sf A (A.fdiv (2^7))=B at f;replace J:=(I.trans (P.keep (λx=>x=m)) (λ_ _ h=>h) λ_ _ h=>h).trans J (λ_ _ h=>h) λ_ _ h=>h;refine cX cV (cK (cr f rfl) (cK (cr f rfl) (pW _ cV (λ_=>IA 17 (by decide)) (pW _ cV (λ_=>pV) λw5 Q=>dq (Q.at_ f) λw6 l a=>?_))));replace a:w6.heap[m]? =some (.cells #[.slice t j.length p,i64 i,.int .u64 (Sf B (u64 (B*2^17)))] 121):=a;generalize Sf B (u64 (B*2^17))=R at a;replace l:=(J.trans (Q.keep (λx=>x=m)) (λ_ _ h=>h) λ_ _ h=>h).trans l (λ_ _ h=>h) λ_ _ h=>h;refine cX cV (cK (cr a rfl) (cK (cr a rfl) (kX (Mk λw7 C=>⟨λn=>?_,λaa=>?_⟩))));have n:i<j.length:=by simpa using n
 replace a:=C.at_ a;replace l:=l.trans (C.keep (λx=>x=m)) (λ_ _ h=>h) λ_ _ h=>h;obtain⟨b,o,K,S⟩:=N.keep l (λb o H e G=>by have:=E b o H e;omega) i n;subst K;generalize j[i]=q at S;refine cX cV (cK (cr a rfl) (cK (cr a rfl) (cK (cr a rfl) (iK i n (cK S ?_)))));refine pW (.int .u64 (u64 q)) cV (λ_=>IB) ?_;refine pW (.int .u64 (u64 (u64 q*13787848793156543929))) cV (λ_=>zu) ?_;refine pW (.int .u64 (u64 (R+u64 (u64 q*13787848793156543929)))) cV (λ_=>Nw) ?_;refineλw8 T=>dq (T.at_ a) λw9 k9 g=>?_;generalize u64 (R+u64 (u64 q*13787848793156543929))=U at g;replace g:w9.heap[m]? =some (.cells #[.slice (some ⟨b,o,none⟩) j.length p,i64 i,.int .u64 U] 121):=g;refine cu (cr g rfl) (cF (dq g λL M c=>?_));replace c:L.heap[m]? =some (.cells #[.slice (some ⟨b,o,none⟩) j.length p,i64 ((i+1:Nat):Int),.int .u64 U] 121):=c;refine cu (cr c rfl) ?_;refine dS _ (dS _ (dS _ (dS _ (dS _ ⟨_,rfl,⟨_,rfl,Iz _⟩,?_⟩ λ_=>pV) λ_=>rZ 31 (by decide)) λ_=>zu) λ_=>pV) λ_=>rZ 30 (by decide);exact u _ _ _ (((l.trans (T.keep (λx=>x=m)) (λ_ _ h=>h) λ_ _ h=>h).trans k9 (λ_ _ h=>h) λ_ _ h=>h).trans M (λ_ _ h=>h) λ_ _ h=>h) c (by omega);replace a:=C.at_ a;replace l:=l.trans (C.keep (λx=>x=m)) (λ_ _ h=>h) λ_ _ h=>h;refine cu (cr a rfl) ?_;refine dS _ (dS _ (dS _ (dS _ (dS _ ⟨_,rfl,⟨_,rfl,Iz _⟩,?_⟩ λ_=>pV) λ_=>rZ 31 (by decide)) λ_=>zu) λ_=>pV) λ_=>rZ 30 (by decide);exact u _ _ _ l a W
def oJ{w:cn}(h:iq m w)(n:Int)(g:n<=1000000):Calls V.prog 35 #[cM m,.int .i64 n] w (fi λv b=>(∃z:Int,v=.int .i64 z/\0<=z/\(z<=n\/z=0))/\DE m w b):=by
 refine gd Tryz.func35 Tryz.ntmps35 ?_;refine du ⟨λ_=>⟨_,rfl,⟨0,rfl,by omega,.inr rfl⟩,(zv m).refl _⟩,λa=>?_⟩;have a:1<=n:=by simpa using a
 refine cD (P5 h) ?_;rintro v i ⟨⟨z,rfl,c⟩,d⟩;refine dS _ (cF (dS _ (dS _ (dS _ ⟨_,rfl,⟨_,rfl,?_⟩,d⟩ λ_=>P3) λ_=>Ny ?_) λ_=>IB)) λ_=>rZ 16 (by decide);have e:u64 (n+1)=n+1:=IntWalk.u64_in _ ⟨by omega,by omega⟩;rw[e];have f:0<=z.fdiv (2^16):=Int.fdiv_nonneg c (by decide);have j:=Int.tmod_nonneg (n+1) f;have k:(z.fdiv (2^16)).tmod (n+1)<n+1:=Int.tmod_lt_of_pos _ (by omega);rw[IntWalk.i64_in _ ⟨by omega,by omega⟩];omega;have e:u64 (n+1)=n+1:=IntWalk.u64_in _ ⟨by omega,by omega⟩;rw[e];omega
def lf{w:cn}(h:iq m w)(a b:Int)(g: -1000000<=a/\a<=1000000)(i: -1000000<=b/\b<=1000000)(c:b-a<=1000000):Calls V.prog 30 #[cM m,.int .i64 a,.int .i64 b] w (fi λv d=>(∃z:Int,v=.int .i64 z/\a<=z/\(z<=b\/z=a))/\DE m w d):=by refine gd Tryz.func30 Tryz.ntmps30 ?_;refine fx (cD (oJ h _ c) ?_);rintro v j ⟨⟨z,rfl,k,e⟩,f⟩;exact cF ⟨_,rfl,⟨a+z,rfl,by omega,by omega⟩,f⟩
def Ca{w:cn}(h:iq m w){l:List Int}{c:Option Addr}(g:gF w c l)(s:0<l.length)(i:l.length<=1000)(j:∀b o,c=some ⟨b,o,none⟩->b≠m):Calls V.prog 59 #[cM m,.slice c l.length k] w (fi λv n=>(∃z∈l,v=.int .i64 z)/\DE m w n):=by
 refine gd Tryz.func59 Tryz.ntmps59 ?_;refine cS (fx (cD (oJ h _ (by omega)) ?_));rintro v t ⟨⟨z,rfl,u,p⟩,f⟩;obtain⟨a,rfl⟩:∃a:Nat,z=a:=⟨z.toNat,by omega⟩;have d:a<l.length:=by omega
 obtain⟨b,o,rfl,q⟩:=g.keep f.1 (λb o _ e r=>j b o e r) a d;exact fw a d (cu q ⟨_,rfl,⟨_,ef d,rfl⟩,f⟩)
def Fe{w:cn}{l:List Int}{a:Option Addr}(h:gF w a l)(j:l.length<=9223372036854775807):Calls V.prog 27 #[.slice a l.length m] w (fi λv i=>Ext w i/\∃d,v=cM d/\w.heap.size<=d/\iq d i):=by
 refine gd Tryz.func27 Tryz.ntmps27 ?_;refine dS (.agg #[.slice a l.length m,i64 0,.int .u64 11400714819323198485]) (ej λs k f g n=>?_);refine⟨_,rfl,f,k,rfl,g,a,l,m,0,11400714819323198485,n,h.ext f,λb o p e=>?_,fV _,j⟩;have q:0<l.length:=by rcases l with _|_;exact absurd rfl p;simp
 obtain⟨t,u,c,r⟩:=h 0 q;rw[e]at c;injection c with c;injection c with f x;have:=tg r;simp only at*;omega
def fE.at_(h:fE m w x l)(d:0<l.length):∃b c,x=.slice (some ⟨b,0,none⟩) l.length c/\m<=b/\∀k (a:k<l.length),w.cell? ⟨b,0+k,none⟩=some (.int .i64 l[k]):=by obtain⟨b,c,e,f,g⟩:=cR.cell h d;exact⟨b,c,e,f,λk a=>by rw[cG];exact g k _ (by simp[jy,eV a])⟩
def Yx(h:fE m w (.slice (some ⟨k,0,none⟩) j i) l)(L:o<l.length)(x:Nat)(z:∀e,cW (cH (.slice (some ⟨k,0,none⟩) j i)) w e->fE m e (.slice (some ⟨k,0,none⟩) j i) (l.set o x)->S e):DO V.prog (Instr.storeAt 3 (.pointer (some ⟨k,0+o,none⟩)) (.int .i64 x)) w S:=by
 obtain⟨M,⟨t,p⟩|⟨N,A,q,t,p,B,v,C,D,E,F⟩⟩:=h;cases p;injection p with g G H;injection g with g;injection g with g;subst g;have r:o<q.size:=by rw[v];simp;omega
 have a:jy (l.set o x)=(jy l).set o (i64 x):=by simp[jy,List.map_set]
 refine iT B (by simp[Value.cells];omega) (λe I c=>z e (I.trans (cW.refl (λ_=>False) _) (λy _ J=>⟨j,i,by rw[J]⟩) λ_ _ h=>h.elim) ?_) (λu K=>by
  have:u=i64 x:=by simpa[Value.cells]using K
  subst this;rfl)
 replace c:e.heap[k]? =some (.cells (q.setIfInBounds o (i64 x)) 3):=by rw[c];simp[gl,Value.cells]
 have n:(jy l).length=l.length:=by simp[jy]
 refine⟨by rw[a];simp[n],.inr ⟨k,A,q.setIfInBounds o (i64 x),t,by rw[G,H];simp,c,by simpa using v,by simpa using C,D,λf b=>?_,λf b s=>?_⟩⟩;rw[a]at b⊢;have b:f<(jy l).length:=by simpa using b
 by_cases d:o=f;subst d;rw[kI r,List.getElem?_set_self b];rw[eo d,List.getElem?_set_ne d];exact E f b;rw[a]at b;have b:(jy l).length<=f:=by simpa using b
 rw[eo (by omega)];exact F f b (by simpa using s)
def P4(h:iq m w)(n:Nat)(Z:n<=1000):Calls V.prog 60 #[cM m,.int .i64 n] w (fi λv o=>DE m w o/\∃l,l.Perm (List.range n)/\fE w.heap.size o v l):=by
 have P:=h.lt;refine gd Tryz.func60 Tryz.ntmps60 ?_;refine fW n (λk v=>[(0,cM m),(1,i64 n),(5,v),(6,i64 k)]) (λk v o=>Ext w o/\fE w.heap.size o v (List.range k)) (.slice none 0 0) ⟨by trivial,Ext.refl _,cR.nil _ _ _ _⟩ ?_;rintro k v w1 hk ⟨E,F⟩;refine du ⟨λp=>?_,λG=>?_⟩;have p:k<n:=by simpa using p
 refine eg [Value.int .i64 k] 3 λQ nb B R r=>gq sg (F.ext B) (by have:=E.size;have:=B.size;omega) r (by simp;omega) λS L f T _=>cF ⟨p,S,by trivial,(E.trans B).ia T (F.ext B) (cJ _),?_⟩;rw[oO];simpa[fE,jy]using f
 obtain rfl:k=n:=by have:¬k<n:=by simpa using G
                    omega
 refine fx (fW (k-1) (λ_ (s:List Nat×Int)=>[(0,cM m),(5,v),(7,i64 s.2)]) (λj s o=>DE m w o/\s.1.Perm (List.range k)/\fE w.heap.size o v s.1/\s.2=(k:Int)-1-j) (List.range k,(k:Int)-1) ⟨by trivial,E.de m,.refl _,F,by simp⟩ ?_);rintro j ⟨l,i⟩ Q hj ⟨C,D,g,U⟩;simp only at D g U;refine lZ ⟨λt=>?_,λx=>?_⟩;have t:0<i:=by simpa using t
 have hl:l.length=k:=by simpa using D.length_eq
 refine cD (oJ (C.2 h) i (by omega)) ?_;rintro u L ⟨⟨z,rfl,q,W⟩,H⟩;have f:fE w.heap.size L v l:=cR.keep g H.1 λb r e=>by have:=cR.blk g r;omega
 obtain⟨a,rfl⟩:∃d:Nat,z=d:=⟨z.toNat,by omega⟩;obtain⟨d,rfl⟩:∃d:Nat,i=d:=⟨i.toNat,by omega⟩;obtain⟨b,c,rfl,X,M⟩:=f.at_ (by omega);have A:d<l.length:=by omega
 have q:a<l.length:=by omega
 refine fw d A (cu (M d A) (fw a q (cu (M a q) (fw d A (Yx f A l[a] λw4 N I=>fw a q (Yx I (by simpa using q) l[d] λw5 O J=>fx ⟨by omega,((l.set d l[a]).set a l[d],(d:Int)-1),by trivial,?_,(List.set_set_perm A q).trans D,J,by simp only;omega⟩))))));have Y:∀y,cH (.slice (some ⟨b,0,none⟩) l.length c) y->y=b:=λy ⟨_,_,e⟩=>by injection e with e;exact(cT Addr.block (cO e)).symm
 refine⟨((C.1.trans H.1 (λ_ _ h=>h) λ_ _ h=>h).trans N (λ_ _ h=>h) λy K r=>?_).trans O (λ_ _ h=>h) λy K r=>?_,λ_=>((H.2 (C.2 h)).keep N λy K=>?_).keep O λy K=>?_⟩<;>have:=Y y (by assumption)<;>omega;have x:i<=0:=by simpa using x
 exact⟨_,rfl,C,l,D,g⟩
def YD(c:Nat)(a:ek):Prop:=∀b o,a=some ⟨b,o,none⟩->c<=b
def cR.YU(h:cR m T M w (.slice a k i) j Y):YD m a:=λb o e=>by obtain⟨_,⟨_,h⟩|⟨d,f,g,l,c,_⟩⟩:=h;injection h with h;rw[e]at h;cases h;injection c with c;rw[e]at c;injection c with c;injection c with c;omega
def fN.keep(h:fN w a l)(k:cW A w t)(d:∀b o,a=some ⟨b,o,none⟩->¬A b):fN t a l:=λi e=>by obtain⟨b,o,c,f⟩:=h i e;exact⟨b,o,c,k.eP f (d b o c)⟩
def Kq(h:iq m w){dc:Nat}(x:H.doors.length<=1000):Calls V.prog 43 #[cM m,gV H a dc] w (fi λv n=>DE m w n/\∃(l:List Nat) (f:Option Addr) (c:Nat),v=.slice f l.length c/\fN n f l/\l.length<=c/\l.length<=H.doors.length/\l.Nodup/\(∀d∈l,d<H.doors.length)/\YD w.heap.size f):=by
 refine gd Tryz.func43 Tryz.ntmps43 ?_;refine ej λF G g y p=>cu (cr p rfl) (cS (cD (P4 (h.ext g) H.doors.length x) ?_));rintro v I ⟨q,l,i,r⟩;obtain⟨f,c,rfl,A,J⟩:=r.row;have s:=cR.YU r;have K:l.length=H.doors.length:=by simpa using i.length_eq
 refine cS (cD (oJ (q.2 (h.ext g)) l.length (by omega)) ?_);rintro u L ⟨⟨z,rfl,M,B⟩,t⟩;obtain⟨k,rfl⟩:∃k:Nat,z=k:=⟨z.toNat,by omega⟩;have C:k<=l.length:=by omega
 have D:=h.lt;have j:=g.size;refine pF k (by omega) ⟨_,rfl,((g.de m).trans q).trans t,l.take k,f,c,by rw[KT,Nat.min_eq_left C];rfl,fN.cut (fN.keep A t.1 λb o e p=>?_) k,by simp;omega,by simp;omega,?_,λd E=>?_,λb o e=>cZ j (s b o e)⟩;have:=s b o e;omega;exact((i.nodup_iff).2 List.nodup_range).sublist (List.take_sublist k l);have:=i.subset (List.mem_of_mem_take E);simpa using this
end Go.Proofs.W
