/- Laws that the proof needs, part 5. Conditions: none. -/
import Derived.Test.YteeagjkaflglpaaGreatX04
set_option maxRecDepth 100000
set_option maxHeartbeats 8000000
set_option linter.all false
variable{m k i j o p s d:Nat}{R:Go.dG.dV}{Z:dm}
namespace Go.dG
open Go.Conc
section
variable{P:dq}{Stop:Frame->List Frame->dg->Prop}
def H3(P:dq)(Stop:Frame->List Frame->dg->Prop):Prop:=∀b a v,Stop b a v->a≠[]/\∀T c d e,stepG P true (G b a) (dF v T)=.go c d e->c.callers=[]
def yS{a:Frame}{v f:dg}{g:Array Event}(i:a.defers=[])(b:(a.mode=.returning/\a.kind=.normal/\∃d,P.funcs[a.fn]? =some d)\/∃j,a.mode=.panicking j) (h:stepG P true (G a [floor]) v=.go Z f g):Z.callers=[]:=by
 rcases b with⟨b,l,d,m⟩|⟨j,b⟩;simp only[stepG,unwind,G,b,i,m,doReturn,l]at h;rcases n:(results d a.tmps).runT P v #[]with⟨r,o⟩;rw[n]at h;cases r with
 |ok x w=>
  simp only[GStep.after]at h;injection h with e p q;rw[<-e]
 |halt s w=>
  cases s<;>simp only[GStep.after]at h<;>cases h
 have c:unwind P true a [floor] none v=.go Z f g:=by simp only[stepG,G,b]at h;exact h
 unfold unwind at c;simp only[b,i]at c;by_cases k:a.catches P=true;rw[dr k]at c;cases c;rw[dp k]at c;injection c with e p q;rw[<-e]
def yT{c a:Frame}{d b:List Frame}{v e:dg}(h:lone c d v=lone a b e):c=a/\d=b/\v=e:=by unfold lone at h;injection h with g f;simp only[zX,pY]at f;have:=f.1;injection this with i j;exact⟨i,j,g⟩
def Gn(v:dg):dF v v.tape=v:=rfl
def vY(B:H3 P Stop):∀(n:Nat) {c:py} {T:Ta} {p:Frame} {m:List Frame} {w:dg},Inv P c->Below c.v T->runN P (n+1) (lone c.fr c.cl (dF c.v T))=.next (lone p m w)->m≠[]->Path P Stop c ⟨p,m,w⟩/\Inv P ⟨p,m,w⟩:=by
 intro n;induction n with
 |zero=>
  intro c T p m w t u h i;rcases(t.dF T).step with⟨o,C,g,e⟩|⟨x,f,g,e,s⟩|⟨a,b,f,g,e,d⟩;exfalso;simp only[runN,nu e]at h;cases h;exfalso;obtain⟨a,b,D,E,F⟩:=x;obtain⟨k,l,q,r,y⟩:=s;simp only at q k l r y;subst q k l r;simp only[runN,pz (show stepG P true (G c.fr c.cl) (dF c.v T)=.go (G a []) f g from e)]at h;injection h with h;exact i (yT h).2.1.symm;simp only[runN,pz (show stepG P true (G c.fr c.cl) (dF c.v T)=.go (G a b) f g from e)]at h;injection h with h;obtain⟨rfl,rfl,rfl⟩:=yT h;have j:stepG P true (G c.fr c.cl) (dF c.v T)=.go (G a b) f g:=e;exact⟨.one (λz=>i ((B _ _ _ z).2 T _ _ _ j)) u j,d⟩
 |succ n H=>
  intro c T p m w t u h i;rcases(t.dF T).step with⟨o,C,g,e⟩|⟨x,f,g,e,s⟩|⟨a,b,f,g,e,d⟩;exfalso;have j:stepG P true (G c.fr c.cl) (dF c.v T)=.ended o C g:=e;rw[runN,nu j]at h;cases h;exfalso;have A:=s;obtain⟨a,b,D,E,F⟩:=x;obtain⟨k,l,q,r,y⟩:=s;simp only at q k l r y;subst q k l r;obtain⟨o,L,I,J⟩:=A.ended (P:=P) true f;rw[runN,pz (show stepG P true (G c.fr c.cl) (dF c.v T)=.go (G a []) f g from e)]at h;dsimp only at h;rw[runN,nu (show stepG P true (G a []) f=_ from J)]at h;cases h;have j:stepG P true (G c.fr c.cl) (dF c.v T)=.go (G a b) f g:=e;rw[runN,pz j]at h;dsimp only at h;have K:¬Stop c.fr c.cl c.v:=λz=>d.callers ((B _ _ _ z).2 T _ _ _ j);obtain⟨k,l⟩:=H (c:=⟨a,b,f⟩) (T:=f.tape) d (λ_ _=>rfl) h i;exact⟨.cons K u j k,l⟩
def Path.reach{c d:py}(h:Path P Stop c d)(f:Reach P Stop c):Reach P Stop d:=by
 induction h with
 |one a b e=>exact f.follow a b e
 |cons a b e _ g=>exact g (f.follow a b e)
def Calm(P:dq)(v:dg)(a:Frame):Prop:=(∃e,P.funcs[a.fn]? =some e)/\∀d∈a.defers,∃b,d.target=.collected b/\∀c,v.heap[b]? =some (.deferred (some c))->c=[]
def AH(v d:dg):Prop:=∀(b:Nat) (a:Array di) (t:dn) (c:Nat×Nat),v.heap[b]? =some (Obj.cells a t c)->d.heap[b]? =some (Obj.cells a t c)
structure H4(P:dq)(v0:dg)(c:py):Prop where
 mode:∃ch,c.fr.mode=.panicking ch
 calm:Calm P c.v c.fr
 callers:∃X,c.cl=X++[floor]/\∀x∈X,Calm P c.v x
 kept:AH v0 c.v
 back:AH c.v v0
 size:c.v.heap.size=v0.heap.size
def run_takeDeferred(b:Nat)(v:dg):(∃h w,(Instr.takeDeferred b).run P v=.halt h w)\/∃a,v.heap[b]? =some (.deferred (some a))/\(Instr.takeDeferred b).run P v=.ok a {v with heap:=v.heap.setIfInBounds b (.deferred none)}:=by
 unfold Instr.takeDeferred;simp only[Sem.run_bind];cases d:v.heap[b]? with
 |none=>simp[Sem.run,getObj,d]
 |some o=>
  cases o with
  |deferred c=>cases c with
   |none=>simp[Sem.run,getObj,d,stuck]
   |some a=>exact .inr ⟨a,rfl,by simp[Sem.run,getObj,setObj,d]⟩
  |_=>simp[Sem.run,getObj,d,stuck]
def Frame.BN(a:Frame)(b:List PanicEntry):(a.raise b).defers=a.defers/\(a.raise b).fn=a.fn/\∃c,(a.raise b).mode=.panicking c:=by unfold Frame.raise;split<;>exact⟨rfl,rfl,_,rfl⟩
def H4.stop(hf:H3 P Stop){v0:dg}:∀{c:py},Reach P Stop c->H4 P v0 c->∃H,Stop H.fr H.cl H.v/\H4 P v0 H:=by
 intro c hr;induction hr with
 | @here c h=>exactλg=>⟨c,h,g⟩
 | @next c M N ih=>
  intro g;obtain⟨O,es,e⟩:=M c.v.tape (λ_ _=>rfl);have Q:=N _ _ _ (λ_ _=>rfl) e;have u:=ih _ _ _ (λ_ _=>rfl) e;rw[Gn]at e;obtain⟨R,S⟩:=g.mode;obtain⟨⟨fn,z⟩,A⟩:=g.calm;obtain⟨X,U,p⟩:=g.callers;have B:c.fr.catches P=false:=by unfold Frame.catches;rw[z]
  cases r:c.fr.defers with
  |nil=>
   simp only[stepG,unwind,G,S,r,B,U,iw,fp]at e;cases X with
   |nil=>
    exfalso;simp only[so]at e;injection e with C k I;injection C with m n;obtain⟨D,E,V⟩:=O;simp only at k m n;subst k m n;cases Q with
    |here h=>exact(hf _ _ _ h).1 rfl
    |next k1 k2=>
     obtain⟨c2,aa,k⟩:=k1 c.v.tape (λ_ _=>rfl);obtain⟨o,w',ab,I⟩:=(show xx (G (floor.raise R) [])from⟨rfl,rfl,rfl,rfl,.inr ⟨_,rfl⟩⟩).ended (P:=P) true (dF c.v c.v.tape);have:=I.symm.trans k;cases this
   |cons x X=>
    simp only[oP]at e;injection e with C k I;injection C with m n;obtain⟨D,E,V⟩:=O;simp only at k m n;subst k m n;obtain⟨r1,r2,r3⟩:=Frame.BN x R;refine u ⟨r3,?_,⟨X,rfl,λy hy=>p y (iF _ hy)⟩,g.kept,g.back,g.size⟩;have:=p x (iV ..);exact⟨by rw[r2];exact this.1,by rw[r1];exact this.2⟩
  |cons d W=>
   obtain⟨b,Y,F⟩:=A d (by rw[r];exact iV ..);obtain⟨ac,Z⟩:=d;simp only at Y;subst Y;simp only[stepG,unwind,G,S,r,lH]at e;rcases run_takeDeferred (P:=P) b c.v with⟨h,w,i⟩|⟨T,l,i⟩;rw[i]at e;simp only[GStep.after]at e;cases e
   ·rw[i]at e;simp only[GStep.after]at e;injection e with C k I;injection C with m n;obtain rfl:=F T l;obtain⟨D,E,V⟩:=O;simp only at k m n;subst k m n;have j:∀x,Calm P c.v x->Calm P {c.v with heap:=c.v.heap.setIfInBounds b (.deferred none)} x:=λx J=>⟨J.1,λd r=>by obtain⟨f,M,N⟩:=J.2 d r;refine⟨f,M,λW h=>?_⟩;by_cases a:b=f;subst a;have q:b<c.v.heap.size:=lt_of_heap l;simp[q]at h;rw[show({c.v with heap:=c.v.heap.setIfInBounds b (.deferred none)}:dg).heap[f]? =(c.v.heap.setIfInBounds b (.deferred none))[f]? from rfl,eG a]at h;exact N W h⟩;refine u ⟨⟨R,by first|exact S|rfl⟩,j _ ⟨⟨fn,z⟩,λd h=>A d (by rw[r];exact iF _ h)⟩,⟨X,U,λx J=>j x (p x J)⟩,λf K t L h=>?_,λf K t L h=>g.back f K t L ?_,by simpa using g.size⟩;rotate_left;have s:(c.v.heap.setIfInBounds b (.deferred none))[f]? =some (.cells K t L):=h;have q:b<c.v.heap.size:=lt_of_heap l;by_cases a:b=f;subst a;simp[q]at s;rwa[eG a]at s;have s:=g.kept f K t L h;have a:b≠f:=by rintro rfl;rw[l]at s;cases s
    show(c.v.heap.setIfInBounds b (.deferred none))[f]? =_;rw[eG a];exact s
def Mw(n:H3 P Stop){fr:Frame}{v:dg}(p:Reach P Stop ⟨fr,[floor],v⟩)(q:Inv P ⟨fr,[floor],v⟩)(r:¬Stop fr [floor] v)(s:fr.defers=[]) (t:(fr.mode=.returning/\fr.kind=.normal/\∃u,P.funcs[fr.fn]? =some u)\/∃w,fr.mode=.panicking w):False:=by
 cases p with
 |here h=>exact r h
 |next x y=>
  obtain⟨a,z,e⟩:=x v.tape (λ_ _=>rfl);have i:=y _ _ _ (λ_ _=>rfl) e;have b:stepG P true (G fr [floor]) v=.go (G a.fr a.cl) a.v z:=e;have l:a.cl=[]:=yS s t b;rcases q.step with⟨o,J,c,d⟩|⟨K,A,c,d,B⟩|⟨C,j,A,c,d,f⟩;rw[show stepG P true (G fr [floor]) v=_ from d]at b;cases b;rw[show stepG P true (G fr [floor]) v=_ from d]at b;injection b with k D E;cases i with
  |here h=>exact(n _ _ _ h).1 l
  |next F L=>
   obtain⟨M,H,m⟩:=F a.v.tape (λ_ _=>rfl);obtain⟨o,N,I,g⟩:=B.ended (P:=P) true (dF a.v a.v.tape);rw[k]at g;have:=g.symm.trans m;cases this
  rw[show stepG P true (G fr [floor]) v=_ from d]at b;injection b with k D E;injection k with m g;exact f.callers (by show j=[];rw[g];exact l)
def Jo{b c a:Machine}(h:runN P m b=.next c)(e:Go.step P c=.next a):runN P (m+1) b=.next a:=by
 induction m generalizing b with
 |zero=>
  simp only[runN]at h;injection h with h;subst h;simp only[runN,e]
 |succ m f=>
  rw[runN]at h⊢;cases d:Go.step P b with
  |next g=>
   rw[d]at h;exact f h
  |ended o w=>rw[d]at h;cases h
def O0{v:dg}(n:Good P R)(p:¬R.Def)(q:∀b l,R.r b l->∃o i,v.heap[b]? =some o/\(∃u:dg,u.heap[l]? =some i)/\G5 R (R.sh b) o i){x m:Frame}(h:eu P R x m):Calm P v x:=by
 obtain⟨s,c,j,_,_⟩:=n.fit.fn _ h.fnS.1;refine⟨⟨s,j⟩,?_⟩;have a:=h.defers;revert a;generalize x.defers=t;generalize m.defers=w;intro a;induction a with
 |nil=>intro d a;cases a
 |cons y z _ A=>
  intro d a;rcases ft.1 a with rfl|a;obtain⟨b,g⟩:=z.resolve_left p;refine⟨b,g,λt f=>?_⟩;cases y with
  |collected B=>
   injection g with g;subst g;obtain⟨o,i,j,_,k⟩:=q _ _ B;rw[j]at f;injection f with f;subst f;rcases k with⟨_,k⟩|⟨_,_,_,_,_,_,_,e,_⟩;cases k;rfl;cases e
  |_=>cases g
  exact A d a
def Mx{v:dg}(f:Good P R)(g:¬R.Def)(i:∀b d,R.r b d->∃o e,v.heap[b]? =some o/\(∃u:dg,u.heap[d]? =some e)/\G5 R (R.sh b) o e){X j:List Frame}(h:it P R X j):∀x∈X,Calm P v x:=by
 induction h with
 |nil=>intro x c;cases c
 |cons c _ k=>
  intro x a;rcases ft.1 a with rfl|a;exact O0 f g i c;exact k x a
def Calm.grow{v e:dg}{x:Frame}(h:Calm P v x)(g:∀b,b<v.heap.size->e.heap[b]? =v.heap[b]?)(i:∀b c,v.heap.size<=b->e.heap[b]? =some (.deferred (some c))->False):Calm P e x:=
 ⟨h.1,λd j=>by obtain⟨b,k,l⟩:=h.2 d j;refine⟨b,k,λc a=>?_⟩;by_cases f:b<v.heap.size;exact l c (by rw[<-g b f];exact a);exact(i b c (Nat.le_of_not_lt f) a).elim⟩
end
end Go.dG
variable{w t e:dg}{x y z:di}{A B C:Nat->Prop}{T U:dn}{W X:Array di}{I J:Int}{O Q:Go.Obj}{K:ej}{P:dq}
namespace Go.Proofs.W
open Go.Conc Go.dG Go.dG.Cr Go.RowKit
def _root_.Go.dG.G5.Gp{m:Option Nat}{a:Nat×Nat}(h:G5 R m (.cells W T a) O)(b:T≠sP):m=none:=by rcases h with⟨h,_⟩|⟨_,_,_,_,_,_,_,e,_⟩;exact h;injection e with _ e;exact absurd e b
def jq.carry{C:Type}{E D:dg->di->C->Prop}{l:List C} (J:HR R t w)(K:∀b c,R.r b c->B c)(L:T≠sP) (M:∀F,VR R z F->F=z)(N:∀j f a,E t j a->VR R j f->D w f a) (h:jq A E z T t x l)(G:VR R x y):jq B D z T w y l:=by
 rcases h with⟨rfl,rfl⟩|⟨b,c,cs,fz,h1,rfl,O,P,Q,S,U⟩;cases G;exact .inl ⟨rfl,rfl⟩;cases G with
 |slice _ _ V=>
  cases V with
  | @mk b W o s H=>
   obtain⟨o,o',g,X,i⟩:=J.obj _ _ H;rw[O]at g;injection g with g;subst g;have I:=i.Gp L;replace i:=i.obj I;rw[I];cases i with
   | @cells _ m _ _ n e hf=>
    refine .inr ⟨W,c,m,n,K _ _ H,rfl,X,e.size▸P,Q,λk Y=>?_,λk Z k2=>?_⟩;obtain⟨j,d,he⟩:=S k Y;rcases e.get? k with⟨p,_⟩|⟨x1,f,q,u,v⟩;rw[p]at d;cases d;rw[q]at d;injection d with d;subst d;exact⟨f,u,N _ _ _ he v⟩;have d:=U k Z k2;rcases e.get? k with⟨p,_⟩|⟨x1,f,q,u,v⟩;rw[p]at d;cases d;rw[q]at d;injection d with d;subst d;rw[u,M _ v]
def VR.int_eq{k:IntKind}(h:VR R (.int k I) x):x=.int k I:=by cases h;rfl
def VR.vZ(h:VR R (.slice none 0 0) x):x=.slice none 0 0:=by cases h;rfl
theorem AI:∀{l:List Int} {a:List di},qc R (l.map (Value.int .i64)) a->a=l.map (Value.int .i64)
 |[],_,h=>by cases h;rfl
 |x::l,_,h=>by
  simp only[lA]at h;cases h with
  |cons h t=>rw[VR.int_eq h,AI t];rfl
theorem fH.carry{D:eN}(g:HR R t w)(i:∀b c,R.r b c->B c) (h:fH A m D t)(F:R.r m k):fH B k D w:=by
 obtain⟨S,T,U,V,G,H,I,J⟩:=h.at_;obtain⟨o,W,u,K,v⟩:=g.obj _ _ F;rw[H]at u;injection u with u;subst u;replace v:=v.obj (v.Gp (by decide));cases v with
 | @cells _ j _ _ y z X=>
  have l:=z.list;simp only[dX,oP,so]at l;cases d:j.toList with
  |nil=>rw[d]at l;cases l
  |cons n Y=>
   rw[d]at l;cases l with
   |cons C L=>
    cases L with
    | @cons _ p _ _ M N=>
     cases N with
     | @cons _ q _ _ O P=>
      have:=AI P;subst this;refine⟨h.ok,i _ _ F,n,p,q,y,?_,?_,?_,?_⟩;rcases G with rfl|⟨a,rfl⟩;unfold undef at C;cases C with
      | @tuple _ s Q Z=>
       have:s=#[]:=Array.eq_empty_of_size_eq_zero (by simpa using Q.symm);rw[this];exact .inl rfl
      |A3 hd a=>exact .inr ⟨a,rfl⟩
      cases C with
      |ptr ha=>exact .inr ⟨_,rfl⟩
      rw[K];have:j=dX n p q D.counts:=A1 (by rw[d];simp[dX]);rw[this];exact I.carry g i (by decide) (λ_ h=>VR.int_eq h) (λx E a (e:x=_) f=>by subst e;exact VR.int_eq f) M;exact J.carry g i (by decide) (λ_ h=>VR.vZ h) (λx E a e f=>e.carry g i (by decide) (λ_ h=>VR.vZ h) (λx E a e f=>e.carry g i (by decide) (λ_ h=>VR.int_eq h) (λx E a (e:x=_) f=>by subst e;exact VR.int_eq f) f) f) O
theorem jq.cells{f:Type}{N:Nat->Prop}{E:dg->di->f->Prop}{z:di}{t:dn}{w e:dg}{v:di}{l:List f}(i:∀b a t d,N b->w.heap[b]? =some (.cells a t d)->e.heap[b]? =some (.cells a t d))(j:∀u x,E w u x->E e u x)(h:jq N E z t w v l):jq N E z t e v l:=by rcases h with h|⟨b,c,a,d,g,m,n,o,p,q,r⟩;exact .inl h;refine .inr ⟨b,c,a,d,g,m,i _ _ _ _ g n,o,p,λk s=>?_,r⟩;obtain⟨u,y,A⟩:=q k s;exact⟨u,y,j _ _ A⟩
theorem fH.cells{N:Nat->Prop}{d:Nat}{D:eN}{w e:dg}(a:∀b f t c,N b->w.heap[b]? =some (.cells f t c)->e.heap[b]? =some (.cells f t c))(h:fH N d D w):fH N d D e:=by obtain⟨g,i,j,c,k,l,m,n⟩:=h.at_;exact⟨h.ok,h.lt,g,i,j,c,k,a _ _ _ _ h.lt l,m.cells a λ_ _ h=>h,n.cells a λ_ _ h=>h.cells a λ_ _ h=>h.cells a λ_ _ h=>h⟩
def jm:List PanicEntry:=[{v:=.iface 3 (.int .i64 7),recovered:=false}]
noncomputable def gR(a:Array di):Act:=(⟨a++Array.replicate (9-a.size) undef,[]⟩:Act).put (some 9) (.bool true)
noncomputable def mR(a:Array di):Array di:=#[(gR a).eval (.tmp 0),(gR a).eval (.tmp 1),(gR a).eval (.tmp 2),(gR a).eval (.tmp 3),(gR a).eval (.tmp 4),(gR a).eval (.tmp 5),(gR a).eval (.tmp 6),(gR a).eval (.tmp 7),(gR a).eval (.tmp 8),(gR a).eval (.tmp 9)]
def ry(v:di):Array di:=#[v,undef,undef,undef,undef,undef,undef,undef,undef,undef]
def rz(a:Array di):Obj:=.cells #[.func (.func 227) #[] a] 200
def Qp(v:dg):Prop:=∃a n D N,v.heap[n]? =some (rz (ry (.pointer (some ⟨a,0,none⟩))))/\v.heap.size=n+1/\fH N a D v/\∀b,N b->b<n
theorem fH.dF{D:eN}(T:Ta)(h:fH A m D t):fH A m D (Go.dG.dF t T):=fH.same (w:=t) (w':=Go.dG.dF t T) (λ_ _=>rfl) h
theorem Qp.dF(T:Ta)(h:Qp t):Qp (dF t T):=by obtain⟨a,n,D,N,b,c,d,e⟩:=h;exact⟨a,n,D,N,b,c,fH.same (w:=t) (w':=Go.dG.dF t T) (λ_ _=>rfl) d,e⟩
def uz(a:Array di)(i:Nat):(gR a).eval (.tmp i)=((a++Array.replicate (9-a.size) undef).setIfInBounds 9 (.bool true)).getD i undef:=rfl
def H5(a:Array di)(i:Nat):a.getD i undef=(a[i]?).getD undef:=by simp[xk]
def Gq(k:x≠undef)(h:mR W=ry x):W.size<=9/\0<W.size/\W[0]? =some x/\∀i,1<=i->i<W.size->W[i]? =some undef:=by
 have b:∀(i:Nat),i<10->(gR W).eval (.tmp i)=if i=0 then x else undef:=by
  intro i g;have e:(mR W)[i]? =(ry x)[i]? :=by rw[h]
  have:i=0\/i=1\/i=2\/i=3\/i=4\/i=5\/i=6\/i=7\/i=8\/i=9:=by omega
  rcases this with rfl|rfl|rfl|rfl|rfl|rfl|rfl|rfl|rfl|rfl<;>(simp only[mR,ry,Cd,zZ,G0,gx]at e;rw[e];rfl)
 have l:W.size<=9:=by refine Nat.le_of_not_lt λm=>?_;have:=b 9 (by omega);rw[uz,H5,kq (by simp;omega)]at this;simp[undef]at this
 have n:(W++Array.replicate (9-W.size) undef).size=9:=by simp;omega
 have c:∀(i:Nat),i<9->(gR W).eval (.tmp i)=((W++Array.replicate (9-W.size) undef)[i]?).getD undef:=λi g=>by rw[uz,H5,eG (show 9≠i by omega)]
 have d:∀(i:Nat),i<W.size->(gR W).eval (.tmp i)=(W[i]?).getD undef:=λi g=>by rw[c i (by omega),wv g]
 have a:0<W.size:=by refine Nat.pos_of_ne_zero λo=>k ?_;have f:=b 0 (by omega);rw[c 0 (by omega),zF (show W.size<=0 by omega)]at f;simp[o]at f;exact f.symm
 refine⟨l,a,?_,λi f j=>?_⟩;have e:=d 0 a;rw[b 0 (by omega),jp a]at e;rw[jp a];simp at e;rw[e];have e:=d i j;rw[b i (by omega),jp j,dp (by omega)]at e;rw[jp j];simp at e;rw[e]
def yU{a:Func}(c:P.funcs[K]? =some a)(g:9<=a.ntmps)(j:W.size<=9)(l:0<W.size)(d:W[0]? =some x)(f:∀i,1<=i->i<W.size->W[i]? =some undef)(k:CallKind):Frame.enter P K W k=Frame.enter P K #[x] k:=by
 have e:W++Array.replicate (a.ntmps-W.size) undef=#[x]++Array.replicate (a.ntmps-(#[x]:Array di).size) undef:=by
  refine Kc λi=>?_;by_cases b:i<W.size;rw[wv b];cases i with
  |zero=>rw[d,wv (by simp)];rfl
  |succ i=>
   rw[f _ (by omega) b,zF (by simp)];rw[tF,dr (by simp;omega)]
  rw[zF (by omega),zF (by simp;omega),tF,tF];by_cases h:i-W.size<a.ntmps-W.size;rw[dr h,dr (by simp;omega)];rw[dp h,dp (by simp;omega)]
 simp only[Frame.enter,c,kG,kF];rw[e]
end Go.Proofs.W
namespace Go.Proofs.W
open Go.Conc Go.dG Go.dG.Cr Go.RowKit
open Go.ConcR (KK wgBlock WgAt stA smA mk DC0)
abbrev qm:List Nat:=[190,215,216,227,228,229,164,194,128]
def oK(f:Nat):Bool:=f==190
def O1:qm.all (okF qm true oK)=true:=by kernel_rfl
def AJ(N:Nat->Prop)(w:dg)(b:Nat):Prop:=N b/\∃a c,w.heap[b]? =some (.cells a 3 c)/\∀(i:Nat) u,a[i]? =some u->∃n,u=.int .i64 n
def AK(N:Nat->Prop)(w:dg)(t:dn)(Q:Nat->Prop)(b:Nat):Prop:=N b/\∃a e,w.heap[b]? =some (.cells a t e)/\∀(i:Nat) u,a[i]? =some u->u=.slice none 0 0\/∃d l c,u=.slice (some ⟨d,0,none⟩) l c/\Q d
def nP(N:Nat->Prop)(w:dg)(pb b:Nat):Prop:=AJ N w b\/AK N w 27 (AJ N w) b\/AK N w 66 (AK N w 27 (AJ N w)) b\/b=pb
def jq.xi{g:Type}{N:Nat->Prop}{E:dg->di->g->Prop}{w:dg}{l:List g}(h:jq N E z U w x l):x=.slice none 0 0\/∃b c d e,N b/\x=.slice (some ⟨b,0,none⟩) l.length c/\w.heap[b]? =some (.cells d U e)/\∀(i:Nat) u,d[i]? =some u->u=z\/∃j,E w u j:=by rcases h with⟨_,h⟩|⟨b,c,d,e,k,m,n,s,t,o,p⟩;exact .inl h;refine .inr ⟨b,c,d,e,k,m,n,λi u f=>?_⟩;have v:i<d.size:=(fF.1 f).1;by_cases q:i<l.length;obtain⟨y,a,r⟩:=o i q;rw[f]at a;injection a with a;subst a;exact .inr ⟨_,r⟩;have:=p i (by omega) (by omega);rw[f]at this;injection this with this;exact .inl this
def yV{N:Nat->Prop}{w:dg}{l:List Nat}(h:uY N w x l):x=.slice none 0 0\/∃b l c,x=.slice (some ⟨b,0,none⟩) l c/\AJ N w b:=by rcases h.xi with h|⟨b,c,a,d,e,f,g,j⟩;exact .inl h;refine .inr ⟨b,_,c,f,e,a,d,g,λi u k=>?_⟩;rcases j i u k with rfl|⟨m,n⟩;exact⟨0,rfl⟩;exact⟨m,n⟩
def Er{N:Nat->Prop}{w:dg}{l:List (List Nat)}(h:xX N w x l):x=.slice none 0 0\/∃b l c,x=.slice (some ⟨b,0,none⟩) l c/\AK N w 27 (AJ N w) b:=by rcases h.xi with h|⟨b,c,a,d,e,f,g,j⟩;exact .inl h;refine .inr ⟨b,_,c,f,e,a,d,g,λi u k=>?_⟩;rcases j i u k with rfl|⟨n,m⟩;exact .inl rfl;exact yV m
def Jp{N:Nat->Prop}{w:dg}{l:List (List (List Nat))}(h:ue N w x l):x=.slice none 0 0\/∃b l c,x=.slice (some ⟨b,0,none⟩) l c/\AK N w 66 (AK N w 27 (AJ N w)) b:=by rcases h.xi with h|⟨b,c,a,d,e,f,g,j⟩;exact .inl h;refine .inr ⟨b,_,c,f,e,a,d,g,λi u k=>?_⟩;rcases j i u k with rfl|⟨n,m⟩;exact .inl rfl;exact Er m
def vq(T pb b:Nat)(o:Obj):Obj:=if b=T then o else match o with
 | .cells a t c=>.cells (if b=pb then a.setIfInBounds 0 undef else a) t (0,max a.size c.2)
 |o=>o
def tD(T pb:Nat)(w:dg):dg:={w with heap:=w.heap.mapIdx (vq T pb)}
def Gr{T pb:Nat}{w:dg}(b:Nat):(tD T pb w).heap[b]? =(w.heap[b]?).map (vq T pb b):=by show(w.heap.mapIdx (vq T pb))[b]? =_;rw[Array.getElem?_mapIdx]
def Qq{T pb:Nat}{w:dg}:(tD T pb w).heap[T]? =w.heap[T]? :=by
 rw[Gr];cases w.heap[T]? with
 |none=>rfl
 |some o=>simp[vq]
def pk{T pb:Nat}{w:dg}{b:Nat}{a:Nat×Nat}(c:b≠T)(d:b≠pb)(h:w.heap[b]? =some (.cells W U a)):(tD T pb w).heap[b]? =some (.cells W U (0,max W.size a.2)):=by rw[Gr,h];simp[vq,c,d]
def Gs{T pb:Nat}{w:dg}{a:Nat×Nat}(b:pb≠T)(h:w.heap[pb]? =some (.cells W U a)):(tD T pb w).heap[pb]? =some (.cells (W.setIfInBounds 0 undef) U (0,max W.size a.2)):=by rw[Gr,h];simp[vq,b]
def jq.UO{p:Type}{N q:Nat->Prop}{E r:dg->di->p->Prop}{w w':dg}{l:List p}(t:∀u g,E w u g->r w' u g)(h:jq N E z U w x l) (v:∀b d m,N b->w.heap[b]? =some (.cells d U m)->(∀(i:Nat) u,d[i]? =some u->u=z\/∃g,E w u g)->q b/\∃f,w'.heap[b]? =some (.cells d U f)):jq q r z U w' x l:=by have j:=h.xi;rcases h with h|⟨b,c,d,m,y,n,s,A,B,C,D⟩;exact .inl h;rcases j with j|⟨M,O,F,f,P,a,e,G⟩;rw[n]at j;cases j;rw[n]at a;injection a with a;injection a with a;injection a with a;subst a;rw[s]at e;injection e with e;injection e with e;subst e;obtain⟨H,o,I⟩:=v b d m y s G;refine .inr ⟨b,c,d,o,H,n,I,A,B,λk J=>?_,D⟩;obtain⟨u,K,L⟩:=C k J;exact⟨u,K,t _ _ L⟩
section
variable{N:Nat->Prop}{w:dg}{pb T:Nat}{D:eN}
def yW(i:fH N pb D w){b:Nat}(h:nP N w pb b):N b/\∃a t c,w.heap[b]? =some (.cells a t c)/\(t=3\/t=27\/t=66\/t=207)/\(b=pb↔t=207):=by
 obtain⟨m,n,o,k,p,j,q,r⟩:=i.at_;have d:∀{b t a c},w.heap[b]? =some (.cells a t c)->t≠207->b≠pb:=by intro b t a c f l e;rw[e,j]at f;injection f with f;injection f with _ f _;exact l f.symm
 rcases h with⟨g,a,c,h,_⟩|⟨g,a,c,h,_⟩|⟨g,a,c,h,_⟩|rfl;exact⟨g,a,3,c,h,.inl rfl,λe=>absurd e (d h (by decide)),λe=>by cases e⟩;exact⟨g,a,27,c,h,.inr (.inl rfl),λe=>absurd e (d h (by decide)),λe=>by cases e⟩;exact⟨g,a,66,c,h,.inr (.inr (.inl rfl)),λe=>absurd e (d h (by decide)),λe=>by cases e⟩;exact⟨i.lt,_,_,_,j,.inr (.inr (.inr rfl)),λ_=>rfl,λ_=>rfl⟩
def My(q:fH N pb D w)(o:∀b,nP N w pb b->b≠T):fH (nP N w pb) pb D (tD T pb w):=by
 obtain⟨y,r,s,f,C,v,z,A⟩:=q.at_;have j:∀{b t g f},w.heap[b]? =some (.cells g t f)->t≠207->b≠pb:=by intro b t g f c B e;rw[e,v]at c;injection c with c;injection c with _ c _;exact B c.symm
 have DU:∀u l,uY N w u l->uY (nP N w pb) (tD T pb w) u l:=λu l h=>jq.UO (w:=w) (w':=tD T pb w) (λ_ _ h=>h) h λb g f m d n=>by have a:nP N w pb b:=.inl ⟨m,g,f,d,λi u a=>(n i u a).elim (λe=>⟨0,e⟩) λ⟨x,c⟩=>⟨x,c⟩⟩;exact⟨a,_,pk (o b a) (j d (by decide)) d⟩
 have rows:∀u l,xX N w u l->xX (nP N w pb) (tD T pb w) u l:=λu l h=>jq.UO (w:=w) (w':=tD T pb w) DU h λb g f m d n=>by have a:nP N w pb b:=.inr (.inl ⟨m,g,f,d,λi u a=>(n i u a).elim .inl λ⟨x,c⟩=>yV c⟩);exact⟨a,_,pk (o b a) (j d (by decide)) d⟩
 have k:∀u l,ue N w u l->ue (nP N w pb) (tD T pb w) u l:=λu l h=>jq.UO (w:=w) (w':=tD T pb w) rows h λb g f m d n=>by have a:nP N w pb b:=.inr (.inr (.inl ⟨m,g,f,d,λi u a=>(n i u a).elim .inl λ⟨x,c⟩=>Er c⟩));exact⟨a,_,pk (o b a) (j d (by decide)) d⟩
 refine⟨q.ok,.inr (.inr (.inr rfl)),undef,r,s,(0,max (dX y r s D.counts).size f.2),.inl rfl,?_,DU _ _ z,k _ _ A⟩;have p:pb≠T:=o pb (.inr (.inr (.inr rfl)));rw[Gs p v];rfl
def Jq{z rd:Nat->Prop}(U:fH N pb D w)(A:∀b,nP N w pb b->b≠T)(L:∀b,N b->rd b)(B:z T)(V:w.heap[T]? =some (.cells (jR ⟨pb,0,none⟩) 245)):
 uR (o7 qm oK (λb=>nP N w pb b\/b=T)) (tD T pb w) w z rd:=by
 obtain⟨M,I,J,p,X,q,C,Y⟩:=U.at_;have E:pb≠T:=A pb (.inr (.inr (.inr rfl)));have k:∀u,(u=.slice none 0 0\/∃d l c,u=.slice (some ⟨d,0,none⟩) l c/\nP N w pb d)->VR (o7 qm oK (λb=>nP N w pb b\/b=T)) u u:=by rintro u (rfl|⟨d,l,c,rfl,f⟩);exact .fW _ _;exact .slice _ _ (.mk _ _ ⟨rfl,.inl f⟩)
 have O:∀{b t j p},w.heap[b]? =some (.cells j t p)->t≠207->b≠pb:=by intro b t j p y P e;rw[e,q]at y;injection y with y;injection y with _ y _;exact P y.symm
 have self:∀{b t j p},w.heap[b]? =some (.cells j t p)->b≠T->t≠207->(∀(i:Nat) u,j[i]? =some u->VR (o7 qm oK (λb=>nP N w pb b\/b=T)) u u)->
  ∃o W,(tD T pb w).heap[b]? =some o/\w.heap[b]? =some W/\jP (o7 qm oK (λb=>nP N w pb b\/b=T)) o W:=λ{b t j p} h f P Z=>
  ⟨_,_,pk f (O h P) h,h,.cells ⟨rfl,λi v v' g m=>by rw[g]at m;cases m;exact Z i v g⟩ λr s=>⟨gu _,eh s.2 (Nat.le_max_right _ _)⟩⟩
 refine⟨HR.of (λ_=>rfl) λb c' Q=>?_,λb c' Q=>?_⟩;obtain⟨rfl,f|rfl⟩:=Q;rcases id f with⟨K,j,F,g,m⟩|⟨K,j,F,g,m⟩|⟨K,j,F,g,m⟩|rfl;exact self g (A b f) (by decide) λi u G=>by obtain⟨n,rfl⟩:=m i u G;exact .int _ _
 exact self g (A b f) (by decide) λi u G=>k u ((m i u G).imp id λ⟨d,l,c,q,C⟩=>⟨d,l,c,q,.inl C⟩);exact self g (A b f) (by decide) λi u G=>k u ((m i u G).imp id λ⟨d,l,c,q,C⟩=>⟨d,l,c,q,.inr (.inl C)⟩);refine⟨_,_,Gs E q,q,.cells (fG.kT ?_) λr s=>⟨gu _,eh s.2 (Nat.le_max_right _ _)⟩⟩;have e:((dX M I J D.counts).setIfInBounds 0 undef).toList=undef::I::J::D.counts.map (Value.int .i64):=by simp[dX]
 have e':(dX M I J D.counts).toList=M::I::J::D.counts.map (Value.int .i64):=by simp[dX]
 rw[e,e'];refine .cons ?_ (.cons (k _ ((yV C).imp id λ⟨d,l,c,R,S⟩=>⟨d,l,c,R,.inl S⟩)) (.cons (k _ ((Jp Y).imp id λ⟨d,l,c,R,S⟩=>⟨d,l,c,R,.inr (.inr (.inl S))⟩)) ?_));rcases X with rfl|⟨a,rfl⟩;exact .undef;exact .A3 rfl a;generalize D.counts=l;induction l with
 |nil=>exact .nil
 |cons x l ih=>exact .cons (.int _ _) ih
 refine⟨_,_,Qq.trans V,V,.cells (fG.kT ?_) λ_ h=>h⟩;have hp:VR (o7 qm oK (λx=>nP N w pb x\/x=b)) (.pointer (some ⟨pb,0,none⟩)) (.pointer (some ⟨pb,0,none⟩)):=.ptr (.mk _ _ ⟨rfl,.inl (.inr (.inr (.inr rfl)))⟩);exact .cons hp (.cons (.fW _ _) (.cons (.int _ _) (.cons (.int _ _) (.cons (.int _ _) (.cons (.int _ _) (.cons (.int _ _) (.cons (.int _ _) (.cons (.fW _ _) (.cons (.int _ _) (.cons (.int _ _) (.cons (.bool _) .nil)))))))))));obtain⟨rfl,f|rfl⟩:=Q;obtain⟨K,j,t,p,g,_,_⟩:=yW U f;refine .inr ⟨L b K,?_⟩;by_cases H:b=pb;subst H;exact⟨_,_,_,Gs E g,λr s=>⟨gu _,eh (by simpa using s) (Nat.le_max_left _ _)⟩⟩;exact⟨_,_,_,pk (A b f) H g,λr s=>⟨gu _,eh s (Nat.le_max_left _ _)⟩⟩;exact .inl B
end
def Qr(pb T:Nat)(s:Sp)(_:di)(a:dg):Prop:=∃b c d L y,a.heap[T]? =some (eW pb b c d L y)/\dW (λ_=>True) a s y
def Jr(pb:Nat):(Obj.cells (jR ⟨pb,0,none⟩) 245)=eW pb none 0 0 L0 OA:=rfl
def AL:∀d,qT 0 d=0:=λd=>by simp[qT]
def O2(HP:Dp)(N:Nat->Prop)(pb:Nat)(D:eN)(w0:dg)(ap:fH N pb D w0)(hN:∀b,N b->b<w0.heap.size)(h0:0<D.opn.length):Gl w0 N pb (eo D 0).length (Dk D):=by
 intro rd Wg i hi aq own w T c cs hq af hz;have hP:fH N pb D w:=ap.same hq;have ar:∀b,N b->b<w.heap.size:=λb B=>by have f:=hq b B;rw[jp (hN b B)]at f;exact lt_of_heap f
 have hT:∀b,nP N w pb b->b≠T:=by rintro b B rfl;obtain⟨_,Y,t,fz,f,p,_⟩:=yW hP B;rw[hz]at f;injection f with f;injection f with _ f _;rcases p with p|p|p|p<;>rw[p]at f<;>cases f
 have aJ:=lt_of_heap hz;have ag:own T:=(af T).2 rfl;have z:=Jq (rd:=rd) hP hT aq ag hz;have hG:Go.dG.Good V.prog (o7 qm oK (λb=>nP N w pb b\/b=T)):=Am O1 (by decide)
 have ah:fG (o7 qm oK (λb=>nP N w pb b\/b=T)) #[.pointer (some ⟨T,0,none⟩),.int .i64 i] #[.pointer (some ⟨T,0,none⟩),.int .i64 i]:=
  fG.Kj (.ptr (.mk _ _ ⟨rfl,.inr rfl⟩)) (.int _ _)
 have hS:(o7 qm oK (λb=>nP N w pb b\/b=T)).S 190=true:=by show qm.contains 190=true;decide
 have au:(tD T pb w).heap.size=w.heap.size:=by simp[tD]
 have av:=My (T:=T) hP hT;have C:Go.dG.Reach V.prog (Go.dG.Left V.prog 190 (Qr pb T (Dk D i))) ⟨Frame.enter V.prog 190 #[.pointer (some ⟨T,0,none⟩),.int .i64 i] .normal,[floor],tD T pb w⟩:=by
  refine qG (λx w' Tp ⟨pa,pl,pc,L,y,f,p⟩=>⟨pa,pl,pc,L,y,f,p.same λ_ _=>rfl⟩) (qL hG (λ_=>rfl) hS ah z) λTp aK=>?_;have aw:iD (nP N w pb) pb T D 0 0 (dF (tD T pb w) Tp) [] none 0 L0 OA none:=by refine⟨⟨av.dF _,λb B=>⟨?_,hT b B,by simp⟩,?_,.inl ⟨rfl,rfl,rfl⟩,λs _=>by simp[L0],λs _ j _ _=>AL _,gu _,λ_=>rfl⟩,rfl,(λl m k h=>by cases h),gu _,gu _⟩;show b<(tD T pb w).heap.size;rw[au];exact ar b (yW hP B).1;show(tD T pb w).heap[T]? =_;rw[Qq,hz];rfl
  refine(HP (nP N w pb) pb T D 0 0 (dF (tD T pb w) Tp) [] none 0 L0 OA none i aw h0 hi).mono ?_;rintro e w' ⟨rfl,ax,ay,L',y',hg,_,_,_⟩;exact⟨_,rfl,ax,_,ay,L',y',hg.t.at_,hg.sched.mono λ_ _=>trivial⟩
 have A:=Hj (U:=λx=>x=undef) (λts Q w x u h=>by
  have:(results Tryz.f190 ts)=Pure.pure undef:=by simp[results,Tryz.results190,undef]
  rw[this]at h;simp only[Sem.run_pure]at h;injection h with h;exact h.symm) (ty:=241) (Wg:=Wg) (main:=false) (caller:=c) (cs:=cs) (own:=own) (rd:=rd) hG (λ_=>rfl) hS V.func190 (R:=Qr pb T (Dk D i)) (λx w' Tp ⟨pa,pl,pc,L,y,f,p⟩=>⟨pa,pl,pc,L,y,f,p.same λ_ _=>rfl⟩) ah C z
 have e:V.prog.iC (o7 qm oK (λb=>nP N w pb b\/b=T)).fs=PR:=Ot;rw[e]at A;refine(Wy.PZ A).bind λo' g w' h=>n9 λw1 hr=>?_;obtain⟨⟨ρ,x,x',v,rfl,⟨pa,pl,pc,L,y,B,hs⟩,hv,ai,az,rfl⟩,aA⟩:=h;have H:o' T:=aA T ag;have aB:ρ.r T T:=ai.r _ _ ⟨rfl,.inr rfl⟩;have aj:∀Z,ez o' rd (Lv 241 Wg) w' Z->∃I J K M O P W X a l cc m n s fz,Z.heap[T]? =some (.cells #[I,J,K,M,O,P,W,X,.slice a l cc,.int .i64 m,.int .i64 n,.bool s] 245 fz)/\Rq (Dk D) i o' Z (.agg #[.slice a l cc,.int .i64 m,.int .i64 n,.bool s]):=by
  intro Z E;have aa:=az.rely E;obtain⟨ob,aC,q,k2,k3⟩:=aa.heap.obj T T aB;have ab:∀c,ρ.sh c=none:=λc=>by rw[<-ai.g];rfl
  replace k3:=k3.obj (ab _);rw[B]at q;injection q with q;subst q;unfold eW at k3;cases k3 with
  | @cells _ Y _ _ F kv kf=>
   have d:=kv.list;simp only at d;cases ac:Y.toList with
   |nil=>rw[ac]at d;cases d
   |cons I l0=>
   rw[ac]at d;cases d with|cons _ d=>cases d with| @cons _ J _ _ _ d=>cases d with| @cons _ K _ _ _ d=>cases d with| @cons _ M _ _ _ d=>cases d with| @cons _ O _ _ _ d=>cases d with| @cons _ P _ _ _ d=>
   cases d with| @cons _ W _ _ _ d=>cases d with| @cons _ X _ _ _ d=>cases d with| @cons _ p8 _ _ g8 d=>cases d with| @cons _ p9 _ _ g9 d=>cases d with| @cons _ aD _ _ aE d=>cases d with| @cons _ aF _ _ aG d=>cases d with
   |nil=>
   have G:Y=#[I,J,K,M,O,P,W,X,p8,p9,aD,aF]:=A1 ac;cases g9;cases aE;cases aG;generalize ad:Dk D i=sp at hs⊢;cases sp with
   |none=>
    have:y=OA:=hs;subst this;cases g8;exact⟨I,J,K,M,O,P,W,X,none,0,0,0,0,false,F,by rw[k2,G];rfl,λ_=>False,λx h=>h.elim,OA,rfl,by rw[ad];rfl⟩
   |some sp=>
    obtain⟨ls,mm,kk⟩:=sp;obtain⟨q1,q2,q3,q4,⟨q5,q6,q7⟩|⟨q5,ak,q6,q7,q8,aH,fz,q9,al⟩⟩:=hs;rw[q6]at g8;cases g8;exact⟨I,J,K,M,O,P,W,X,none,_,_,_,_,_,F,by rw[k2,G],λ_=>False,λx h=>h.elim,⟨none,y.sl,y.sc,y.m,y.k,y.b⟩,rfl,by rw[ad];exact⟨q1,q2,q3,q4,.inl ⟨q5,rfl,q7⟩⟩⟩;rw[q7]at g8;cases g8 with
    |slice _ _ ha=>
     cases ha with
     | @mk _ o _ _ am=>
      obtain⟨ob,aC,j1,j2,j3⟩:=aa.heap.obj ak o am;replace j3:=j3.obj (ab _);rw[ab ak,Option.getD_none,nj]at G;rw[al]at j1;injection j1 with j1;subst j1;cases j3 with
      | @cells _ aL _ _ aI jv jf=>
       have:=H1 (λi v h=>rW h) jv;subst this;have an:o' o:=by rcases aa.zone _ _ am with h|⟨_,aM,t3,aN,f,p⟩;exact h;exfalso;rw[al]at f;injection f with f;injection f with f h3 h4;subst f h4;refine q9 0 (p 0 ?_);have:0<ls.length:=List.length_pos_iff.2 q5;simp[gy];omega
       exact⟨I,J,K,M,O,P,W,X,_,_,_,_,_,_,F,by rw[k2,G],λx=>x=o,λx h=>by rw[h];exact⟨an,lt_of_heap j2⟩,⟨some ⟨o,0,none⟩,y.sl,y.sc,y.m,y.k,y.b⟩,rfl,by rw[ad];exact⟨q1,q2,q3,q4,.inr ⟨q5,o,rfl,rfl,q8,aH,aI,λao h=>q9 ao (jf ao h),j2⟩⟩⟩
 obtain⟨I,J,K,M,O,P,W,X,a,l,cc,m,n,s,fz,g1,g2⟩:=aj w1 hr;refine⟨rfl,H,I,J,K,M,O,P,W,X,a,l,cc,m,n,s,fz,g1,λZ E=>?_⟩;obtain⟨q0,q1,q2,q3,q4,q5,q6,q7,a',l',aO,m',n',s',F,q,k2⟩:=aj Z (hr.trans E);have ae:Z.heap[T]? =w1.heap[T]? :=E.heap T (lt_of_heap g1) (.inl H);rw[ae,g1]at q;injection q with q;injection q with q;simp only[zX,pY]at q;obtain⟨_,_,_,_,_,_,_,_,r1,r2,r3,r4,_⟩:=q;rw[<-r1,<-r2,<-r3,<-r4]at k2;exact k2
end Go.Proofs.W
variable{F:Go.Frame}
namespace Go.Proofs.W
open Go.Conc Go.dG Go.dG.Cr Go.RowKit
def yX(D:eN)(w:dg)(e:Ending)(a:dg):Prop:=
 ∃y:SV,e=.returned y.val/\dW (λb=>w.heap.size<=b) a (ie D) y/\vO w.drawn a (ie D) y/\(∀b,b<w.heap.size->a.heap[b]? =w.heap[b]?)/\a.tape=w.tape
structure AM:Prop where
 probe:∀xs w,w.tape w.drawn (.order 163 1)=1->Calls V.prog 163 xs w λe w'=>e=.panicked jm/\w'=w.drew.alloc (rz (mR xs))
 goes:∀N pb D w,fH N pb D w->(∀b,N b->b<w.heap.size)->w.tape w.drawn (.order 163 1)=0->Calls V.prog 163 #[.pointer (some ⟨pb,0,none⟩)] w (yX D w)
 pick:∀N pb D w,fH N pb D w->(∀b,N b->b<w.heap.size)->0<D.opn.length->Gl w N pb (eo D 0).length (Dk D)
def sH(f:ej)(R:di->dg->Prop)(a:Frame)(b:List Frame)(v:dg):Prop:=
 Go.dG.Left V.prog f R a b v\/(b=[floor]/\a.fn=f/\a.mode=.panicking jm/\a.defers=[]/\Qp v)
def we(f:ej)(R:di->dg->Prop):H3 V.prog (sH f R):=by rintro k l v (⟨rfl,_,x,_,a,b,c,d,e,_⟩|⟨rfl,_,a,b,_⟩);exact⟨by simp,λT g i j h=>yS b (.inl ⟨a,c,d,e⟩) h⟩;exact⟨by simp,λT g i j h=>yS b (.inr ⟨_,a⟩) h⟩
def sH.callers{R:di->dg->Prop}(b:Frame)(a:List Frame)(v:dg)(h:sH K R b a v):a≠[]:=(we K R b a v h).1
theorem sH.fn{R:di->dg->Prop}{a:List Frame}(h:sH K R F a w):F.fn=K:=by rcases h with h|h;exact h.2.1;exact h.2.1
def Js{ρ:dV}{s:Sp}{y d:SV}(h:dW A t s y)(k:dW B w s d)(M:∀l m n,s=some (l,m,n)->l≠[]->y.sc=d.sc) (N:∀b,A b->∀c,¬ρ.r b c)(O:∀c,B c->∀b,¬ρ.r b c)(f:∀b,A b->ρ.sh b=none):∃a:dV,dV.Le ρ a/\VR a y.val d.val/\∀b c,a.r b c->ρ.r b c\/(A b/\B c/\a.sh b=none/\∃x C,t.heap[b]? =some x/\w.heap[c]? =some C/\jP a x C):=by
 cases s with
 |none=>
  have e:y=⟨none,0,0,0,0,false⟩:=h;have P:d=⟨none,0,0,0,0,false⟩:=k;subst e P;exact⟨ρ,.refl _,(fG.kT (.cons (.fW _ _) (.cons (.int _ _) (.cons (.int _ _) (.cons (.bool _) .nil))))).agg,λb c h=>.inl h⟩
 |some s=>
  obtain⟨l,m,n⟩:=s;have g:=M l m n rfl;obtain⟨ya,yl,yc,ym,yk,yb⟩:=y;obtain⟨Q,R,S,T,U,V⟩:=d;obtain⟨D,E,F,G,H⟩:=h;obtain⟨I,J,K,L,q⟩:=k;simp only at D E F G H I J K L q g;subst D E F G I J K L;rcases H with⟨rfl,rfl,rfl⟩|⟨o,b,p,rfl,h6,h7,fz,h8,W⟩;rcases q with⟨_,rfl,rfl⟩|⟨o,_⟩;exact⟨ρ,.refl _,(fG.kT (.cons (.fW _ _) (.cons (.int _ _) (.cons (.int _ _) (.cons (.bool _) .nil))))).agg,λb c h=>.inl h⟩;exact absurd rfl o;rcases q with⟨u,_⟩|⟨_,c,j,rfl,k6,k7,X,Y,Z⟩;exact absurd u o;obtain rfl:=g o;refine⟨ρ.ext b c (N b p) (O c j),ρ.sN _ _ _ _,(fG.kT (.cons (.slice _ _ (.of _ _ (ρ.rH _ _ _ _) (f b p))) (.cons (.int _ _) (.cons (.int _ _) (.cons (.bool _) .nil))))).agg,λb' c' v=>?_⟩;rcases v with v|⟨rfl,rfl⟩;exact .inl v;exact .inr ⟨p,j,f _ p,_,_,W,Z,.cells (Mq λi t h=>rW h) λz ho=>absurd ho (Y z)⟩
def Rr{y:SV}{s:Sp}{T:Nat->Question->Nat}(h:vO m w s y)(c:w.tape=T){K:Nat}(d:∀j n x t,m<=j->T j (.appendCap n x t)=K-n)(a:List Int)(b n:Int)(f:s=some (a,b,n))(g:a≠[])(k:a.length<=K)(l:K<2^63):y.sc=K:=by obtain⟨j,i,e⟩:=h a b n f g;rw[e,c,d j _ _ _ i];simp only[Question.cut];rw[Nat.mod_eq_of_lt (by omega)];omega
def O3(BF:AM){f:ej}{R:di->dg->Prop}(hf:f≠163)(w0:dg):Ky V.prog PR.funcs w0 (sH f R):=by
 intro ρ X c gs a w sl t q g xs av k P hS hh hx aK aL;have hg:g=163:=Ke λaX=>k.holes.1 g hh (V.wT g aX);subst hg;have hD:¬ρ.Def:=λh=>by have:=k.good.dh h 163;rw[hh]at this;cases this
 have E:=we f R;obtain⟨X1,bo,e1,e2,hX⟩:=k.gor.callers;have aj:c.cl=X1++[floor]:=e1;have aY:c.cl≠[]:=by rw[aj];simp
 have ev:(V.prog.iC PR.funcs)=PR:=Ot;have aZ:Go.dG.Below c.v (λj q=>if j<c.v.drawn then c.v.tape j q else 1):=λj hj=>by funext q;simp[hj]
 obtain⟨e,wp,ak,⟨rfl,aw⟩,hs,a1,hl⟩:=BF.probe xs (dF c.v (λj q=>if j<c.v.drawn then c.v.tape j q else 1)) (by simp[dF]) c.cl;obtain⟨np,Y⟩:=hs;have H:ak.mode=.panicking jm:=hl.1;obtain⟨hp,ax⟩:Path V.prog (sH f R) c ⟨ak,c.cl,wp⟩/\Inv V.prog ⟨ak,c.cl,wp⟩:=by
  cases np with
  |zero=>
   exfalso;simp only[runN]at Y;injection Y with Y;have:=(yT Y).1;rw[<-this]at H;cases H
  |succ np=>exact vY E np k.inv aZ (by rw[aK];exact Y) aY
 have aM:∀b,b<c.v.heap.size->wp.heap[b]? =c.v.heap[b]? :=λb O=>by rw[aw];exact alloc_old (World.drew _) _ O
 have aN:wp.heap[c.v.heap.size]? =some (rz (mR xs)):=by rw[aw];exact fM (World.drew (dF c.v _)) _
 have bp:wp.heap.size=c.v.heap.size+1:=by rw[aw];exact World.size_alloc _ _
 have ay:∀x∈X1,Go.dG.Calm V.prog wp x:=λx al=>by
  refine(Mx k.good hD (v:=c.v) (λb p P=>?_) hX x al).grow aM λb ds O h=>?_;obtain⟨o,o',Q,Z,W⟩:=k.heap.obj b p P;exact⟨o,o',Q,⟨w,Z⟩,W⟩;have bq:=lt_of_heap h;obtain rfl:b=c.v.heap.size:=by omega
  rw[aN]at h;cases h
 obtain⟨cp,az,am⟩:=H4.stop E (v0:=wp) (hp.reach P) ⟨⟨_,H⟩,⟨hl.2.2,by rw[hl.2.1];simp⟩,⟨X1,aj,ay⟩,λ_ _ _ _ h=>h,λ_ _ _ _ h=>h,rfl⟩;obtain⟨pb,n,D,N,aO,br,aA,hN⟩:Qp cp.v:=by rcases az with⟨_,_,x,_,hm,_⟩|h;obtain⟨ch,aP⟩:=am.mode;rw[hm]at aP;cases aP;exact h.2.2.2.2
 have hn:n=c.v.heap.size:=by have:=am.size;omega
 subst hn;have aB:mR xs=ry (.pointer (some ⟨pb,0,none⟩)):=by
  have S:=am.kept _ _ _ _ aN;rw[aO]at S;injection S with S;injection S with S;have h2:(#[Value.func (.func 227) #[] (ry (.pointer (some ⟨pb,0,none⟩)))]:Array di)[0]? =(#[Value.func (.func 227) #[] (mR xs)]:Array di)[0]? :=by rw[S]
  have h3:Value.func (.func 227) #[] (ry (.pointer (some ⟨pb,0,none⟩)))=Value.func (.func 227) #[] (mR xs):=dH h2;injection h3 with _ _ h4;exact h4.symm
 obtain⟨x9,ap,x0,xu⟩:=Gq (by simp[undef]) aB;have aC:fH N pb D c.v:=(aA.cells λb cs t fz O h=>am.back b cs t fz h).cells λb cs t fz O h=>by rw[<-aM b (hN b O)];exact h
 obtain⟨I,a2,an⟩:∃I,av[0]? =some (.pointer (some ⟨I,0,none⟩))/\ρ.r pb I:=by
  rcases hx.get? 0 with⟨Q,_⟩|⟨u,u',Q,Z,W⟩;rw[Q]at x0;cases x0;rw[Q]at x0;injection x0 with x0;subst x0;cases W with
  |ptr ha=>cases ha with
   |mk o s P=>
    obtain⟨_,_,_,_,_,q1,_⟩:=aC.at_;obtain⟨oo,bs,w1,w2,w3⟩:=k.heap.obj _ _ P;rw[q1]at w1;injection w1 with w1;subst w1;have hs:=w3.Gp (by decide);refine⟨_,?_,P⟩;rw[Z,hs];rfl
 have a3:∀i,1<=i->i<av.size->av[i]? =some undef:=λi S h2=>by
  have h3:=xu i S (by rw[hx.size];exact h2);rcases hx.get? i with⟨Q,_⟩|⟨u,u',Q,Z,W⟩;rw[Q]at h3;cases h3;rw[Q]at h3;injection h3 with h3;subst h3;rw[Z];revert W;generalize u'=z;intro W;unfold undef at W;cases W with
  | @tuple _ a4 k1 k2=>
   have:a4=#[]:=Array.eq_empty_of_size_eq_zero (by simpa using k1.symm);rw[this];rfl
  |A3 hd a=>rw[k.holes.2.1]at hd;cases hd
 have aQ:c.fr=Frame.enter V.prog 163 #[.pointer (some ⟨pb,0,none⟩)] .normal:=aK.trans (yU V.func163 (by decide) x9 ap x0 xu .normal);have aR:a.frame=Frame.enter PR 163 #[.pointer (some ⟨I,0,none⟩)] .normal:=by rw[aL,ev];exact yU Tryz.func163 (by rw[Tryz.ntmps163];decide) (hx.size▸x9) (hx.size▸ap) a2 a3 .normal
 have L:∀b p,ρ.r b p->b<c.v.heap.size/\p<w.heap.size:=λb p P=>by obtain⟨o,o',Q,Z,_⟩:=k.heap.obj b p P;exact⟨lt_of_heap Q,lt_of_heap Z⟩
 have aa:fH (λp=>∃b,ρ.r b p) I D w:=aC.carry k.heap (λb p P=>⟨b,P⟩) an;cases hX with
 |nil=>
  exfalso;have aq:c.cl=[floor]:=aj;refine Mw E (fr:=ak) (v:=wp) (by rw[<-aq];exact hp.reach P) (by rw[<-aq];exact ax) (λa5=>hf (a5.fn▸a1)) hl.2.1 (.inr ⟨_,H⟩)
 | @cons J A X2 ab hc a6=>
 have ha:a=G a.frame (A::ab):=by obtain⟨af,ac,bt,bu,bv⟩:=a;have k1:=k.gor.st.2;have k2:=k.gor.dy.2;have k3:=k.gor.of.2;simp only[List.append_nil]at k1 k2 k3 e2;subst k1 k2 k3 e2;rfl
 have hB:CZ PR X gs (G (Frame.enter PR 163 #[.pointer (some ⟨I,0,none⟩)] .normal) (A::ab)) w t q:=⟨by rw[<-aR,<-ha];exact k.at0,rfl,ev▸k.leavers,k.past,k.low⟩;have aD:∃(M:Nat) (T:Array dm) (U:dg) (ad:Option (Nat×Nat)) (t':Trace) (q':Nat->Nat) (X' o:Nat->Prop) (y:SV),runNT PR M (crowd gs w sl) t=(.next (crowd T U ad),t')/\
  CZ PR X' T (G (A.finish y.val) ab) U t' q'/\(U.tape=w.tape/\U.os=w.os/\U.output=w.output)/\w.heap.size<=U.heap.size/\(∀b,b<w.heap.size->U.heap[b]? =w.heap[b]?)/\dW o U (ie D) y/\(∀b,o b->w.heap.size<=b/\b<U.heap.size/\¬X' b)/\∀b,X' b->X b\/w.heap.size<=b:=by
  obtain⟨wk,u1,u2,fz,_,aS,aT,a7⟩:=aa.at_;have p1:w.cell? ⟨I,1,none⟩=some u1:=by simp[World.cell?,aS,dX]
  have p2:w.cell? ⟨I,2,none⟩=some u2:=by simp[World.cell?,aS,dX]
  by_cases h0:0<D.opn.length;have ao:0<D.lists.length:=by rw[aa.ok.len];exact h0
  obtain⟨oa,oc1,rfl⟩:=aT.len;obtain⟨lb,lc,lu,rfl,a8,aU,a9⟩:=a7.at_ 0 ao;obtain⟨a0,c0,rfl⟩:=a9.len;have ba:D.lists[0]=eo D 0:=by unfold eo;rw[ng,fI ao];rfl
  have ae:=aa.ok.many _ (fc ao);rw[ba]at aU ae;have aE:∀b,(∃b0,ρ.r b0 b)->b<w.heap.size/\¬X b:=λb ⟨b0,O⟩=>⟨(L _ _ O).2,k.apart _ _ O⟩;have ar:=Jl (X:=X) (B:=λp=>∃b,ρ.r b p) (sl:=sl) aE h0 ao (oa:=oa) (oc1:=oc1) (la:=⟨lb,0,none⟩) (C:=lc) (a0:=a0) (n:=(eo D 0).length) (c0:=c0) ⟨p1,⟨p2,aU⟩⟩ ⟨_,an⟩ a8 ae (BF.pick _ I D w aa (λb O=>(aE b O).1) h0) hB;rw[<-FQ D h0]at ar;exact ar;have au:D.opn=[]:=nZ (by omega);obtain⟨oa,oc1,rfl⟩:=aT.len;rw[au]at p1;obtain⟨M,T,U,ad,t',q',r1,r2,r3,r4,r5⟩:=Gm (sl:=sl) ⟨(L _ _ an).2,k.apart _ _ an⟩ p1 hB;refine⟨M,T,U,ad,t',q',X,λ_=>False,⟨none,0,0,0,0,true⟩,r1,r2,r3,r4,r5,?_,λb h=>h.elim,λb h=>.inl h⟩;have:ie D=some ([],0,0):=by unfold ie;rw[au];simp only[gl,eO,nD,eV,il,Ao,L0,lA,vC,aa.ok.zero];rfl
  rw[this];exact⟨rfl,rfl,rfl,rfl,.inl ⟨rfl,rfl,rfl⟩⟩
 obtain⟨M,T,U,ad,t',q',X',o,y,r1,r2,r3,r4,r5,r6,r7,r8⟩:=aD;have bb:Go.dG.Below c.v (λj q=>if j<c.v.drawn then c.v.tape j q else match q with| .appendCap n _ _=>y.sc-n|_=>0):=λj hj=>by funext q;simp[hj]
 obtain⟨e,w2,bc,⟨yv,rfl,bd,be,aF,bf⟩,bg,bn,bh⟩:=BF.goes N pb D (dF c.v (λj q=>if j<c.v.drawn then c.v.tape j q else match q with| .appendCap n _ _=>y.sc-n|_=>0)) (aC.dF _) hN (by simp[dF]) c.cl;obtain⟨n2,bi⟩:=bg;have aV:c.cl=J::(X2++[floor]):=aj;have aG:Go.step V.prog (lone bc c.cl w2)=.next (lone (J.finish yv.val) (X2++[floor]) w2):=by rw[aV];exact step_leave_returned bh
 obtain⟨aH,aI⟩:=vY E n2 (c:=c) k.inv bb (Jo (by rw[aQ];exact bi) aG) (by simp);have aW:∀l m n,ie D=some (l,m,n)->l≠[]->yv.sc=y.sc:=λl m n hs hl=>by have h6:=r6;rw[hs]at h6;obtain⟨_,_,_,_,⟨bj,_⟩|⟨_,_,_,_,h7,h8,_⟩⟩:=h6;exact absurd bj hl;exact Rr be bf (K:=y.sc) (λj n x t hj=>by have:¬j<c.v.drawn:=Nat.not_lt.2 hj;simp[dF,this]) l m n hs hl h7 h8
 obtain⟨bk,F,bl,ag⟩:=Js (ρ:=ρ) bd r6 aW (λb O p P=>by
  have aE:c.v.heap.size<=b:=O;have:=(L _ _ P).1;omega) (λp ah b P=>by
  have S:=(r7 p ah).1;have:=(L _ _ P).2;omega) λb O=>k.heap.low b O
 have aJ:w0.heap.size<=w.heap.size:=k.grown;refine⟨M,T,U,ad,t',q',⟨J.finish yv.val,X2++[floor],w2⟩,bk,X',G (A.finish y.val) ab,by rw[ev];exact r1,⟨aI,k.good.mono F,F.f▸k.same,r2.at0,?_,?_,ev.symm▸r2.leavers,r2.past,r2.low,?_,?_,dS aJ r4,?_,?_,?_⟩,aH⟩;exact⟨.fr ((hc.mono F).finish bl),⟨X2,ab,rfl,by simp[G],a6.mono F⟩,⟨rfl,rfl⟩,⟨rfl,rfl⟩,⟨rfl,rfl⟩⟩;refine⟨λb p ai=>?_,λb O=>by rw[<-F.g];exact k.heap.low b (Nat.le_of_not_lt λh=>by have S:w2.heap[b]? =c.v.heap[b]? :=aF b h;rw[lY O,jp h]at S;cases S)⟩;rcases ag b p ai with h|⟨_,_,bm,x,x',Q,Z,W⟩;obtain⟨o1,o2,Q,Z,W⟩:=k.heap.obj b p h;refine⟨o1,o2,(aF b (L _ _ h).1).trans Q,(r5 p (L _ _ h).2).trans Z,?_⟩;rw[<-F.g];exact W.mono F;exact⟨x,x',Q,Z,.inl ⟨bm,W⟩⟩;intro b p ai al;rcases ag b p ai with h|⟨_,ho,_⟩;rcases r8 p al with S|S;exact k.apart _ _ h S;have:=(L _ _ h).2;omega;exact(r7 p ho).2.2 al;intro b p ai ah;rcases ag b p ai with h|⟨_,ho,_⟩;exact(k.old b p h ah).keep (aF b (L _ _ h).1);have:=(r7 p ho).1;omega;intro p ah;rw[r5 p (by omega)];exact k.kept p ah;exact⟨r3.1.trans k.world.1,r3.2.1.trans k.world.2.1,r3.2.2.trans k.world.2.2⟩;exact⟨λg hg=>k.holes.1 g (by rw[F.h];exact hg),F.d▸k.holes.2.1,λ⟨g,hg⟩=>k.holes.2.2 ⟨g,by rw[F.w];exact hg⟩⟩
end Go.Proofs.W
variable{l f:List Nat}{a:Option Go.Addr}
namespace Go.Proofs.W
open Go.RowKit
section
variable{w:dg}{kx:di->Prop}{kr kp kl:gW->Prop}{lb ea:Bool}
def Et(h:kr (boxed w.heap.size (sD T).toArray T))(b:UD T=true:=by rfl):wX Ext Ext w (λc d=>jB V.prog (Instr.alloc T true (.tuple #[])) c d) kx kr kp lb kl ea:=
 .rel _ (FP _ _ _) (λ_ e=>fJ (λ_ f g a i=>⟨⟨f,rfl,dS e.size a,i⟩,g⟩) b) h
end
structure O4(pb T:Nat)(w:dg)(D:eN)(n i:Nat)(pa:Option Addr)(pc:Nat)(l:List Nat)(d:Nat)(la:Option Addr)(WZ:Nat):Prop where
 h:∃ob no oc lb nl lc rb ni rc,w.cell? ⟨T,0,none⟩=some (.pointer (some ⟨pb,0,none⟩))/\w.cell? ⟨pb,1,none⟩=some (.slice (some ⟨ob,0,none⟩) no oc)/\w.cell? ⟨T,1,none⟩=some (.slice pa n pc)/\w.cell? ⟨ob,n,none⟩=some (.int .i64 d)/\
  w.cell? ⟨pb,2,none⟩=some (.slice (some ⟨lb,0,none⟩) nl lc)/\w.cell? ⟨lb,n,none⟩=some (.slice (some ⟨rb,0,none⟩) ni rc)/\w.cell? ⟨rb,i,none⟩=some (.slice la l.length WZ)/\n<no/\n<nl/\i<ni
 row:∀j (h:j<l.length),∃lb,la=some ⟨lb,0,none⟩/\lb≠T/\pa≠some ⟨lb,0,none⟩/\w.cell? ⟨lb,j,none⟩=some (.int .i64 l[j])
 long:l.length<=65536
 shift:∀s∈l,s<6
 door:d<5
def pT{a:Type}{l:List a}{d x:a}(h:k<l.length)(e:l.getD k d=x):l[k]=x:=by rw[ng,fI h]at e;exact e
def wU.data{N:Nat->Prop}{D:eN}{w:dg}{L:Nat->Nat}{y:SV}(h:wU N m k D w l a i L y)(g:l.length<D.opn.length)(s:j<(eo D l.length).length):∃t v,O4 m k w D l.length j a i ((eo D l.length).getD j []) (fQ D l.length) t v:=by
 obtain⟨J,K,t2,t3,t4⟩:=iI h.at_;have n:=h.plan;obtain⟨wk,M,O,fz,_,o,x,z⟩:=n.at_;have P:w.cell? ⟨m,1,none⟩=some M:=by simp[World.cell?,o,dX]
 have Q:w.cell? ⟨m,2,none⟩=some O:=by simp[World.cell?,o,dX]
 obtain⟨R,S,T,rfl,U,p,A⟩:=x.at_ l.length g;obtain rfl:T=.int .i64 (D.opn[l.length]:Nat):=A;have d:l.length<D.lists.length:=by rw[n.ok.len];exact g
 obtain⟨lb,V,lu,rfl,W,B,q⟩:=z.at_ l.length d;have F:D.lists[l.length]=eo D l.length:=pT d rfl;have G:D.opn[l.length]=fQ D l.length:=pT g rfl;rw[F]at q;rw[G]at p;obtain⟨X,Y,ru,rfl,Z,C,f⟩:=q.at_ j s;have H:(eo D l.length)[j]=(eo D l.length).getD j []:=pT s rfl;rw[H]at f;have e:eo D l.length∈D.lists:=F▸fc d;have r:(eo D l.length).getD j []∈eo D l.length:=H▸fc s;obtain⟨t,E,rfl⟩:=f.len;refine⟨t,E,⟨R,_,S,lb,_,V,X,_,Y,J,P,K,p,Q,B,C,g,d,s⟩,λaa hj=>?_,n.ok.long _ e _ r,n.ok.shift _ e _ r,n.ok.door _ (G▸fc g)⟩;obtain⟨b,c,u,h1,I,h3,h4⟩:=f.at_ aa hj;cases h1;exact⟨b,rfl,(h.sep b I).2.1,(h.sep b I).2.2,h3.trans (dQ some h4)⟩
structure O5(T pb:Nat)(w:dg)(ps:List Nat)(i:Nat)(pa:Option Addr)(L:Nat->Nat)(y:SV)(d:Nat)(l:List Nat)(e:Ending)(w':dg):Prop where
 out:∃bl bt bd la lc Ox SH,e=.returned (.func (.func 227) #[] #[.pointer (some ⟨bl,0,none⟩),.pointer (some ⟨bt,0,none⟩),.pointer (some ⟨bd,0,none⟩)])/\
  w.heap.size<=bl/\w.heap.size<=bt/\w.heap.size<=bd/\w'.heap[bl]? =some (.cells #[.slice la l.length lc] 27)/\w'.heap[bt]? =some (.cells #[.pointer (some ⟨T,0,none⟩)] 243)/\w'.heap[bd]? =some (.cells #[.int .i64 d] 3)/\
  (∀j (h:j<l.length),∃lb,la=some ⟨lb,0,none⟩/\lb≠T/\pa≠some ⟨lb,0,none⟩/\w.cell? ⟨lb,j,none⟩=some (.int .i64 l[j]))/\
  w'.heap[T]? =some (eW pb Ox (ps.length+1) SH (jZ d l L) y)/\o8 T w' Ox SH (ps++[i])/\(Ox=pa\/∃b,w.heap.size<=b/\Ox=some ⟨b,0,none⟩/\b≠bl/\b≠bt/\b≠bd)
 keep:dP (λb=>b=T\/pa=some ⟨b,0,none⟩) w w'
def Ext.wh{w a:dg}{F:Nat->Prop}{b:dg}(h:Ext w a)(k:dP F b w):dP F b a:=k.trans (h.keep F) (λ_ _ h=>h) λ_ _ h=>h
def o8.at_{w:dg}(h:o8 m w a k l)(b:a=some ⟨i,0,none⟩):i<w.heap.size/\m<i:=by rcases h with⟨h,_,_⟩|⟨c,g,d,e,f,_⟩;rw[h]at b;cases b;rw[d]at b;obtain rfl:c=i:=dQ Addr.block (dH b);exact⟨dG.lt_of_heap f,e⟩
def AN{L:Nat->Nat}{y:SV}{w:dg}(c:s<6)(h:w.heap[j]? =some (.cells (gD #[.pointer (some ⟨m,0,none⟩),.slice a k i,.int .u8 (L 0),.int .u8 (L 1),.int .u8 (L 2),.int .u8 (L 3),.int .u8 (L 4),.int .u8 (L 5),.slice y.sa y.sl y.sc,.int .i64 y.m,.int .i64 y.k,.bool y.b] (2+s) (Value.int .u8 o).cells.toList) 245)):w.heap[j]? =some (eW m a k i (FO L s o) y):=by
 rw[h];have:s=0\/s=1\/s=2\/s=3\/s=4\/s=5:=by omega
 rcases this with rfl|rfl|rfl|rfl|rfl|rfl<;>simp[gD,Value.cells,eW,FO]
def O6(N:Nat->Prop)(pb T:Nat)(D:eN)(w:dg)(ps:List Nat)(pa:Option Addr)(pc:Nat)(L:Nat->Nat)(y:SV)(i:Nat)(X:wU N pb T D w ps pa pc L y)(P:ps.length<D.opn.length)(hi:i<(eo D ps.length).length):Calls V.prog 215 #[.pointer (some ⟨T,0,none⟩),.int .i64 i] w (O5 T pb w ps i pa L y (fQ D ps.length) ((eo D ps.length).getD i [])):=by
 obtain⟨la,A,hD⟩:=X.data P hi;have hT:=X.at_;have f:=X.own;have hL:=X.lt;have ad:=X.plan.ok.five;have au:T<w.heap.size:=dG.lt_of_heap hT;generalize fQ D ps.length=d at hD⊢;generalize (eo D ps.length).getD i []=l at hD⊢;obtain⟨⟨ob,no,oc,lb,nl,lc,rb,ni,rc,c0,p1,t1,hd,p2,hl,hr,ae,af,ag⟩,t,ah,ai,C⟩:=hD;refine go V.func215 Tryz.ntmps215 ?_;refine fB λw1 bt Q j Y=>?_;have ct:w1.cell? ⟨bt,0,none⟩=some (.pointer (some ⟨T,0,none⟩)):=dj Y rfl;refine dT dO (dI ct (dI (Q.cell c0) (dI (Q.cell p1) (dI ct (dI (Q.cell t1) (lf (nH ps.length ae (dI (by rw[dB];exact Q.cell hd) (Et ?_)))))))));rintro w2 x2 _ ⟨bd,rfl,aj,a⟩;refine ee a λw3 k3 ak=>?_;have Z:=x2.dz k3 aj;have R:=Q.trans Z;refine dT dO (dI (Z.cell ct) (dI (R.cell c0) (dI (R.cell p2) (dI (Z.cell ct) (dI (R.cell t1) (lf (nH ps.length af (dI (by rw[dB];exact R.cell hl) (nH i ag (dI (by rw[dB];exact R.cell hr) (Et ?_)))))))))));rintro w4 x4 _ ⟨bl,rfl,al,a⟩;refine ee a λw5 k5 aa=>?_;have x5:=x4.dz k5 al;have X5:=R.trans x5;have s1:=Q.size;have s3:=Z.size;refine dl (dj aa rfl) (dK ?_);refine eZ (n:=l.length) (λk=>[(1,.int .i64 i),(2,.pointer (some ⟨bt,0,none⟩)),(5,.pointer (some ⟨bd,0,none⟩)),(6,.pointer (some ⟨bl,0,none⟩)),(40,.slice la l.length A),(41,.int .i64 l.length),(42,.int .i64 k)]) (λk S=>dP (λb=>b=T) w S/\S.heap[T]? =some (eW pb pa ps.length pc (jZ d (l.take k) L) y)/\S.heap[bt]? =some (.cells #[.pointer (some ⟨T,0,none⟩)] 243)/\S.heap[bd]? =some (.cells #[.int .i64 d] 3)/\S.heap[bl]? =some (.cells #[.slice la l.length A] 27)) ⟨⟨rfl,rfl,rfl,rfl,rfl,rfl,rfl,trivial⟩,X5.keep _,X5.at_ hT,x5.at_ (Z.at_ Y),x5.at_ ak,aa⟩ ?_ ?_ ?_;intro k S _ hJ;exact eg ⟨rfl,rfl,⟨rfl,rfl,rfl,rfl,rfl,rfl,rfl,trivial⟩,hJ⟩;rintro k p P ⟨K,E,c,m,q⟩;obtain⟨av,rfl,am,ar,F⟩:=t k P;have g:=ai l[k] (fc P);obtain⟨t0,_,t2,_,_⟩:=iI E;refine eP k P (dl (K.fh (by rw[dB];exact F) am) (dT dO (dI (dj c rfl) (dI (dj c rfl) (pI l[k] 6 g (dI (t2 _ g) (dI (dj m rfl) (gU dO _ (λw e=>F1 (C8 _ _ w (Bp C hL l[k] g) C)) (pI l[k] 6 g λw7 x7=>?_)))))))));refine jj (x7.at_ E) (by simp[Value.cells];omega) (λG U H=>dD ?_) (gG rfl);have T8:=AN g H;rw[Ar C hL k P g]at T8;have I:∀{b:Nat} {o:Obj},w.heap.size<=b->p.heap[b]? =some o->G.heap[b]? =some o:=λa ho=>U.fU (x7.at_ ho) (by omega);exact⟨⟨rfl,rfl,rfl,rfl,rfl,rfl,rfl,trivial⟩,(x7.wh K).trans U (λ_ _ h=>h) λ_ _ h=>h,T8,I j c,I (by omega) m,I (by omega) q⟩;rintro p ⟨K,E,c,m,q⟩;rw[tJ (dC _)]at E;obtain⟨_,t1,_,_,_⟩:=iI E;have J:∀{b:Nat},w.heap.size<=b->¬pa=some ⟨b,0,none⟩:=λa e=>by have:=(f.at_ e).1;omega
 have u:¬pa=some ⟨T,0,none⟩:=λe=>by have:=(f.at_ e).2;omega
 have ab:o8 T p pa pc ps:=f.ext λb a M=>K.block b a (by have:=(f.at_ M).2;omega);have an:T<p.heap.size:=dG.lt_of_heap E;have x:∀b,pa=some ⟨b,0,none⟩->b<p.heap.size:=λb a=>(ab.at_ a).1;have aE:=OC (T:=T) (ps:=ps) (i:=i) (pa:=pa) (pc:=pc);refine dT aE (dx _ (λw e=>dl (e.keep.fh (dj c rfl) (J j)) ⟨rfl,aE.refl _⟩) (dx _ (λw e=>dl (e.keep.fh (dj c rfl) (J j)) ⟨rfl,aE.refl _⟩) (dx _ (λw e=>dl (e.keep.fh t1 u) ⟨rfl,aE.refl _⟩) ?_)));refine .rel (picked i p) (Dq x) (λw7 z=>eQ [.int .i64 i] 3 (λG nb e8 ao a=>⟨⟨nb,rfl,dS z.keep.size ao,a⟩,ye e8⟩)) ?_;refine .rel (yf T ps i pa p) (zN x) (λw7 z v hv=>?_) ?_;obtain⟨B,rfl,aw,ap⟩:=hv;obtain⟨v,G,ac,W⟩:=Dg T w7 ps i pa pc 27 B (z.own ab) (eh an z.keep.size) (by simp[World.cell?,ap]) (by omega);obtain⟨r,s,e1,e2,e3⟩:=W.val;refine⟨v,G,by simp[builtin,ac,Result.andThen],⟨r,s,e1,e2,e3.imp id λ⟨b,a,e⟩=>⟨b,dS z.keep.size a,e⟩⟩,W.keep,λ_=>W.old,W.stay⟩;intro w7 z v hv _ _;obtain⟨r,s,rfl,hO,W⟩:yf T ps i pa p v w7:=hv;refine ee (z.keep.fU E u) λG U H=>?_;have K7:=z.keep;have s6:=K.size;have O:∀{b:Nat} {o:Obj},w.heap.size<=b->p.heap[b]? =some o->G.heap[b]? =some o:=λa ho=>U.fU (K7.fU ho (J a)) (by omega);have aq:o8 T G r s (ps++[i]):=hO.ext λb a M=>U.block b a (by have:=(hO.at_ M).2;omega);refine⟨⟨bl,bt,bd,la,A,r,s,rfl,by omega,j,by omega,O (by omega) q,O j c,O (by omega) m,t,H,aq,W.imp id λ⟨b,a,e⟩=>⟨b,by omega,e,?_⟩⟩,(K.trans K7 (λ_ _ h=>.inl h) λ_ _ h=>.inr h).trans U (λ_ _ h=>h) λ_ _ h=>.inl h⟩;have g1:=dG.lt_of_heap q;have g2:=dG.lt_of_heap c;have g3:=dG.lt_of_heap m;omega
def Jt{b:Func}{c:Code}{u:FrameMode}{R:Ending->dg->Prop}(n:Nat)
 (f:P.funcs[K]? =some b)(g:b.body=some c)(j:b.ntmps=n)(h:∀a:Act,a.tmps.size=n->a.defers=[]->(∀i v,W[i]? =some v->a.eval (.tmp i)=v)->c.wp P (bodyPost P b R) a w)(d:W.size<=n):CallsD P K W u w λe k l=>k=u/\R e l:=by
 refine callsD_of_wp f g ?_;rw[j];exact h (As W n) (sY _ _ d) rfl λi v m=>yd _ _ _ _ m
def Mz(c T f n g d:Nat)(L:Nat->Nat)(y:SV)(l:List Nat)(w:dg)(e:Ending)(a:dg):Prop:=
 e=.returned undef/\dP (λb=>b=T) w a/\a.heap[T]? =some (eW c (some ⟨f,0,none⟩) n g (nE d l L) y)
def MB(G T H n v x z R d A:Nat)(I:Option Addr)(L:Nat->Nat)(y:SV)(l:List Nat)(w:dg)(u:FrameMode)(J:w.heap[T]? =some (eW G (some ⟨H,0,none⟩) (n+1) v L y))(S:∀s,s<6->L s<32) (M:w.heap[R]? =some (.cells #[.slice I l.length A] 27))(a:w.heap[x]? =some (.cells #[.pointer (some ⟨T,0,none⟩)] 243))(c:w.heap[z]? =some (.cells #[.int .i64 d] 3)) (B:∀j (h:j<l.length),∃N,I=some ⟨N,0,none⟩/\N≠T/\w.cell? ⟨N,j,none⟩=some (.int .i64 l[j]))(O:l.length<=65536)(P:∀s∈l,s<6)(i:d<5)(hn:n+1<=v)(U:n<=65536)(Y:v<2^63):
 CallsD V.prog 227 #[.pointer (some ⟨R,0,none⟩),.pointer (some ⟨x,0,none⟩),.pointer (some ⟨z,0,none⟩)] u w λe Z m=>Z=u/\Mz G T H n v d L y l w e m:=by
 have C:x≠T:=by rintro rfl;rw[J]at a;injection a with a;injection a with _ a _;cases a
 have D:z≠T:=by rintro rfl;rw[J]at c;injection c with c;injection c with _ c _;cases c
 refine Jt 39 V.func227 rfl Tryz.ntmps227 (P4 39 (fE.of er ?_)) (by simp);refine dl (dj M rfl) (dK ?_);refine eZ (n:=l.length) (λk=>[(1,.pointer (some ⟨x,0,none⟩)),(2,.pointer (some ⟨z,0,none⟩)),(5,.slice I l.length A),(6,.int .i64 l.length),(7,.int .i64 k)]) (λk m=>dP (λb=>b=T) w m/\m.heap[T]? =some (eW G (some ⟨H,0,none⟩) (n+1) v (nE d (l.take k) L) y)/\m.heap[x]? =some (.cells #[.pointer (some ⟨T,0,none⟩)] 243)/\m.heap[z]? =some (.cells #[.int .i64 d] 3)) ⟨⟨rfl,rfl,rfl,rfl,rfl,trivial⟩,dP.refl _ _,J,a,c⟩ ?_ ?_ ?_;intro k m _ hJ;exact eg ⟨rfl,rfl,⟨rfl,rfl,rfl,rfl,rfl,trivial⟩,hJ⟩;rintro k w6 F ⟨K,t,f,o⟩;obtain⟨aa,rfl,Q,p⟩:=B k F;have g:=P l[k] (fc F);obtain⟨t0,_,t2,_,_⟩:=iI t;refine eP k F (dl (K.fh (by rw[dB];exact p) Q) (dT dO (dI (dj f rfl) (dI (dj f rfl) (pI l[k] 6 g (dI (t2 _ g) (dI (dj o rfl) (gU dO _ (λw e=>F1 (C9 _ _ w (Dm i S l[k] g) i)) (pI l[k] 6 g λw7 q=>?_)))))))));refine jj (q.at_ t) (by simp[Value.cells];omega) (λw8 E r=>dD ?_) (gG rfl);have W:=AN g r;rw[FR i S k F g]at W;exact⟨⟨rfl,rfl,rfl,rfl,rfl,trivial⟩,(q.wh K).trans E (λ_ _ h=>h) λ_ _ h=>h,W,E.fU (q.at_ f) C,E.fU (q.at_ o) D⟩;rintro w6 ⟨K,t,f,o⟩;rw[tJ (dC _)]at t;obtain⟨_,X,_,_,_⟩:=iI t;refine dT dO (dI (dj f rfl) (dI (dj f rfl) (dI X (dI (dj f rfl) (dI X (lf (rh (dx _ (λw1 _=>kC n (by omega) ⟨rfl,dO.refl _⟩ (by omega)) λw7 q=>?_))))))));exact ee (q.at_ t) λw8 E r=>⟨rfl,(q.wh K).trans E (λ_ _ h=>h) λ_ _ h=>h,r⟩
section
variable{P:dq}{ops:Array Oper}{Q:Exit->Act->dg->Prop}
def jI{o:Oper}{a:Act}{w w':dg}{K:Act->dg->Prop}(v:di)(b:ops[i]? =some o)(c:o.guard=none)(d:(execOp a.eval o).run P w=.ok (.value v) w')(h:K (a.put o.dst v) w'):wpOp P ops Q i K a w:=by
 have e:Region.wanted o (yielded ops a.tmps)=true:=by simp[Region.wanted,c]
 unfold wpOp;rw[b];simp only[e,ei];refine .inl ?_;unfold Oper.wp;rw[d];exact h
def Ju{o:Oper}{a:Act}{w b:dg}{K:Act->dg->Prop}(d:Deferred)(c:ops[i]? =some o)(e:o.guard=none)(f:(execOp a.eval o).run P w=.ok (.defer d) b)(h:K ({a with defers:=d::a.defers}.put o.dst undef) b):wpOp P ops Q i K a w:=by
 have g:Region.wanted o (yielded ops a.tmps)=true:=by simp[Region.wanted,e]
 unfold wpOp;rw[c];simp only[g,ei];refine .inl ?_;unfold Oper.wp;rw[f];exact h
end
def O7:Tryz.f190.body=some ((gB Tryz.f190 0).seq (gB Tryz.f190 1)):=by kernel_rfl
def O8(Q:Exit->Act->dg->Prop)(a:Act)(w:dg)(T i:Nat)(A:a.tmps.size=9)(B:a.defers=[])(z:a.eval (.tmp 0)=.pointer (some ⟨T,0,none⟩))(C:a.eval (.tmp 1)=.int .i64 i)
 (h:Calls V.prog 215 #[.pointer (some ⟨T,0,none⟩),.int .i64 i] w λe r=>∃n p q,e=.returned (.func (.func 227) #[] #[.pointer (some ⟨n,0,none⟩),.pointer (some ⟨p,0,none⟩),.pointer (some ⟨q,0,none⟩)])/\
  ∀s:Act,s.tmps.size=9->s.defers=[{target:=.fn (.func 227) #[.pointer (some ⟨n,0,none⟩),.pointer (some ⟨p,0,none⟩),.pointer (some ⟨q,0,none⟩)],args:=#[]}]->s.eval (.tmp 0)=.pointer (some ⟨T,0,none⟩)->Q .normal s r):
 Code.wp V.prog (gB Tryz.f190 0) Q a w:=by
 have e:gB Tryz.f190 0=.region 0 (opsOf (gB Tryz.f190 0)) false:=by kernel_rfl
 rw[e];refine ou ?_;have j:(opsOf (gB Tryz.f190 0)).size=4:=by kernel_rfl
 rw[j];show wpOps _ _ _ [0,1,2,3] _ _;rw[wpOps_cons];obtain⟨o,c⟩:=u4 0 j (by decide);obtain⟨k,l⟩:=IL c (show infoAt (opsOf (gB Tryz.f190 0)) 0=some (Op.move (.tmp 0),none) by kernel_rfl);have m:o.dst=some 4:=x6 c (by kernel_rfl);have b:∀(o:Oper) (f:dZ->di),o.op=Op.move (.tmp 0)->f (.tmp 0)=.pointer (some ⟨T,0,none⟩)->(execOp f o).run V.prog w=.ok (.value (.pointer (some ⟨T,0,none⟩))) w:=by rintro⟨d,u,t,v,x,g⟩ f rfl y;go_simp
 refine jI _ c l (b o a.eval k z) ?_;clear b;rw[m,wpOps_cons];clear c k l m o;obtain⟨o,c⟩:=u4 1 j (by decide);obtain⟨k,l⟩:=IL c (show infoAt (opsOf (gB Tryz.f190 0)) 1=some (Op.move (.tmp 1),none) by kernel_rfl);have m:o.dst=some 5:=x6 c (by kernel_rfl);have b:∀(o:Oper) (f:dZ->di),o.op=Op.move (.tmp 1)->f (.tmp 1)=.int .i64 i->(execOp f o).run V.prog w=.ok (.value (.int .i64 i)) w:=by rintro⟨d,u,t,v,x,g⟩ f rfl y;go_simp
 refine jI _ c l (b o _ k (by rw[qU _ _ _ _ (by simp)];exact C)) ?_;clear b;rw[m,wpOps_cons];clear c k l m o;obtain⟨o,c⟩:=u4 2 j (by decide);obtain⟨k,l⟩:=IL c (show infoAt (opsOf (gB Tryz.f190 0)) 2=some (Op.call {callee:=.value (.func 215),args:=#[.tmp 4,.tmp 5],argTypes:=#[243,3]},none) by kernel_rfl);have m:o.dst=some 6:=x6 c (by kernel_rfl);have b:∀(o:Oper) (f:dZ->di),o.op=Op.call {callee:=.value (.func 215),args:=#[.tmp 4,.tmp 5],argTypes:=#[243,3]}->f (.tmp 4)=.pointer (some ⟨T,0,none⟩)->f (.tmp 5)=.int .i64 i->f (.func 215)=.func (.func 215) #[] #[]->(execOp f o).run V.prog w=.ok (.enter 215 #[.pointer (some ⟨T,0,none⟩),.int .i64 i]) w:=by rintro⟨d,u,t,v,x,g⟩ f rfl y E F;go_simp
 refine xZ _ _ c l (b o _ k (by rw[qU _ _ _ _ (by simp),uZ _ _ _ (by omega)]) (by rw[uZ _ _ _ (by rw[mL];omega)]) rfl) (h.mono ?_);clear b h;rintro e r ⟨n,p,q,rfl,D⟩;refine .inl ⟨_,rfl,?_⟩;rw[m,wpOps_cons];clear c k l m o;obtain⟨o,c⟩:=u4 3 j (by decide);obtain⟨k,l⟩:=IL c (show infoAt (opsOf (gB Tryz.f190 0)) 3=some (Op.defer {callee:=.value (.tmp 6),args:=#[],argTypes:=#[]},none) by kernel_rfl);have m:o.dst=none:=x6 c (by kernel_rfl);have b:∀(o:Oper) (f:dZ->di),o.op=Op.defer {callee:=.value (.tmp 6),args:=#[],argTypes:=#[]}->f (.tmp 6)=(.func (.func 227) #[] #[.pointer (some ⟨n,0,none⟩),.pointer (some ⟨p,0,none⟩),.pointer (some ⟨q,0,none⟩)])->
  (execOp f o).run V.prog r=.ok (.defer {target:=.fn (.func 227) #[.pointer (some ⟨n,0,none⟩),.pointer (some ⟨p,0,none⟩),.pointer (some ⟨q,0,none⟩)],args:=#[]}) r:=by
  rintro⟨d,u,t,v,x,g⟩ f rfl y;go_simp
 refine Ju _ c l (b o _ k (by rw[uZ _ _ _ (by rw[mL,mL];omega)])) ?_;rw[m];refine D _ (by show((((a.put _ _).put _ _).put _ _).tmps).size=9;rw[mL,mL,mL,A]) (by show _::(((a.put _ _).put _ _).put _ _).defers=_;rw[uf,uf,uf,B]) ?_;show(((a.put _ _).put _ _).put _ _).eval (.tmp 0)=_;rw[qU _ _ _ _ (by simp),qU _ _ _ _ (by simp),qU _ _ _ _ (by simp)];exact z
def O9(Q:Exit->Act->dg->Prop)(a:Act)(w:dg)(T:Nat)(x:a.tmps.size=9)(p:a.eval (.tmp 0)=.pointer (some ⟨T,0,none⟩))
 (b:Calls V.prog 216 #[.pointer (some ⟨T,0,none⟩)] w λe l=>e=.returned undef/\∀m:Act,m.defers=a.defers->Q .normal m l):
 Code.wp V.prog (gB Tryz.f190 1) Q a w:=by
 have e:gB Tryz.f190 1=.region 1 (opsOf (gB Tryz.f190 1)) false:=by kernel_rfl
 rw[e];refine ou ?_;have h:(opsOf (gB Tryz.f190 1)).size=2:=by kernel_rfl
 rw[h];show wpOps _ _ _ [0,1] _ _;rw[wpOps_cons];obtain⟨o,i⟩:=u4 0 h (by decide);obtain⟨j,k⟩:=IL i (show infoAt (opsOf (gB Tryz.f190 1)) 0=some (Op.move (.tmp 0),none) by kernel_rfl);have n:o.dst=some 7:=x6 i (by kernel_rfl);have c:∀(o:Oper) (f:dZ->di),o.op=Op.move (.tmp 0)->f (.tmp 0)=.pointer (some ⟨T,0,none⟩)->(execOp f o).run V.prog w=.ok (.value (.pointer (some ⟨T,0,none⟩))) w:=by rintro⟨d,q,t,r,s,g⟩ f rfl u;go_simp
 refine jI _ i k (c o a.eval j p) ?_;clear c;rw[n,wpOps_cons];clear i j k n o;obtain⟨o,i⟩:=u4 1 h (by decide);obtain⟨j,k⟩:=IL i (show infoAt (opsOf (gB Tryz.f190 1)) 1=some (Op.call {callee:=.value (.func 216),args:=#[.tmp 7],argTypes:=#[243]},none) by kernel_rfl);have c:∀(o:Oper) (f:dZ->di),o.op=Op.call {callee:=.value (.func 216),args:=#[.tmp 7],argTypes:=#[243]}->f (.tmp 7)=.pointer (some ⟨T,0,none⟩)->f (.func 216)=.func (.func 216) #[] #[]->(execOp f o).run V.prog w=.ok (.enter 216 #[.pointer (some ⟨T,0,none⟩)]) w:=by rintro⟨d,q,t,r,s,g⟩ f rfl u y;go_simp
 refine xZ _ _ i k (c o _ j (by rw[uZ _ _ _ (by omega)]) rfl) (b.mono ?_);clear c b;rintro e l ⟨rfl,v⟩;exact .inl ⟨_,rfl,v _ (by rw[uf,uf])⟩
def o8.init{w:dg}(h:o8 m w a k (l++[i])):o8 m w a k l:=by rcases h with⟨_,h,_⟩|⟨b,c,d,e,f,g,j,n,o⟩;simp at h;refine .inr ⟨b,c,d,e,f,g,by simp at j;omega,n,λp q=>?_⟩;have:=o p (by simp;omega);rw[oR q]at this;exact this
def wi{L a:Nat->Nat}(h:L s=a s):nE d l L s=nE d l a s:=by unfold nE;rw[h]
def Jv{D:eN}(b:D.Ok)(c:j<D.opn.length)(d:k<D.opn.length)(a:j≠k):fQ D j≠fQ D k:=by have f:D.opn[j]=fQ D j:=pT c rfl;have g:D.opn[k]=fQ D k:=pT d rfl;rw[<-f,<-g];intro e;exact a ((List.getElem_inj b.nodup).1 e)
def Jw{D:eN}(b:D.Ok)(a:j<D.opn.length):fQ D j<5:=by have c:D.opn[j]=fQ D j:=pT a rfl;rw[<-c];exact b.door _ (fc a)
def rA(n:Nat):Prop:=∀(N:Nat->Prop) (b T:Nat) (D:eN) (c d:Nat) (w:dg) (a:List Nat) (e:Option Addr) (f:Nat) (L:Nat->Nat) (y:SV) (s:Sp),a.length+n=D.opn.length->iD N b T D c d w a e f L y s->Calls V.prog 216 #[.pointer (some ⟨T,0,none⟩)] w (Do N b T D c d w a e L (eO D n a L s))
def Eu(n:Nat)(hg:rA n)(N:Nat->Prop)(pb T:Nat)(D:eN)(m0 j0:Nat)(w:dg)(q:List Nat)(O:Option Addr)(pc:Nat)(L:Nat->Nat)(y:SV)(s:Sp)(i:Nat) (hn:q.length+(n+1)=D.opn.length)(u:iD N pb T D m0 j0 w q O pc L y s)(hi:i<(eo D q.length).length):Calls V.prog 190 #[.pointer (some ⟨T,0,none⟩),.int .i64 i] w (Do N pb T D m0 j0 w q O L (eO D n (q++[i]) (jZ (fQ D q.length) ((eo D q.length).getD i []) L) s)):=by
 have hk:q.length<D.opn.length:=by omega
 have ab:=O6 N pb T D w q O pc L y i u.t hk hi;obtain⟨aI,aJ,hD⟩:=u.t.data hk hi;have R:=hD.long;have an:=hD.shift;have E:=hD.door;have I:=u.t.plan.ok;have hL:=u.t.lt;have aK:T<w.heap.size:=dG.lt_of_heap u.t.at_;have v:=u.t.free;have ac:∀j,q.length+1<=j->j<D.opn.length->fQ D q.length≠fQ D j:=λj m F=>Jv I hk F (by omega);have ao:∀j,j<D.opn.length->fQ D j<5:=λj h=>Jw I h;have ad:∀s,s<6->qT (L s) (fQ D q.length)=L s:=λs hs=>v s hs _ (dC _) hk;clear hD;generalize hd:fQ D q.length=d at*;generalize hl:(eo D q.length).getD i []=l at*;have P:∀b,O=some ⟨b,0,none⟩->b<w.heap.size:=λb g=>by rcases u.t.own with⟨h,_,_⟩|⟨K,S,m,F,h3,_⟩;rw[h]at g;cases g;rw[m]at g;obtain rfl:K=b:=dQ Addr.block (dH g);exact dG.lt_of_heap h3
 refine wD 9 V.func190 O7 Tryz.ntmps190 (λa z da sa=>?_) (by simp);have s0:=sa 0 _ rfl;have s1:=sa 1 _ rfl;refine kh (O8 _ a w T i z da s0 s1 (ab.mono ?_));rintro e w1 ⟨⟨bl,bt,bd,la,lc,A,ae,rfl,ap,aq,ar,au,av,aw,af,ax,ag,ah⟩,M⟩;refine⟨bl,bt,bd,rfl,λa1 z1 d1 ay=>?_⟩;have B:A=O\/∃b,w.heap.size<=b/\A=some ⟨b,0,none⟩:=ah.imp id λ⟨b,m,F,_⟩=>⟨b,m,F⟩;have C:∀b,b<w.heap.size->O≠some ⟨b,0,none⟩->A≠some ⟨b,0,none⟩:=λb g h e=>by rcases B with m|⟨c,hc,m⟩;exact h (m.symm.trans e);rw[m]at e;obtain rfl:c=b:=dQ Addr.block (dH e);omega
 have az:iD N pb T D m0 j0 w1 (q++[i]) A ae (jZ d l L) y s:=by
  refine⟨⟨u.t.plan.same λb g=>M.block b (u.t.sep b g).1 (λh=>h.elim (u.t.sep b g).2.1 (u.t.sep b g).2.2),λb g=>⟨eh (u.t.sep b g).1 M.size,(u.t.sep b g).2.1,C b (u.t.sep b g).1 (u.t.sep b g).2.2⟩,by simpa using ax,ag,Bp E hL,λx r j hj G=>?_,by simp;omega,λh=>by omega⟩,?_,u.cap.tape M.tape,dS u.size M.size,dS u.drawn M.drawn⟩;have aA:q.length+1<=j:=by simpa using hj
  unfold jZ;split;exact Dl _ (hL x r) _ E _ (ao j G) (ac j aA G) (v x r j (by omega) G);exact v x r j (by omega) G;refine u.sched.move λb S fz g r=>⟨⟨g.1,g.2.1,C b (dG.lt_of_heap r) g.2.2⟩,(M.block b (dG.lt_of_heap r) λh=>h.elim g.2.1 g.2.2).trans r⟩
 refine O9 _ a1 w1 T z1 ay ((hg N pb T D m0 j0 w1 (q++[i]) A ae (jZ d l L) y s (by simp;omega) az).mono ?_);rintro e w2 ⟨rfl,U,J,L2,y2,p,ai,K2,aj⟩;refine⟨rfl,λa2 d2=>?_⟩;have aB:∀b,A=some ⟨b,0,none⟩->b<w1.heap.size:=λb g=>by rcases ag with⟨h,_,_⟩|⟨K,S,m,F,h3,_⟩;rw[h]at g;cases g;rw[m]at g;obtain rfl:K=b:=dQ Addr.block (dH g);exact dG.lt_of_heap h3
 have W:∀{b:Nat} {o:Obj},w.heap.size<=b->(∀c,w.heap.size<=c->A=some ⟨c,0,none⟩->c≠b)->w1.heap[b]? =some o->w2.heap[b]? =some o:=λg aC ho=>K2.fU ho (by rintro(h|h);omega;rcases B with m|⟨c,hc,m⟩;rw[m]at h;have:=P _ h;omega;exact aC _ (by rw[m]at h;have:c=_:=dQ Addr.block (dH h);omega) h rfl);have X:∀b,b=bl\/b=bt\/b=bd->∀c,w.heap.size<=c->A=some ⟨c,0,none⟩->c≠b:=λb g c hc h=>by rcases ah with m|⟨c',ak,m,n1,n2,n3⟩;rw[m]at h;have:=P _ h;omega;rw[m]at h;obtain rfl:c'=c:=dQ Addr.block (dH h);rcases g with rfl|rfl|rfl;exact n1;exact n2;exact n3
 have al:=p.t.own;obtain⟨K,aL,e1,e2,e3,e4,e5,e6,e7⟩:∃K S,U=some ⟨K,0,none⟩/\T<K/\w2.heap[K]? =some (.cells S 3)/\S.size=J/\(q++[i]).length<=J/\J<2^63/\(∀k (h:k<(q++[i]).length),S[k]? =some (.int .i64 (q++[i])[k])):=by rcases al with⟨_,h,_⟩|h;simp at h;exact h
 have Y:=p.t.at_;rw[e1]at Y;have Z:∀j (h:j<l.length),∃lb,la=some ⟨lb,0,none⟩/\lb≠T/\w2.cell? ⟨lb,j,none⟩=some (.int .i64 l[j]):=λj hj=>by obtain⟨lb,m,F,h3,h4⟩:=af j hj;have aD:lb<w.heap.size:=te h4;exact⟨lb,m,F,K2.fh (M.fh h4 λh=>h.elim F h3) λh=>h.elim F (C lb aD h3)⟩
 have am:(q++[i]).length=q.length+1:=by simp
 rw[am]at Y e5;have aE:=I.five;have aa:=MB pb T K q.length J bt bd bl d lc la L2 y2 l w2 .returning Y p.t.lt (W ap (X _ (.inl rfl)) au) (W aq (X _ (.inr (.inl rfl))) av) (W ar (X _ (.inr (.inr rfl))) aw) Z R an E e5 (by omega) e6;show Leaves V.prog _ a2.tmps _ a2.defers .returning w2;rw[d2,d1];refine leaves_cons (by simp) (f:=227) (args:=#[.pointer (some ⟨bl,0,none⟩),.pointer (some ⟨bt,0,none⟩),.pointer (some ⟨bd,0,none⟩)]) (by go_simp) (aa.mono ?_);rintro e u' w3 ⟨rfl,rfl,Q,aF⟩;show Leaves V.prog _ a2.tmps _ [] (settle .returning) w3;refine⟨undef,by simp[results,Tryz.results190,undef],rfl,U,J,nE d l L2,y2,?_,?_,?_,?_⟩;have aG:∀x,x<6->nE d l L2 x=L x:=λx r=>(wi (ai x r)).trans (Dn E hL ad x r);have aH:∀b,b<w.heap.size->O≠some ⟨b,0,none⟩->U≠some ⟨b,0,none⟩:=λb g h e=>by rcases aj with m|⟨c,hc,m⟩;exact C b g h (m.symm.trans e);rw[m]at e;obtain rfl:c=b:=dQ Addr.block (dH e);have:=M.size;omega
 refine⟨⟨p.t.plan.same λb g=>Q.block b (p.t.sep b g).1 (p.t.sep b g).2.1,λb g=>⟨eh (p.t.sep b g).1 Q.size,(p.t.sep b g).2.1,(p.t.sep b g).2.2⟩,by rw[e1];exact aF,al.init.ext λb g r=>Q.block b g (by
  rw[e1]at r;obtain rfl:K=b:=dQ Addr.block (dH r);omega),Dm E p.t.lt,λx r j hj G=>by rw[aG x r];exact v x r j hj G,by omega,λh=>by omega⟩,
  p.sched.move λb S fz g r=>⟨g,(Q.block b (dG.lt_of_heap r) g.2.1).trans r⟩,p.cap.tape Q.tape,dS p.size Q.size,dS p.drawn Q.drawn⟩
 exactλx r=>(wi (ai x r)).trans (Dn E hL ad x r);refine(M.trans K2 (H:=λb=>b=T\/O=some ⟨b,0,none⟩) (λ_ _ h=>h) λx r h=>?_).trans Q (λ_ _ h=>h) λ_ _ h=>.inl h;rcases h with h|h;exact .inl h;rcases B with m|⟨c,hc,m⟩;exact .inr (m.symm.trans h);rw[m]at h;have:c=x:=dQ Addr.block (dH h);omega;rcases aj with m|⟨c,hc,m⟩;rcases B with F|⟨c',ak,F⟩;exact .inl (m.trans F);exact .inr ⟨c',ak,m.trans F⟩;exact .inr ⟨c,dS M.size hc,m⟩
def vt{D:eN}{L a:Nat->Nat}(h:∀x,x<6->L x=a x)(b:List Nat):eV D L b=eV D a b:=by
 have:Ao L=Ao a:=by unfold Ao;rw[h 0 (by omega),h 1 (by omega),h 2 (by omega),h 3 (by omega),h 4 (by omega),h 5 (by omega)]
 unfold eV il;rw[this]
theorem rB{D:eN}:∀(n:Nat) {L L':Nat->Nat} (_:∀x,x<6->L x=L' x) (a:List Nat) (b:Sp),eO D n a L b=eO D n a L' b
 |0,L,L',h,a,b=>by simp only[eO];rw[vt h]
 |n+1,L,L',h,a,b=>by simp only[eO];congr 1;funext b i;exact rB n (λx c=>by unfold jZ;rw[h x c]) _ b
def Ev{b:Type}(f:b->Nat->b)(a:b)(k:Nat):(List.range (k+1)).foldl f a=f ((List.range k).foldl f a) k:=by rw[qv,xm];rfl
theorem iD.ext{D:eN}{L:Nat->Nat}{y:SV}{s:Sp}(h:iD A m k D i j w l a o L y s)(c:Ext w t):iD A m k D i j t l a o L y s:=
 ⟨⟨h.t.plan.same λb d=>c.block b (h.t.sep b d).1,λb d=>⟨eh (h.t.sep b d).1 c.size,(h.t.sep b d).2⟩,c.at_ h.t.at_,h.t.own.ext λb d _=>c.block b d,h.t.lt,h.t.free,h.t.len,h.t.bare⟩,h.sched.ext c,h.cap.tape c.tape,dS h.size c.size,dS h.drawn c.drawn⟩
def yY{y:SV}(h:wB w m o y):∀j v,([.slice y.sa y.sl y.sc,.int .i64 y.m,.int .i64 y.k,.bool y.b]:List di)[j]? =some v->w.cell? ⟨m,o+j,none⟩=some v:=by obtain⟨c,d,e,f⟩:=h;rintro(_|_|_|_|j) v a;cases a;exact c;cases a;exact d;cases a;exact e;cases a;exact f;simp at a
def wB.ext{y:SV}(h:wB w m o y)(e:Ext w t):wB t m o y:=⟨e.cell h.1,e.cell h.2.1,e.cell h.2.2.1,e.cell h.2.2.2⟩
def MC{L:Nat->Nat}(h:∀s,s<6->w.cell? ⟨m,2+s,none⟩=some (.int .u8 (L s))):∀j v,([.int .u8 (L 0),.int .u8 (L 1),.int .u8 (L 2),.int .u8 (L 3),.int .u8 (L 4),.int .u8 (L 5)]:List di)[j]? =some v->w.cell? ⟨m,2+j,none⟩=some v:=by rintro(_|_|_|_|_|_|j) v a;cases a;exact h 0 (by omega);cases a;exact h 1 (by omega);cases a;exact h 2 (by omega);cases a;exact h 3 (by omega);cases a;exact h 4 (by omega);cases a;exact h 5 (by omega);simp at a
def Gt(p:di)(x y:SV)(w:dg):Calls V.prog 194 #[p,x.val,y.val] w (gh λv a=>v=.bool (ik x y)/\Ext w a):=
 (Bl p x y w).mono λ_ _ ⟨h,b,d⟩=>⟨_,h,rfl,b.os,b.tape,b.output,b.size,d,b.block⟩
def Jx:rA 0:=by
 intro N pb T D m0 G w i z H L y s hn q;have j:i.length=D.opn.length:=by omega
 have I:=q.t.plan.ok.five;obtain⟨t0,t1,t2,t3,t4⟩:=iI q.t.at_;obtain⟨wk,u1,u2,J,_,K,M,af⟩:=q.t.plan.at_;have p1:w.cell? ⟨pb,1,none⟩=some u1:=by simp[World.cell?,K,dX]
 obtain⟨oa,oc,rfl⟩:=M.len;refine go V.func216 Tryz.ntmps216 ?_;refine dT dO (dI t1 (lf (dI t0 (dI p1 (lf (HF λA n=>ki (by simp[j]) ?_))))));have d:=q.ext n;have O:i=[]->z=none:=λh=>q.t.bare (by rw[<-j,h];rfl);refine dT dO (dI (n.cell t0) (dI (n.cell t1) (dx (Lk L) (λB o=>eB (MC λs P=>o.cell (n.cell (t2 s P))) ⟨rfl,dO.refl _⟩) (.rel (Bq D L i G A) Ds (λB o=>?_) (Et ?_)))));refine dt (R:=λv r=>Bq D L i G A v r/\Ext B r) ((FN N pb T D L i z H G B (d.t.plan.same λb c=>o.block b (d.t.sep b c).1) (λb c=>eh (d.t.sep b c).1 o.size) d.t.lt (d.t.own.ext λb c _=>o.block b c).SG O (by omega) (dS d.drawn o.drawn)).mono ?_) λ_ _ h=>h;rintro e w' ⟨y,rfl,P,hc,c,hd⟩;exact⟨_,rfl,⟨y,rfl,dW.imp (λb _ _ c _=>dS o.size c) P,hc⟩,c.os,c.tape,c.output,c.size,hd,c.block⟩;rintro B x2 _ ⟨C,rfl,Q,c⟩ _ ⟨x,rfl,S,U⟩;refine ee c λr W X=>?_;have Y:r.heap[C]? =some (eI x):=X;have Z:=x2.dz W Q;have g:=d.ext Z;have k:dW (λb=>A.heap.size<=b/\b≠C) r (eV D L i) x:=(S.imp (o':=λb=>A.heap.size<=b/\b≠C) λb cs J h1 f=>⟨h1,by rintro rfl;rw[c]at f;injection f with f;injection f with _ f _;cases f⟩).grow λb cs J h1 f=>W.fU f h1.2;obtain⟨aa,_,_,ab,_⟩:=iI g.t.at_;obtain⟨q0,q1,q2,q3,_⟩:=eE Y;have u:wB r C 0 x:=⟨q0,q1,q2,q3⟩;have ac:ik x y=lV (eV D L i) s:=k.better g.sched;have p:eO D 0 i L s=if ik x y=true then eV D L i else s:=by simp only[eO,l7,ac]
 rw[p];refine dT dO (dI aa (dx x.val (λE F=>eB (yY (u.ext F)) ⟨rfl,dO.refl _⟩) (dx y.val (λE F=>eB (yY (ab.ext F)) ⟨rfl,dO.refl _⟩) (kZ _ (λE F=>Gt _ x y E) λE l=>⟨λht=>?_,λhf=>?_⟩))));rw[dr ht];refine eB (yY (u.ext l)) (ee (l.at_ g.t.at_) λw5 m ad=>?_);have a:=g.ext l;have ae:=d.t.own;have s1:=n.size;refine⟨rfl,z,H,L,x,⟨⟨a.t.plan.same λb c=>m.block b (a.t.sep b c).1 (a.t.sep b c).2.1,λb c=>⟨eh (a.t.sep b c).1 m.size,(a.t.sep b c).2⟩,?_,a.t.own.ext λb c f=>m.block b c ?_,a.t.lt,a.t.free,a.t.len,a.t.bare⟩,?_,?_,dS a.size m.size,dS a.drawn m.drawn⟩,λ_ _=>rfl,?_,.inl rfl⟩;rw[ad];simp[gD,Value.cells,eW];have:=(a.t.own.at_ f).2;omega;have ag:T<w.heap.size:=dG.lt_of_heap q.t.at_;exact k.move λb cs J c f=>⟨⟨dS d.size c.1,by omega,λh=>by have:=(ae.at_ h).1;omega⟩,m.fU (l.at_ f) (by omega)⟩;exact((U.tape W.tape).tape l.tape).tape m.tape;exact((l.wh (Z.wh (n.keep _))).trans m (λ_ _ h=>h) λ_ _ h=>.inl h);rw[dp (by simp[hf])];exact⟨rfl,z,H,L,y,g.ext l,λ_ _=>rfl,l.wh (Z.wh (n.keep _)),.inl rfl⟩
def Jy(n:Nat)(hg:rA n):rA (n+1):=by
 intro N q T D G H w a I pc L y s hn m;have r:a.length<D.opn.length:=by omega
 have J:=m.t.plan.ok.five;obtain⟨Z,t1,t2,t3,t4⟩:=iI m.t.at_;obtain⟨wk,u1,u2,fz,_,u,K,M⟩:=m.t.plan.at_;have p1:w.cell? ⟨q,1,none⟩=some u1:=by simp[World.cell?,u,dX]
 have p2:w.cell? ⟨q,2,none⟩=some u2:=by simp[World.cell?,u,dX]
 obtain⟨oa,oc,rfl⟩:=K.len;have j:a.length<D.lists.length:=by rw[m.t.plan.ok.len];exact r
 obtain⟨lb,lc,lu,rfl,aa,O,z⟩:=M.at_ a.length j;have e1:D.lists[a.length]=eo D a.length:=pT j rfl;rw[e1]at z;obtain⟨ra,rc,rfl⟩:=z.len;have P:(eo D a.length).length<=65536:=m.t.plan.ok.many _ (e1▸fc j);refine go V.func216 Tryz.ntmps216 ?_;refine dT dO (dI t1 (lf (dI Z (dI p1 (lf (HF λw1 o=>mX (by simp;omega) ?_))))));refine dT dO (dI (o.cell Z) (dI (o.cell p2) (dI (o.cell t1) (lf (nH a.length j (dI (o.cell (by rw[dB];exact O)) (lf λw2 x2=>?_)))))))
 refine eZ (n:=(eo D a.length).length) (λk=>[(0,.pointer (some ⟨T,0,none⟩)),(59,.int .i64 (eo D a.length).length),(60,.int .i64 k)])
  (λk Q=>∃d g L' A,iD N q T D G H Q a d g L' A ((List.range k).foldl (λb i=>eO D n (a++[i]) (jZ (fQ D a.length) ((eo D a.length).getD i []) L) b) s)/\(∀s,s<6->L' s=L s)/\
   dP (λb=>b=T\/I=some ⟨b,0,none⟩) w Q/\(d=I\/∃b,w.heap.size<=b/\d=some ⟨b,0,none⟩)) ⟨⟨rfl,rfl,rfl,trivial⟩,I,pc,L,y,(m.ext o).ext x2,λ_ _=>rfl,x2.wh (o.keep _),.inl rfl⟩ ?_ ?_ ?_
 intro k Q _ hJ;exact eg ⟨rfl,rfl,⟨rfl,rfl,rfl,trivial⟩,hJ⟩;rintro k w3 hk ⟨d,g,L',A,S,C,E,f⟩;refine dt (R:=λ_ F=>Do N q T D G H w3 a d L' (eO D n (a++[k]) (jZ (fQ D a.length) ((eo D a.length).getD k []) L') ((List.range k).foldl (λb i=>eO D n (a++[i]) (jZ (fQ D a.length) ((eo D a.length).getD i []) L) b) s)) (.returned undef) F) ((Eu n hg N q T D G H w3 a d g L' A _ k hn S hk).mono λe F U=>⟨_,U.1,U.1▸U⟩) ?_;rintro v F ⟨_,W,X,L2,y2,g1,g2,g3,p⟩;refine dD ⟨⟨rfl,rfl,rfl,trivial⟩,W,X,L2,y2,?_,λx B=>(g2 x B).trans (C x B),?_,?_⟩;rw[Ev];rw[rB n (L:=jZ (fQ D a.length) ((eo D a.length).getD k []) L') (L':=jZ (fQ D a.length) ((eo D a.length).getD k []) L) (λx B=>by unfold jZ;rw[C x B])]at g1;exact g1;refine E.trans g3 (λ_ _ h=>h) λx B l=>?_;rcases l with l|l;exact .inl l;rcases f with f|⟨c,Y,f⟩;exact .inr (f.symm.trans l);rw[f]at l;have:c=x:=dQ Addr.block (dH l);omega;rcases p with p|⟨c,Y,p⟩;rcases f with f|⟨c,Y,f⟩;exact .inl (p.trans f);exact .inr ⟨c,Y,p.trans f⟩;exact .inr ⟨c,by have:=E.size;omega,p⟩;rintro F ⟨d,g,L',A,S,C,E,f⟩;exact⟨rfl,d,g,L',A,S,C,E,f⟩
theorem vu:∀n,rA n
 |0=>Jx
 |n+1=>Jy n (vu n)
def MD:Lq:=λN c T D d e w a f g L y s b=>vu (D.opn.length-a.length) N c T D d e w a f g L y s (by have:=b.t.len;omega) b
def ME:Dp:=λN b T D c d w a e f L y s i g j h=>Eu (D.opn.length-a.length-1) (vu _) N b T D c d w a e f L y s i (by omega) g h
end Go.Proofs.W
namespace Go.Proofs.W
open Go.Conc Go.dG Go.dG.Cr Go.RowKit
noncomputable def gF:Array Oper:=#[{dst:=some 2,op:=Op.move (.const (.bool true)),type:=4,pos:= "",after:=#[],guard:=none},{dst:=some 2,op:=Op.move (.const (.bool false)),type:=4,pos:= "",after:=#[],guard:=none}]
noncomputable def mg:Code:=match V.wS with
 | .seq _ (.seq _ r)=>r
 |_=>.skip
noncomputable def iO(a:Array di):Act:=(gR a).put (some 1) (.func (.func 227) #[] (mR a))
def Jz{b:Array Oper}{Q:Exit->Act->dg->Prop}{o:Oper}{a:Act}{K:Act->dg->Prop}(v:di)(c:b[i]? =some o)(d:o.guard=none)(e:(execOp a.eval o).run P w=.halt (.panic v) t)(h:Q (.panic [{v,recovered:=false}]) a t):wpOp P b Q i K a w:=by
 have f:Region.wanted o (yielded b a.tmps)=true:=by simp[Region.wanted,d]
 unfold wpOp;rw[c];simp only[f,ei];refine .inl ?_;unfold Oper.wp;rw[e];exact h
def Ew{R:Ending->dg->Prop}(t:Nat)(C:w.tape w.drawn (.order 163 1)=t) (h:wpOps V.prog gF (Exit.then (mg.wp V.prog (bodyPost V.prog V.f163 R)) (bodyPost V.prog V.f163 R)) (Region.schedule (V.prog.follows .mixedOrders) gF t) (iO W) w.drew):Calls V.prog 163 W w R:=by
 intro cs;let b:Frame:={(default:Frame)with fn:=163,kind:=.normal};have m:Frame.enter V.prog 163 W .normal=b.at ⟨W++Array.replicate (9-W.size) undef,[]⟩ [.code V.wS]:=by simp[Frame.enter,Frame.at,V.func163,V.f163,b]
 have D:(Code.region 0 #[{dst:=some 9,op:=Op.move (.const (.bool true)),type:=4,pos:= "",after:=#[],guard:=none},{dst:=some 1,op:=Op.makeFunc (.func 227) #[] #[.tmp 0,.tmp 1,.tmp 2,.tmp 3,.tmp 4,.tmp 5,.tmp 6,.tmp 7,.tmp 8,.tmp 9],type:=0,pos:= "",after:=#[],guard:=none}] false).wp V.prog
  (λe a w'=>e=.normal/\a=iO W/\w'=w) ⟨W++Array.replicate (9-W.size) undef,[]⟩ w:=by
  refine ou ?_;show wpOps _ _ _ [0,1] _ _;rw[wpOps_cons];refine jI (w':=w) (o:={dst:=some 9,op:=Op.move (.const (.bool true)),type:=4,pos:= "",after:=#[],guard:=none}) (.bool true) rfl rfl (by go_simp) ?_;rw[wpOps_cons];refine jI (w':=w) (o:={dst:=some 1,op:=Op.makeFunc (.func 227) #[] #[.tmp 0,.tmp 1,.tmp 2,.tmp 3,.tmp 4,.tmp 5,.tmp 6,.tmp 7,.tmp 8,.tmp 9],type:=0,pos:= "",after:=#[],guard:=none}) (.func (.func 227) #[] (mR W)) rfl rfl ?_ ⟨rfl,rfl,rfl⟩;have x:∀j:dZ->di,(execOp j {dst:=some 1,op:=Op.makeFunc (.func 227) #[] #[.tmp 0,.tmp 1,.tmp 2,.tmp 3,.tmp 4,.tmp 5,.tmp 6,.tmp 7,.tmp 8,.tmp 9],type:=0,pos:= "",after:=#[],guard:=none}).run V.prog w=.ok (.value (.func (.func 227) #[] #[j (.tmp 0),j (.tmp 1),j (.tmp 2),j (.tmp 3),j (.tmp 4),j (.tmp 5),j (.tmp 6),j (.tmp 7),j (.tmp 8),j (.tmp 9)])) w:=by intro j;go_simp;try rfl
  exact x _
 obtain⟨O,Q,n,⟨rfl,rfl,rfl⟩,E⟩:=D b (.code (.seq (.region 1 gF true) mg)::[]) cs;have F:Steps V.prog (lone (Frame.enter V.prog 163 W .normal) cs n) (lone (b.at (iO W) [.code (.seq (.region 1 gF true) mg)]) cs n):=by rw[m];exact .head step_seq E
 have G:Steps V.prog (lone (Frame.enter V.prog 163 W .normal) cs n) (lone (b.at (iO W) [.inRegion gF (Region.schedule (V.prog.follows .mixedOrders) gF t),.code mg]) cs n.drew):=by refine F.trans (.head step_seq (.one ?_));have:=step_region_draw (P:=V.prog) (b:=b) (a:=iO W) (k:=[.code mg]) (cs:=cs) (w:=n) (ops:=gF) (id:=1);rw[show n.tape n.drawn (.order b.fn 1)=t from C]at this;exact this
 have f:∀(k:List Item) (e:Exit) (a:Act) (w':dg),(e=.normal->k=[])->bodyPost V.prog V.f163 R e a w'->Arrives V.prog (lone (Frame.enter V.prog 163 W .normal) cs n) b k cs e a w'->∃e w' y,R e w'/\Go.Comes V.prog (lone (Frame.enter V.prog 163 W .normal) cs n) (lone y cs w') e/\y.fn=163/\y.leaving V.prog w' e:=by
  intro k e a w' H g d;cases e with
  |normal=>
   obtain rfl:=H rfl;obtain⟨p,v,z,q⟩:=g;exact⟨.returned v,w',_,q,Steps.trans d (.one step_end),rfl,rfl,p,rfl,V.f163,V.func163,z⟩
  |ret=>
   obtain⟨p,v,z,q⟩:=g;obtain⟨r,A⟩:=d;exact⟨.returned v,w',_,q,A,rfl,rfl,p,rfl,V.f163,V.func163,z⟩
  |panic c=>
   obtain⟨p,q⟩:=g;obtain⟨r,A⟩:=d;exact⟨.panicked c,w',_,q,A,rfl,rfl,p,V.f163,V.func163⟩
  |exit id=>exact g.elim
  |goto l=>exact g.elim
  |outgrown=>exact⟨.outgrown,w',b,g,d.resolve_left (by simp[b]),rfl,trivial⟩
 obtain⟨I,s,u,g,J⟩:=wp_ops _ _ _ h b [.code mg] cs;have i:=Arrives.of_steps G J;cases I with
 |normal=>
  obtain⟨K,L,M,B,N⟩:=g b [] cs;exact f [] K L M (λ_=>rfl) B (Arrives.of_steps i N)
 |ret=>exact f _ .ret s u (λh=>by cases h) g i
 |panic c=>exact f _ (.panic c) s u (λh=>by cases h) g i
 |exit id=>exact f _ (.exit id) s u (λh=>by cases h) g i
 |goto l=>exact f _ (.goto l) s u (λh=>by cases h) g i
 |outgrown=>exact f _ .outgrown s u (λh=>by cases h) g i
def Rs:Region.schedule (V.prog.follows .mixedOrders) gF 1=[1,0]:=by kernel_rfl
def Rt:Region.schedule (V.prog.follows .mixedOrders) gF 0=[0,1]:=by kernel_rfl
def H6(b:Array di)(w:dg)(h:Region.schedule (V.prog.follows .mixedOrders) gF (w.tape w.drawn (.order 163 1))=[1,0]):Calls V.prog 163 b w λe w'=>e=.panicked jm/\w'=w.drew.alloc (rz (mR b)):=by
 refine Ew _ rfl ?_;rw[h];rw[wpOps_cons];refine jI (w':=w.drew) (o:={dst:=some 2,op:=Op.move (.const (.bool false)),type:=4,pos:= "",after:=#[],guard:=none}) (.bool false) rfl rfl (by go_simp) ?_;rw[wpOps_cons];refine jI (w':=w.drew) (o:={dst:=some 2,op:=Op.move (.const (.bool true)),type:=4,pos:= "",after:=#[],guard:=none}) (.bool true) rfl rfl (by go_simp) ?_;have k:10<=(iO b).tmps.size\/(iO b).tmps.size=9:=by
  have:(iO b).tmps.size=b.size+(9-b.size):=by unfold iO gR;rw[mL,mL];simp
  omega
 have l:9<=(iO b).tmps.size:=by omega
 obtain⟨a,i⟩:∃a,a=((iO b).put (some 2) (.bool false)).put (some 2) (.bool true):=⟨_,rfl⟩;have m:a.eval (.tmp 2)=.bool true:=by rw[i,uZ _ _ _ (by rw[mL];omega)]
 have n:a.eval (.tmp 1)=.func (.func 227) #[] (mR b):=by
  rw[i,qU _ _ _ _ (by simp),qU _ _ _ _ (by simp)];exact uZ _ _ _ (by
   have:(gR b).tmps.size=b.size+(9-b.size):=by unfold gR;rw[mL];simp
   omega)
 have p:a.defers=[]:=by rw[i];rfl
 have q:9<=a.tmps.size:=by rw[i,mL,mL];exact l
 show Code.wp V.prog mg _ (((iO b).put (some 2) (.bool false)).put (some 2) (.bool true)) w.drew;rw[<-i];clear i;show Code.wp V.prog (Code.seq (Code.cond (.tmp 2) _ .skip) _) _ a w.drew;refine kh (wp_cond_true m (kh (ou ?_)));show wpOps _ _ _ [0] _ _;rw[wpOps_cons];refine jI (w':=w.drew.alloc (rz (mR b))) (o:={dst:=some 3,op:=Op.box 200 (.tmp 1),type:=0,pos:= "",after:=#[],guard:=none}) (.pointer (some ⟨w.drew.heap.size,0,none⟩)) rfl rfl ?_ ?_;have c:∀(o:Oper) (f:dZ->di),o.op=Op.box 200 (.tmp 1)->f (.tmp 1)=.func (.func 227) #[] (mR b)->(execOp f o).run V.prog w.drew=.ok (.value (.pointer (some ⟨w.drew.heap.size,0,none⟩))) (w.drew.alloc (rz (mR b))):=by rintro⟨d,op,t,r,s,g⟩ f rfl j;generalize mR b=u at j⊢;unfold rz;go_simp
 exact c _ _ rfl n;refine ou ?_;show wpOps _ _ _ [0] _ _;rw[wpOps_cons];have c:∀f:dZ->di,f (.const (.iface 3 (.int .i64 7)))=.iface 3 (.int .i64 7)->(execOp f {dst:=none,op:=Op.panic (.const (.iface 3 (.int .i64 7))),type:=0,pos:= "",after:=#[],guard:=none}).run V.prog (w.drew.alloc (rz (mR b)))=.halt (.panic (.iface 3 (.int .i64 7))) (w.drew.alloc (rz (mR b))):=by intro f j;go_simp
 exact Jz (o:={dst:=none,op:=Op.panic (.const (.iface 3 (.int .i64 7))),type:=0,pos:= "",after:=#[],guard:=none}) _ rfl rfl (c _ rfl) ⟨by rw[uf,p],rfl,rfl⟩
def JA(a:Nat)(w:dg):(Instr.build 245 #[(0,.pointer (some ⟨a,0,none⟩))]).run V.prog w=.ok (.agg (jR ⟨a,0,none⟩)) w:=by kernel_rfl
def MG(N:Nat->Prop)(f:Nat)(D:eN)(w:dg)(Q:fH N f D w)(L:∀b,N b->b<w.heap.size)(h:Region.schedule (V.prog.follows .mixedOrders) gF (w.tape w.drawn (.order 163 1))=[0,1]):Calls V.prog 163 #[.pointer (some ⟨f,0,none⟩)] w (λe w'=>yX D w e w'/\Ext w w'):=by
 refine Ew _ rfl ?_;rw[h];rw[wpOps_cons];refine jI (w':=w.drew) (o:={dst:=some 2,op:=Op.move (.const (.bool true)),type:=4,pos:= "",after:=#[],guard:=none}) (.bool true) rfl rfl (by go_simp) ?_;rw[wpOps_cons];refine jI (w':=w.drew) (o:={dst:=some 2,op:=Op.move (.const (.bool false)),type:=4,pos:= "",after:=#[],guard:=none}) (.bool false) rfl rfl (by go_simp) ?_;have J:(gR #[.pointer (some ⟨f,0,none⟩)]).tmps.size=9:=by unfold gR;rw[mL];simp
 obtain⟨a,H⟩:∃a,a=((iO #[.pointer (some ⟨f,0,none⟩)]).put (some 2) (.bool true)).put (some 2) (.bool false):=⟨_,rfl⟩;have R:a.tmps.size=9:=by rw[H,mL,mL];unfold iO;rw[mL,J]
 have S:a.eval (.tmp 2)=.bool false:=by rw[H,uZ _ _ _ (by rw[mL];unfold iO;rw[mL,J];decide)]
 have T:a.eval (.tmp 0)=.pointer (some ⟨f,0,none⟩):=by rw[H,qU _ _ _ _ (by simp),qU _ _ _ _ (by simp)];unfold iO;rw[qU _ _ _ _ (by simp)];unfold gR;rw[qU _ _ _ _ (by simp)];rfl
 have U:a.defers=[]:=by rw[H];rfl
 show Code.wp V.prog mg _ (((iO _).put (some 2) (.bool true)).put (some 2) (.bool false)) w.drew;rw[<-H];clear H;show Code.wp V.prog (Code.seq (Code.cond (.tmp 2) _ .skip) _) _ a w.drew;refine kh (wp_cond_false S (wp_skip ?_));refine kh (ou ?_);show wpOps _ _ _ [0] _ _;rw[wpOps_cons];refine jI (w':=w.drew) (o:={dst:=some 3,op:=Op.build 245 #[(0,.tmp 0)],type:=245,pos:= "",after:=#[],guard:=none}) (.agg (jR ⟨f,0,none⟩)) rfl rfl ?_ ?_;have i:=JA f w.drew;have d:∀c:dZ->di,c (.tmp 0)=.pointer (some ⟨f,0,none⟩)->(execOp c {dst:=some 3,op:=Op.build 245 #[(0,.tmp 0)],type:=245,pos:= "",after:=#[],guard:=none}).run V.prog w.drew=.ok (.value (.agg (jR ⟨f,0,none⟩))) w.drew:=by intro c I;simp[execOp,I,i,Result.andThen]
 exact d _ T;show wpOps _ _ _ [] (a.put (some 3) _) _;obtain⟨A,n⟩:∃A,A=a.put (some 3) (.agg (jR ⟨f,0,none⟩)):=⟨_,rfl⟩;have W:A.tmps.size=9:=by rw[n,mL,R]
 have X:A.defers=[]:=by rw[n,uf,U]
 have Y:A.eval (.tmp 3)=.agg (jR ⟨f,0,none⟩):=by rw[n,uZ _ _ _ (by omega)]
 rw[<-n];clear n;show Code.wp V.prog (Code.seq _ _) _ A w.drew;refine kh (ou ?_);show wpOps _ _ _ [0] _ _;rw[wpOps_cons];obtain⟨p,x⟩:∃p,p=w.drew.alloc (eW f none 0 0 L0 OA):=⟨_,rfl⟩;refine jI (w':=p) (o:={dst:=some 4,op:=Op.box 245 (.tmp 3),type:=0,pos:= "",after:=#[],guard:=none}) (.pointer (some ⟨w.heap.size,0,none⟩)) rfl rfl ?_ ?_;have d:∀c:dZ->di,c (.tmp 3)=.agg (jR ⟨f,0,none⟩)->(execOp c {dst:=some 4,op:=Op.box 245 (.tmp 3),type:=0,pos:= "",after:=#[],guard:=none}).run V.prog w.drew=.ok (.value (.pointer (some ⟨w.heap.size,0,none⟩))) p:=by intro c I;rw[x,<-Jr];generalize jR ⟨f,0,none⟩=Z at I⊢;go_simp
 exact d _ Y;show wpOps _ _ _ [] (A.put (some 4) _) _;obtain⟨B,q⟩:∃B,B=A.put (some 4) (.pointer (some ⟨w.heap.size,0,none⟩)):=⟨_,rfl⟩;have z2:B.tmps.size=9:=by rw[q,mL,W]
 have d2:B.defers=[]:=by rw[q,uf,X]
 have O:B.eval (.tmp 4)=.pointer (some ⟨w.heap.size,0,none⟩):=by rw[q,uZ _ _ _ (by omega)]
 rw[<-q];clear q;have g:Ext w p:=by rw[x];exact(Ext.drew w).trans (Ext.alloc _ _)
 have B1:p.heap[w.heap.size]? =some (eW f none 0 0 L0 OA):=by rw[x];exact fM w.drew _
 have hS:iD N f w.heap.size D w.heap.size w.drawn p [] none 0 L0 OA none:=
  ⟨⟨Q.same λb i=>g.block b (L b i),λb i=>⟨eh (L b i) g.size,by have:=L b i;omega,by simp⟩,B1,.inl ⟨rfl,rfl,rfl⟩,λs _=>by simp[L0],λs _ j _ _=>AL _,gu _,λ_=>rfl⟩,rfl,(λl m k h=>by cases h),g.size,g.drawn⟩
 clear x;show Code.wp V.prog (Code.seq _ _) _ B p;refine kh (ou ?_);show wpOps _ _ _ [0] _ _;rw[wpOps_cons];refine xZ (o:={dst:=some 5,op:=Op.call {callee:=.value (.func 216),args:=#[.tmp 4],argTypes:=#[243]},type:=0,pos:= "",after:=#[],guard:=none}) 216 #[.pointer (some ⟨w.heap.size,0,none⟩)] rfl rfl ?_ ((MD N f w.heap.size D w.heap.size w.drawn p [] none 0 L0 OA none hS).mono ?_);have d:∀c:dZ->di,c (.tmp 4)=.pointer (some ⟨w.heap.size,0,none⟩)->c (.func 216)=.func (.func 216) #[] #[]->(execOp c {dst:=some 5,op:=Op.call {callee:=.value (.func 216),args:=#[.tmp 4],argTypes:=#[243]},type:=0,pos:= "",after:=#[],guard:=none}).run V.prog p=.ok (.enter 216 #[.pointer (some ⟨w.heap.size,0,none⟩)]) p:=by intro c I q1;go_simp
 exact d _ O rfl;rintro e v ⟨rfl,aa,ab,L2,E,y,_,F,_⟩;refine .inl ⟨_,rfl,?_⟩;have G:eO D (D.opn.length-([]:List Nat).length) [] L0 none=ie D:=rfl;rw[G]at y;obtain⟨_,_,_,⟨y0,y1,ac,y3⟩,_⟩:=iI y.t.at_;show wpOps _ _ _ [] (B.put (some 5) _) _;obtain⟨C,r⟩:∃C,C=B.put (some 5) undef:=⟨_,rfl⟩;have z3:C.tmps.size=9:=by rw[r,mL,z2]
 have d3:C.defers=[]:=by rw[r,uf,d2]
 have M:C.eval (.tmp 4)=.pointer (some ⟨w.heap.size,0,none⟩):=by rw[r,qU _ _ _ _ (by simp),O]
 rw[<-r];clear r;show Code.wp V.prog (Code.seq _ _) _ C v;refine kh (ou ?_);show wpOps _ _ _ [0] _ _;rw[wpOps_cons];refine jI (w':=v) (o:={dst:=some 6,op:=Op.fieldAddr 245 (.tmp 4) 3,type:=0,pos:= "",after:=#[],guard:=none}) (.pointer (some ⟨w.heap.size,8,none⟩)) rfl rfl ?_ ?_;have d:∀c:dZ->di,c (.tmp 4)=.pointer (some ⟨w.heap.size,0,none⟩)->(execOp c {dst:=some 6,op:=Op.fieldAddr 245 (.tmp 4) 3,type:=0,pos:= "",after:=#[],guard:=none}).run V.prog v=.ok (.value (.pointer (some ⟨w.heap.size,8,none⟩))) v:=by intro c I;go_simp
 exact d _ M;show wpOps _ _ _ [] (C.put (some 6) _) _;obtain⟨z,u⟩:∃z,z=C.put (some 6) (.pointer (some ⟨w.heap.size,8,none⟩)):=⟨_,rfl⟩;have z4:z.tmps.size=9:=by rw[u,mL,z3]
 have d4:z.defers=[]:=by rw[u,uf,d3]
 have e6:z.eval (.tmp 6)=.pointer (some ⟨w.heap.size,8,none⟩):=by rw[u,uZ _ _ _ (by omega)]
 rw[<-u];clear u;show Code.wp V.prog (Code.seq _ Code.ret) _ z v;refine kh (ou ?_);show wpOps _ _ _ [0] _ _;rw[wpOps_cons];refine jI (w':=v) (o:={dst:=some 7,op:=Op.load 199 (.tmp 6),type:=199,pos:= "",after:=#[],guard:=none}) E.val rfl rfl ?_ ?_;have d:∀c:dZ->di,c (.tmp 6)=.pointer (some ⟨w.heap.size,8,none⟩)->(execOp c {dst:=some 7,op:=Op.load 199 (.tmp 6),type:=199,pos:= "",after:=#[],guard:=none}).run V.prog v=.ok (.value E.val) v:=by intro c I;simp only[SV.val];go_simp
 exact d _ e6;show wpOps _ _ _ [] (z.put (some 7) _) _;show Code.wp V.prog Code.ret _ (z.put (some 7) E.val) v;have K:∀b,b<w.heap.size->v.heap[b]? =w.heap[b]? :=by intro b i;rw[F.block b (eh i g.size) (by rintro(h|h);omega;cases h),g.block b i]
 refine wp_ret ⟨by rw[uf,d4],E.val,?_,⟨E,rfl,?_,y.cap,K,?_⟩,⟨F.os.trans g.os,F.tape.trans g.tape,F.output.trans g.output,dS g.size F.size,dS g.drawn F.drawn,K⟩⟩;have P:(z.put (some 7) E.val).eval (.tmp 7)=E.val:=uZ _ _ _ (by omega);rw[jS]at P;simp[results,V.f163,P];exact y.sched.move λb Z fz i hx=>⟨i.1,hx⟩;rw[F.tape,g.tape]
def Ru(a:Array di)(w:dg)(h:w.tape w.drawn (.order 163 1)=1):Calls V.prog 163 a w λe b=>e=.panicked jm/\b=w.drew.alloc (rz (mR a)):=H6 a w (by rw[h];exact Rs)
def Te(N:Nat->Prop)(a:Nat)(D:eN)(w:dg)(c:fH N a D w)(d:∀b,N b->b<w.heap.size)(h:w.tape w.drawn (.order 163 1)=0):Calls V.prog 163 #[.pointer (some ⟨a,0,none⟩)] w (yX D w):=(MG N a D w c d (by rw[h];exact Rt)).mono λ_ _ h=>h.1
def JB(t:Nat):Region.schedule (V.prog.follows .mixedOrders) gF t=[0,1]\/Region.schedule (V.prog.follows .mixedOrders) gF t=[1,0]:=by
 have d:Region.departs gF=false:=by kernel_rfl
 have e:Region.schedule (V.prog.follows .mixedOrders) gF t=Region.linearise .any gF t:=by unfold Region.schedule;rw[d];simp
 rw[e]
 have b:∀(n t:Nat) (L:Array Bool) (a:List Nat) (c:List Nat),((List.range gF.size).filter λi=>!L.getD i true&&((gF[i]?).map (·.after.all λe=>!Region.binds .any e||L.getD e.on false)).getD false)=c->Region.linearise.go .any gF (n+1) t L a=match c[t%c.length]? with
  |some i=>Region.linearise.go .any gF n (t/c.length) (L.setIfInBounds i true) (i::a)
  |none=>a.reverse:=by
  intro n t L a c h;subst h;rfl
 show Region.linearise.go .any gF 2 t #[false,false] []=_\/Region.linearise.go .any gF 2 t #[false,false] []=_;rw[b 1 t #[false,false] [] [0,1] (by kernel_rfl)];rcases(show t%2=0\/t%2=1 by omega)with h|h;have:([0,1]:List Nat)[t%([0,1]:List Nat).length]? =some 0:=by show([0,1]:List Nat)[t%2]? =some 0;rw[h];rfl
 simp only[this];rw[b 0 _ (#[false,false].setIfInBounds 0 true) [0] [1] (by kernel_rfl)];have:([1]:List Nat)[t/([0,1]:List Nat).length%([1]:List Nat).length]? =some 1:=by show([1]:List Nat)[t/2%1]? =some 1;rw[Nat.mod_one];rfl
 simp only[this];exact .inl rfl;have:([0,1]:List Nat)[t%([0,1]:List Nat).length]? =some 1:=by show([0,1]:List Nat)[t%2]? =some 1;rw[h];rfl
 simp only[this];rw[b 0 _ (#[false,false].setIfInBounds 1 true) [1] [0] (by kernel_rfl)];have:([0]:List Nat)[t/([0,1]:List Nat).length%([0]:List Nat).length]? =some 0:=by show([0]:List Nat)[t/2%1]? =some 0;rw[Nat.mod_one];rfl
 simp only[this];exact .inr rfl
def JC:AM:=⟨Ru,Te,λN a D w b c d=>O2 ME N a D w b c d⟩
end Go.Proofs.W
variable{H N:Go.Proofs.W.Gd}{M Y:List di}
namespace Go.Proofs.W
open Go.RowKit
def uA(R:di->dg->Prop):Ending->dg->Prop:=λe w=>(∃v,e=.returned v/\R v w)\/(e=.panicked jm/\Qp w)
def uA.of{R:di->dg->Prop}(h:Calls V.prog K W w (gh R)):Calls V.prog K W w (uA R):=h.mono λe w h=>.inl h
def ir{k:di->dg->Prop}{R:di->dg->Prop}{b:List PanicEntry->dg->Prop}(g:Calls V.prog K M.toArray w (uA R))(i:∀a,Qp a->b jm a)(h:∀v a,R v a->k v a)(c:∀f w,Sem.run V.prog (callFunc K f) w=.ok (.enter K f) w:=by intro _ _;kernel_rfl):OD V.prog K M w k b:=by refine⟨c,g.mono ?_⟩;rintro e a (⟨v,rfl,d⟩|⟨rfl,d⟩);exact h v a d;exact i a d
def MH(a:Addr):mR #[.pointer (some a)]=ry (.pointer (some a)):=by rfl
def Ex{D:eN}(c:fH A m D w)(a:∀b,A b->b<w.heap.size):Calls V.prog 163 #[dJ m] w (uA λv w'=>Ext w w'/\∃y:SV,v=y.val/\dW (λb=>w.heap.size<=b) w' (ie D) y):=by rcases JB (w.tape w.drawn (.order 163 1))with h|h;refine(MG A m D w c a h).mono ?_;rintro e w' ⟨⟨y,rfl,d,_⟩,f⟩;exact .inl ⟨_,rfl,f,y,rfl,d⟩;refine(H6 _ w h).mono ?_;rintro e w' ⟨rfl,rfl⟩;refine .inr ⟨rfl,m,w.heap.size,D,A,?_,?_,fH.same (w:=w) (w':=w.drew.alloc (rz (mR #[dJ m]))) (λb g=>alloc_old w.drew _ (a b g)) c,a⟩;rw[<-MH];exact fM w.drew _;exact World.size_alloc _ _
def Qs:Sp->Int
 |none=>0
 |some (_,m,_)=>m
def uB(D:eN):Int×Bool:=(Qs (ie D),(ie D).isSome)
def Ey{s:Sp}{y:SV}(h:dW A w s y):∃a l c n,y.val=.agg #[.slice a l c,.int .i64 (Qs s),.int .i64 n,.bool s.isSome]:=by
 cases s with
 |none=>
  have h:y=⟨none,0,0,0,0,false⟩:=h;subst h;exact⟨none,0,0,0,rfl⟩
 |some s=>
  obtain⟨l,m,n⟩:=s;obtain⟨f,g,i,k,j,o⟩:=y;obtain⟨b,d,e,p,q⟩:=h;simp only at b d e;subst b d e;exact⟨f,g,i,j,rfl⟩
def JD{wp gp mk ms n0:Nat}{f:List Sx}(h:lz wp gp mk ms H f I w)(p:∀b,A b->b<w.heap.size)(q:kS A mk ms H w)(g:n0<=mk)(r:n0<=ms)(i:∀x∈f,tE 100000 x)(s:m<=gC H):
 Calls V.prog 116 #[dJ wp,.int .i64 m] w (uA λv o=>MA n0 mk ms H A w o/\v=.tuple #[.int .i64 (uB (jx H f m)).1,.bool (uB (jx H f m)).2]):=by
 refine go V.func116 Tryz.ntmps116 ?_;refine dt (yQ h p q g r i s) ?_;rintro v t ⟨u,L,rfl,z⟩;refine ir (Ex z λb j=>by obtain⟨_,_,_,_,j⟩:=j;exact dG.lt_of_heap j) (λo h=>.inr ⟨rfl,h⟩) ?_;rintro v M ⟨B,y,rfl,C⟩;obtain⟨a,l,c,n,D⟩:=Ey C;rw[D];refine fJ λN O E k d=>ee d λF G e=>?_;have J:Ext t F:=B.trans (E.dz G k);refine dT dO (dI (dj e rfl) (dI (dj e rfl) λP K=>.inl ⟨_,rfl,(wL n0 mk ms H A).trans _ _ _ u ((J.trans K).ma _ _ _ _ _),rfl⟩))
def JE{b:List Sx}(h:∀x∈b,tE k x)(d:Nat):∀x∈leave1 b d,tE k x:=λx a=>by unfold leave1 at a;split at a;rename_i y c;rcases tI a with a|rfl;exact h x a;exact h y (vD c);exact h x a
theorem AO:∀{l:List Nat} {xs:List Sx},(∀x∈xs,tE k x)->∀x∈jF xs l,tE k x
 |[],xs,h=>h
 |d::r,xs,h=>AO (l:=r) (xs:=leave1 xs d) (JE h d)
def MA.mf{n0 mk ms:Nat}(h:MA n0 mk ms H B w t):MF A n0 mk ms H B w t:=⟨h.1.os,h.1.tape,h.1.output,h.1.size,h.1.drawn,λx o _ a b=>h.1.block x o a b,λ_ c=>h.2 c⟩
structure LB(wp gp mk ms n0:Nat)(G:Gd)(xs:List Sx)(before:Int)(from_:Nat)(canv:Int)(wb fb ob cb:Nat)(A:Nat->Prop)(w:dg):Prop where
 h:lz wp gp mk ms G xs before w
 p:kS A mk ms G w
 a:∀b,A b->b<w.heap.size
 b1:w.heap[wb]? =some (.cells #[dJ wp] 133)
 b2:w.heap[fb]? =some (.cells #[.int .i64 from_] 3)
 b4:w.heap[cb]? =some (.cells #[.int .i64 canv] 3)
 off:∀w',(∀b cs t fz,b≠ob->w.heap[b]? =some (.cells cs t fz)->w'.heap[b]? =some (.cells cs t fz))->w.heap.size<=w'.heap.size->lz wp gp mk ms G xs before w'
 nob:wb≠ob/\fb≠ob/\cb≠ob
 ao:A ob
def LB.mf{wp gp mk ms n0:Nat}{f:List Sx}(h:LB wp gp mk ms n0 H f I m J k i j o A w)(e:MF (λx=>x=j) n0 mk ms H A w t):LB wp gp mk ms n0 H f I m J k i j o A t:=
 ⟨h.off t (λb g l n c d=>e.at_ c d) e.size,e.m h.a h.p,λb c=>eh (h.a b c) e.size,e.at_ h.nob.1 h.b1,e.at_ h.nob.2.1 h.b2,e.at_ h.nob.2.2 h.b4,λq r s=>h.off q (λb g l n c d=>r b g l n c (e.at_ c d)) (dS e.size s),h.nob,h.ao⟩
def tu(G:Gd)(c:List Sx)(a:Nat)(b:Int)(l:List Nat):Bool:=(uB (jx G (jF c l) a)).2&&decide ((uB (jx G (jF c l) a)).1<=b)
def Rv{wp gp mk ms n0:Nat}{r:List Sx}(h:LB wp gp mk ms n0 H r I m J k i j o A w)(C:n0<=mk)(S:n0<=ms)(D:∀q∈r,tE 100000 q)(T:m<=gC H) (U:gi w a l)(W:∀d∈l,d<r.length)(s:l.length<=100000)(E:w.heap[j]? =some (.cells #[x] 27)):
 Calls V.prog 170 #[.slice a l.length p,dJ k,dJ i,dJ j,dJ o] w (uA λv G=>MF (λq=>q=j) n0 mk ms H A w G/\v=.bool (tu H r m J l)/\G.heap[j]? =some (.cells #[.slice a l.length p] 27)):=by
 refine go V.func170 Tryz.ntmps170 ?_;have K:∀{g},MA n0 mk ms H A w g->MF (λq=>q=j) n0 mk ms H A w g:=λe=>e.mf;obtain⟨F,L⟩:∃F,F=uB (jx H (jF r l) m):=⟨_,rfl⟩;refine dT (wL n0 mk ms H A) ?_;refine .exact (dJ wp) (λg f=>dl (dj (f.1.at_ h.b1) rfl) ⟨rfl,(wL n0 mk ms H A).refl _⟩) ?_;refine .rel (λu g=>∃c,u=dJ c/\lz c gp mk ms H (jF r l) I g) (λu aa b ⟨c,M,N⟩ e=>⟨c,M,N.hH e.1⟩) (λg f=>?_) ?_;exact dt (Gb (h.h.hH f.1) (U.hH f.1) W s) λu B ⟨X,c,M,N⟩=>⟨⟨c,M,N⟩,X.ma _ _ _ _ _⟩;refine .exact (.int .i64 m) (λg f=>dl (dj (f.1.at_ h.b2) rfl) ⟨rfl,(wL n0 mk ms H A).refl _⟩) ?_;refine .exact (.tuple #[.int .i64 F.1,.bool F.2]) (λg f t O=>?_) ?_;obtain⟨c,rfl,Y⟩:∃c,t=dJ c/\lz c gp mk ms H (jF r l) I g:=O;exact ir (JD Y (λb y=>eh (h.a b y) f.1.size) (f.2 h.p) C S (AO D) T) (λG h=>.inr ⟨rfl,h⟩) λv B ⟨Z,hv⟩=>⟨by rw[hv,L],Z⟩;intro g f t _;have z:=f.1.at_ E;refine ee z λB Q n=>?_;have n:B.heap[j]? =some (.cells #[.slice a l.length p] 27):=n;have P:=Q.fU (f.1.at_ h.b4) h.nob.2.2;have R:MF (λq=>q=j) n0 mk ms H A w B:=(Ge _ n0 mk ms H A).trans _ _ _ (K f) (MF.Mg Q λq hx=>by subst hx;exact h.ao);refine⟨λy=>?_,λy=>?_⟩;refine dl (dj P rfl) (vS (.inl ⟨_,rfl,R,?_,n⟩));unfold tu;rw[<-L,y];rfl;refine .inl ⟨_,rfl,R,?_,n⟩;unfold tu;rw[<-L,y];rfl
section
variable{w:dg}{k:di->dg->Prop}
def yZ(a:Option Addr)(i c:Nat):Option Addr:=if c=i then a else a.map (·.add i)
def MI(b:Nat)(n:b<=m)(o:m<=i)(h:k (.slice (yZ a b i) (m-b) (i-b)) w)(f:I=(b:Nat):=by rfl)(g:ty T=some ⟨3,1,1,0⟩:=by rfl):jB V.prog (Instr.sliceAt T (.slice a m i) (some (.int .i64 I)) none none) w k:=by
 subst f;obtain⟨e,j,l⟩:=re g rfl;refine⟨_,w,?_,h⟩;have c:(b:Int)<=(m:Int):=by omega
 have d:(0:Int)<=(b:Int):=by omega
 unfold Instr.sliceAt Instr.slice;simp only[Sem.run_bind,gY j,Result.andThen_ok,Instr.sliceBounds,Instr.sliceBound,asIntOf,pure_bind,d,c,and_self,ei,Sem.run_pure,lO l,sM,iw,fp];simp only[oO,nk,yZ]
end
theorem gi.drop{w:dg}(h:gi w a l)(i:Nat)(j:l.length<=m):gi w (yZ a i m) (l.drop i):=λk e=>by
 have c:i+k<l.length:=by simp at e;omega
 obtain⟨b,o,f,g⟩:=h (i+k) c;have d:¬m=i:=by omega
 refine⟨b,o+i,?_,?_⟩;unfold yZ;rw[dp d,f];simp[iK];rw[show o+i+k=o+(i+k) by omega,g,List.getElem_drop]
structure PE(w2:dg)(k d:Nat)(a b:dg):Prop where
 e:dP (λx=>w2.heap.size<=x) a b
 r:∀x cs,w2.heap.size<=x->a.heap[x]? =some (.cells cs 3)->∃rI,b.heap[x]? =some (.cells rI 3)/\rI.size=cs.size/\∀j,rI[j]? =cs[j]? \/(j=k/\rI[j]? =some (.int .i64 d))
 o:Ext a b\/(∀x,x<w2.heap.size->a.heap[x]? =w2.heap[x]?)\/a.heap.size<w2.heap.size
def Ext.pe{a b:dg}(h:Ext a b)(c:dg)(k d:Nat):PE c k d a b:=⟨h.keep _,λx e _ f=>⟨e,h.at_ f,rfl,λ_=>.inl rfl⟩,.inl h⟩
def UP(s:dg)(k d:Nat):gq (PE s k d):=by refine⟨λw=>(Ext.refl w).pe _ _ _,λa b c h g=>⟨h.e.trans g.e (λ_ _ h=>h) λ_ _ h=>h,λx u m v=>?_,?_⟩,λw=>(Ext.drew w).pe _ _ _⟩;obtain⟨n,i,y,z⟩:=h.r x u m v;obtain⟨p,A,B,C⟩:=g.r x n m i;refine⟨p,A,B.trans y,λj=>?_⟩;rcases C j with f|f;rcases z j with q|q;exact .inl (f.trans q);exact .inr ⟨q.1,f.trans q.2⟩;exact .inr f;rcases h.o with l|l|l;rcases g.o with i|i|i;exact .inl (l.trans i);rcases fO a.heap.size s.heap.size with t|t;exact .inr (.inr t);refine .inr (.inl λx m=>?_);rw[<-i x m];exact(l.block x (by omega)).symm;exact .inr (.inr (Nat.lt_of_le_of_lt l.size i));exact .inr (.inl l);exact .inr (.inr l)
def kS.same{A:Nat->Prop}{mk ms n:Nat}{w w':dg}(h:kS A mk ms H w)(i:w.heap.size<=n)(f:∀x,x<n->x<w.heap.size->w'.heap[x]? =w.heap[x]?):kS A mk ms H w':=by
 have a:∀b o,w.heap[b]? =some o->w'.heap[b]? =some o:=λb o c=>by have e:=dG.lt_of_heap c;rw[f b (by omega) e];exact c
 refine h.go (λ_ h=>.inl h) (λb o v _ d=>?_) λb o _ c=>a b o c;unfold World.cell? at d⊢;split at d;rename_i j t k g;rw[a _ _ g];exact d;cases d
def PE.mf{i:dg}{k d n0 mk ms ob:Nat}{A:Nat->Prop}{a b:dg}(h:PE i k d a b)(n:kS A mk ms H i):MF (λx=>x=ob\/i.heap.size<=x) n0 mk ms H A a b:=by refine⟨h.e.os,h.e.tape,h.e.output,h.e.size,h.e.drawn,λx o c p _=>h.e.fU p λq=>c (.inr q),λr f=>?_⟩;rcases h.o with g|g|g;exact f.ext g;refine n.same (dC _) λx c _=>?_;rw[<-g x c];rcases fO x a.heap.size with j|j;exact h.e.block x j (by omega);have m:a.heap[x]? =none:=lY j;rw[g x c]at m;have:=Array.getElem?_eq_none_iff.1 m;omega;exact f.same (dC _) λx c l=>h.e.block x l (by omega)
def MF.narrow{F c:Nat->Prop}{n0 mk ms:Nat}{A:Nat->Prop}{a b:dg}(h:MF c n0 mk ms H A a b)(e:∀x,x<a.heap.size->c x->F x):MF F n0 mk ms H A a b:=
 ⟨h.os,h.tape,h.output,h.size,h.drawn,λx o f d g=>h.block x o (λi=>f (e x (dG.lt_of_heap d) i)) d g,h.m⟩
def MF.wide{F c:Nat->Prop}{n0 mk ms:Nat}{A:Nat->Prop}{a b:dg}(h:MF F n0 mk ms H A a b)(d:∀x,F x->c x):MF c n0 mk ms H A a b:=
 ⟨h.os,h.tape,h.output,h.size,h.drawn,λx o e f g=>h.block x o (λi=>e (d x i)) f g,h.m⟩
def GN(n:Nat)(w:dg)(v:di)(l:List Nat):Prop:=GL w v l/\∀b,dw v b->n<=b
def GN.pe{f a b:dg}{v:di}{k:Nat}(h:GN f.heap.size a v l)(e:PE f k d a b)(m:∀h:k<l.length,l[k]=d):GN f.heap.size b v l:=by refine⟨?_,h.2⟩;rcases h.1 with n|⟨x,c,o,rfl,p,s,t,u⟩;exact .inl n;obtain⟨g,w,y,z⟩:=e.r x o (h.2 x ⟨_,_,rfl⟩) s;refine .inr ⟨x,c,g,rfl,p,w,y.trans t,λj i=>?_⟩;rcases z j with q|⟨rfl,q⟩;rw[q];exact u j i;rw[q,m i]
def gQ.gn{w:dg}{v:di}(h:gQ m w v l):GN m w v l:=by refine⟨?_,λb d=>(dM.blk h d).1⟩;obtain⟨o,⟨e,rfl⟩|⟨b,c,f,p,rfl,g,a,i,q,j,r⟩⟩:=h;exact .inl ⟨nZ e,rfl⟩;simp only[fq,gl,nk,dB]at a;refine .inr ⟨b,c,f,rfl,i,g,a,λk n=>?_⟩;rw[j k (by simp[jk];omega)];simp[jk,fI n]
def jc(p:List Nat->Bool):Nat->List Nat->List Nat->Bool×Option (List Nat)
 |0,_,a=>(p a,some a)
 |m+1,l,a=>(List.range l.length).foldl (λb i=>if b.1 then b else((jc p m (l.drop (i+1)) (a++[l.getD i 0])).1,(jc p m (l.drop (i+1)) (a++[l.getD i 0])).2.or b.2)) (false,none)
def fL(p:List Nat->Bool)(m:Nat)(l a:List Nat)(k:Nat):Bool×Option (List Nat):=(List.range k).foldl (λb i=>if b.1 then b else((jc p m (l.drop (i+1)) (a++[l.getD i 0])).1,(jc p m (l.drop (i+1)) (a++[l.getD i 0])).2.or b.2)) (false,none)
def BO(p:List Nat->Bool)(m:Nat)(l a:List Nat)(k:Nat)(h:(fL p m l a k).1=false):fL p m l a (k+1)=((jc p m (l.drop (k+1)) (a++[l.getD k 0])).1,(jc p m (l.drop (k+1)) (a++[l.getD k 0])).2.or (fL p m l a k).2):=by
 have:fL p m l a (k+1)=if(fL p m l a k).1 then fL p m l a k else((jc p m (l.drop (k+1)) (a++[l.getD k 0])).1,(jc p m (l.drop (k+1)) (a++[l.getD k 0])).2.or (fL p m l a k).2):=by unfold fL;rw[qv,xm];rfl
 rw[this,h];rfl
def BP(p:List Nat->Bool)(b:Nat)(l a:List Nat){k:Nat}(g:k<=m)(h:(fL p b l a k).1=true):fL p b l a m=fL p b l a k:=by
 induction m with
 |zero=>obtain rfl:k=0:=by omega
        rfl
 |succ m c=>
  rcases fO k (m+1)with d|f;have e:=c (by omega);have:fL p b l a (m+1)=if(fL p b l a m).1 then fL p b l a m else((jc p b (l.drop (m+1)) (a++[l.getD m 0])).1,(jc p b (l.drop (m+1)) (a++[l.getD m 0])).2.or (fL p b l a m).2):=by unfold fL;rw[qv,xm];rfl
  rw[this,e,h];rfl;obtain rfl:k=m+1:=by omega
  rfl
theorem ig.drop(h:ig A w a l)(i:Nat)(n:l.length<=m):ig A w (yZ a i m) (l.drop i):=λk e=>by
 have c:i+k<l.length:=by simp at e;omega
 obtain⟨b,o,f,g,j⟩:=h (i+k) c;have d:¬m=i:=by omega
 refine⟨b,o+i,f,?_,?_⟩;unfold yZ;rw[dp d,g];simp[iK];rw[show o+i+k=o+(i+k) by omega,j,List.getElem_drop]
def Pa{A:di->dg->Prop}{G:Array Bool}(B:GL w x l)(H:m<=w.heap.size)(f:l.length<=1000)(p:w.heap[k]? =some (.cells [Value.int .i64 s].toArray 3)) (I:∀v d,GL d v (l++[s])->(∀b,dw v b->dw x b\/m<=b)->dP (dw x) w d->(∀b a,dw x b->w.heap[b]? =some (.cells a 3)->d.heap[b]? =some (.cells a 3)\/d.heap[b]? =some (.cells (a.setIfInBounds l.length (.int .i64 s)) 3))->A v d):Au V.prog (builtin .append #[27,27] T G #[x,.slice (some ⟨k,0,none⟩) 1 i]) w A:=by
 obtain⟨o,q⟩:∃o:Obj,∀b,dw x b->w.heap[b]? =some o:=by by_cases C:∃b,dw x b;obtain⟨b,c⟩:=C;obtain⟨a,r⟩:=B.c3 c;exact⟨.cells a 3,λD t=>by rw[Em c t];exact r⟩;exact⟨.cells #[] 3,λb c=>absurd ⟨b,c⟩ C⟩
 obtain⟨u,j⟩:∃u:Obj,∀b a,dw x b->o=.cells a 3->u=.cells (a.setIfInBounds l.length (.int .i64 s)) 3:=by
  cases o with
  |cells a T K=>exact⟨.cells (a.setIfInBounds l.length (.int .i64 s)) 3,λb y _ e=>by injection e with e;rw[e]⟩
  |_=>exact⟨.cells #[] 3,λb y _ e=>by cases e⟩
 refine xh (w0:=w) B q H f p u j λv d E F=>I v d ?_ (λb c=>?_) F.k λb a c J=>?_;rcases E with⟨_,_,_,_,_,h⟩|⟨_,_,_,_,h⟩<;>exact h;rcases E with⟨D,c',z,rfl,_⟩|⟨D,c',z,rfl,_⟩;rw[mT (l':=0) (c':=0) c];exact .inl z;rw[mT (l':=0) (c':=0) c];exact .inr z;rcases F.n b _ c J with h|⟨h,g⟩;exact .inl h;exact .inr (by rw[g,j b a c h.symm])
def GL.mf{n0 mk ms:Nat}(h:GL w x l)(e:MF A n0 mk ms H B w t)(d:∀b,dw x b->¬A b):GL t x l:=by rcases h with h|⟨b,c,f,a,g,i,j⟩;exact .inl h;exact .inr ⟨b,c,f,a,g,e.at_ (d b ⟨_,_,a⟩) i,j⟩
def Gu(d:Nat)(w:dg)(f:di)(a:List Nat)(e:dg):Option (List Nat)->Prop
 |none=>e.heap[d]? =w.heap[d]?
 |some o=>a.length<=o.length/\∃c,e.heap[d]? =some (.cells #[c] 27)/\GL e c o/\∀b,dw c b->dw f b\/w.heap.size<=b
def Tf(a b c d:Nat):di:=.func (.func 170) #[] #[dJ a,dJ b,dJ c,dJ d]
def GL.BQ(h:GL w x l)(a:w.heap[m]? =some (.cells #[y] 27)):∀b,dw x b->b≠m:=λb c e=>by subst e;obtain⟨f,d⟩:=h.c3 c;exact gO d a (by decide)
theorem Ez{wp gp mk ms n0:Nat}{xs:List Sx}(an:n0<=mk)(hn:n0<=ms)(ao:∀x∈xs,tE 100000 x)(hf:m<=gC H):
 ∀(z:Nat) (l c:List Nat) (la:Option Addr) (Y:Nat) (W ov:di) (w:dg),LB wp gp mk ms n0 H xs I m J k i j o A w->ig (λb=>b=j) w la l->l.length<=Y->l.length<=1000->(∀d∈l,d<xs.length)->GL w W c->(∀d∈c,d<xs.length)->z+c.length<=1000->w.heap[j]? =some (.cells #[ov] 27)->(∀b,dw ov b->b<w.heap.size)->
  Calls V.prog 169 #[.slice la l.length Y,W,.int .i64 z,Tf k i j o] w (uA λv w'=>MF (λx=>x=j) n0 mk ms H A w w'/\v=.bool (jc (tu H xs m J) z l c).1/\Gu j w W c w' (jc (tu H xs m J) z l c).2)
 |0,l,c,la,Y,W,ov,w,hB,hl,ad,aF,ae,s,af,ap,R,aq=>by obtain⟨ba,bc,rfl,ag,aG⟩:=s.row;refine go V.func169 Tryz.ntmps169 ?_;refine gA (ki rfl (ir (Rv hB an hn ao hf ag af (by omega) R) (λw' h=>.inr ⟨rfl,h⟩) λv y ⟨e1,hv,B⟩=>?_));subst hv;exact .inl ⟨_,rfl,e1,rfl,dC _,_,B,s.mf e1 (s.BQ R),λb s=>.inl s⟩
 |z+1,l,c,la,Y,W,ov,w,hB,hl,ad,aF,ae,s,af,ap,R,aq=>by
  obtain⟨p,hp⟩:∃p,p=tu H xs m J:=⟨_,rfl⟩;have ar:=s.BQ R;refine go V.func169 Tryz.ntmps169 ?_;refine gA (mX (by simp;omega) (dK ?_));rw[<-hp];have aH:=(Ge (λx=>x=j) n0 mk ms H A).trans;refine eZ (n:=l.length) (λg=>[(0,.slice la l.length Y),(1,W),(2,.int .i64 (z+1:Nat)),(3,Tf k i j o),(16,.slice la l.length Y),(17,.int .i64 l.length),(18,.int .i64 g)]) (λg w'=>(fL p z l c g).1=false/\MF (λx=>x=j) n0 mk ms H A w w'/\Gu j w W c w' (fL p z l c g).2) ⟨⟨rfl,rfl,rfl,rfl,rfl,rfl,rfl,trivial⟩,rfl,(Ge _ _ _ _ _ _).refl _,rfl⟩ ?_ ?_ ?_;rintro g y hk hJ;exact eg ⟨rfl,rfl,⟨rfl,rfl,rfl,rfl,rfl,rfl,rfl,trivial⟩,hJ⟩;rintro g y hk ⟨ah,m1,C⟩;have ai:=hB.mf m1;have au:ig (λb=>b=j) y la l:=hl.go (λ_ h=>.inl h) λb Z v s hc=>m1.cell s hc;have av:GL y W c:=s.mf m1 ar;have s1:=m1.size;obtain⟨D,B,ab⟩:∃D,y.heap[j]? =some (.cells #[D] 27)/\∀b,dw D b->b<y.heap.size:=by
   cases S:(fL p z l c g).2 with
   |none=>
    rw[S]at C;exact⟨ov,(show y.heap[j]? =w.heap[j]? from C).trans R,λb s=>eh (aq b s) s1⟩
   |some Z=>
    rw[S]at C;obtain⟨_,D,M,E,_⟩:=C;exact⟨D,M,λb s=>E.blk s⟩
  have aI:=dG.lt_of_heap B;obtain⟨lb,lo,aP,rfl,K⟩:=au g hk;obtain⟨d,hd⟩:∃d,d=l[g]:=⟨_,rfl⟩;rw[<-hd]at K;have aJ:d<xs.length:=by rw[hd];exact ae _ (fc hk)
  refine eP g hk (dl K ?_);have hE:=UP y c.length d;refine io 12 hE (Ge (λx=>x=j\/y.heap.size<=x) n0 mk ms H A) (λa b h=>h.mf ai.p) ?_;refine .exact (.int .i64 ((g:Int)+1)) (λf _=>dD ⟨rfl,hE.refl _⟩) ?_;refine .exact (.slice (yZ (some ⟨lb,lo,none⟩) (g+1) Y) (l.length-(g+1)) (Y-(g+1))) (λf _=>MI (g+1) (by omega) ad ⟨rfl,hE.refl _⟩) ?_;refine .early rfl (λv f=>GN y.heap.size f v c) (λv a b h e=>h.pe e λh=>by omega) (λf F=>?_) ?_;have aK:GL f W c:=av.keep F.e λb s=>by have:=av.blk s;omega
  obtain⟨ba,bc,rfl,ag,aG⟩:=aK.row;exact dt (lQ ag (by omega)) λu w3 ⟨e3,hu⟩=>⟨(hu.low F.e.size).gn,e3.pe _ _ _⟩;refine .early rfl (λv f=>∃N,v=.slice (some ⟨N,0,none⟩) 1 1/\y.heap.size<=N/\f.heap[N]? =some (.cells [Value.int .i64 d].toArray 3)) (λv a b ⟨N,h1,h2,h3⟩ e=>⟨N,h1,h2,?_⟩) (λf F=>eQ [.int .i64 d] 3 λw3 N e3 aw s=>⟨⟨N,rfl,dS F.e.size aw,s⟩,e3.pe _ _ _⟩) ?_;obtain⟨aj,M,E,L⟩:=e.r N _ h2 h3;rw[M];have:aj=[Value.int .i64 d].toArray:=by
   apply Kc;intro ax;rcases L ax with q|⟨q0,q⟩;exact q;have hj:ax<aj.size:=(fF.1 q).1;have E:aj.size=1:=E;obtain rfl:ax=0:=by omega
   rw[q];rfl
  rw[this];refine .early rfl (λv f=>GN y.heap.size f v (c++[d])) (λv a b h e=>h.pe e λh=>by simp) (λf F ay aL ak T=>?_) ?_;obtain⟨N,rfl,aw,az⟩:∃N,ay=.slice (some ⟨N,0,none⟩) 1 1/\y.heap.size<=N/\f.heap[N]? =some (.cells [Value.int .i64 d].toArray 3):=aL;have T:GN y.heap.size f ak c:=T;refine Pa T.1 F.e.size (by omega) az λv w3 M E L X=>⟨⟨M,λb s=>(E b s).elim (T.2 b) id⟩,L.trans (dP.refl (λ_=>False) w3) (λx _ Q=>T.2 x Q) (λ_ _ h=>h.elim),λx cs Q hc=>?_,.inr (.inl λx Q=>F.e.block x Q (by omega))⟩;by_cases aA:dw ak x;rcases X x cs aA hc with q|q;exact⟨cs,q,rfl,λ_=>.inl rfl⟩;refine⟨_,q,by simp,λax=>?_⟩;by_cases hj:c.length=ax;subst hj;rcases fO c.length cs.size with hs|hs;exact .inr ⟨rfl,kq hs⟩;left;rw[lY hs,lY (by simpa using hs)];exact .inl (eG hj);exact⟨cs,L.fU hc aA,rfl,λ_=>.inl rfl⟩;refine .exact (.int .i64 ((z+1:Nat)-1)) (λf _=>gK ⟨rfl,hE.refl _⟩) ?_;obtain⟨P,hP⟩:∃P,P=jc p z (l.drop (g+1)) (c++[d]):=⟨_,rfl⟩
  refine .spec (λv f=>v=.bool P.1/\y.heap.size<=f.heap.size/\match P.2 with
   |none=>f.heap[j]? =y.heap[j]?
   |some Z=>c.length<=Z.length/\∃t,f.heap[j]? =some (.cells #[t] 27)/\GL f t Z/\(∀b,dw t b->y.heap.size<=b)/\∃b,dw t b) (λv a b ⟨h1,h2,h3⟩ e=>⟨h1,dS h2 e.e.size,?_⟩) (λf F al aa=>?_) ?_
  cases S:P.2 with
  |none=>
   rw[S]at h3;have h3:a.heap[j]? =y.heap[j]? :=h3;show b.heap[j]? =y.heap[j]?;rw[<-h3];exact e.e.block j (by omega) (by omega)
  |some Z=>
   rw[S]at h3;obtain⟨M,t,E,L,X,b0,g5⟩:=h3;rcases e.o with he|he|he;exact⟨M,t,he.at_ E,L.keep (he.keep λ_=>False) λ_ _ h=>h,X,b0,g5⟩;exfalso;have:=he j aI;rw[E,B]at this;have:=dH this;injection this with this;have:t=D:=by simpa using dQ Array.toList this
   subst this;have:=X b0 g5;have:=ab b0 g5;omega;omega
  have aa:GN y.heap.size f al (c++[d]):=aa;have M2:MF (λx=>x=j) n0 mk ms H A y f:=(F.mf ai.p).narrow λx Q hf=>hf.elim id λh=>by omega
  have aM:=ai.mf M2;have aN:ig (λb=>b=j) f (some ⟨lb,lo,none⟩) l:=au.go (λ_ h=>.inl h) λb Z v s hc=>M2.cell s hc;have ac:f.heap[j]? =some (.cells #[D] 27):=F.e.fU B (by omega);have ih:=Ez an hn ao hf z (l.drop (g+1)) (c++[d]) _ (Y-(g+1)) al D f aM (aN.drop (g+1) ad) (by simp;omega) (by simp;omega) (λx Q=>ae x (List.mem_of_mem_drop Q)) aa.1 (λx Q=>(j8.1 Q).elim (af x) λh=>by rw[iQ.1 h];exact aJ) (by simp;omega) ac (λb s=>eh (ab b s) F.e.size);rw[<-hp,<-hP]at ih;have aB:(l.drop (g+1)).length=l.length-(g+1):=by simp
  rw[aB]at ih;rw[show((z+1:Nat):Int)-1=(z:Int) by omega];refine ir ih (λw' h=>.inr ⟨rfl,h⟩) ?_;rintro v w3 ⟨m3,rfl,O⟩;refine⟨⟨rfl,dS F.e.size m3.size,?_⟩,m3.wide λx Q=>.inl Q⟩;cases S:P.2 with
  |none=>
   rw[S]at O;have O:w3.heap[j]? =f.heap[j]? :=O;show w3.heap[j]? =y.heap[j]?;rw[O,ac,B]
  |some Z=>
   rw[S]at O;obtain⟨M,t,E,L,X⟩:=O;simp only[kN,fq,gl]at M;obtain⟨b0,c0,_,q0,_⟩:=L.v (by omega);exact⟨by omega,t,E,L,λb s=>(X b s).elim (aa.2 b) λh=>dS F.e.size h,b0,by rw[q0];exact⟨_,_,rfl⟩⟩
  rintro f F aQ ⟨rfl,aR,hR⟩ al _ ay _ ak _;have M2:MF (λx=>x=j) n0 mk ms H A y f:=F.narrow λx Q hf=>hf.elim id λh=>by omega
  have aC:l.getD g 0=d:=by rw[getD_eq hk,hd]
  have G:=BO p z l c g ah;rw[aC,<-hP]at G;have aD:=aH _ _ _ m1 M2;have am:Gu j w W c f (P.2.or (fL p z l c g).2):=by
   cases S:P.2 with
   |none=>
    rw[S]at hR;have hR:f.heap[j]? =y.heap[j]? :=hR;cases aE:(fL p z l c g).2 with
    |none=>
     rw[aE]at C;exact(show f.heap[j]? =w.heap[j]? from hR.trans C)
    |some Z=>
     rw[aE]at C;obtain⟨M,t,E,L,X⟩:=C;exact⟨M,t,hR.trans E,L.mf M2 (L.BQ B),X⟩
   |some Z=>
    rw[S]at hR;obtain⟨M,t,E,L,X,_⟩:=hR;exact⟨M,t,E,L,λb s=>.inr (dS s1 (X b s))⟩
  rw[<-show(fL p z l c (g+1)).2=P.2.or (fL p z l c g).2 by rw[G]]at am;have U:(fL p z l c (g+1)).1=P.1:=by rw[G]
  refine⟨λht=>?_,λaO=>?_⟩;have e:jc p (z+1) l c=fL p z l c (g+1):=BP p z l c (show g+1<=l.length by omega) (U.trans ht);exact .inl ⟨_,rfl,aD,by rw[e,U,ht];rfl,by rw[e];exact am⟩;exact dD ⟨⟨rfl,rfl,rfl,rfl,rfl,rfl,rfl,trivial⟩,U.trans aO,aD,am⟩;rintro y ⟨ah,m1,C⟩;exact .inl ⟨_,rfl,m1,by show _=Value.bool (fL p z l c l.length).1;rw[ah];rfl,C⟩
def lz.Pb{wp gp mk ms:Nat}{n:List Sx}(h:lz wp gp mk ms H n I w)(p:∀(b:Nat) (a:Array di) (d:dn) (e:Nat×Nat),w.heap[b]? =some (Obj.cells a d e)->t.heap[b]? =some (Obj.cells a d e))(q:w.heap.size<=t.heap.size):lz wp gp mk ms H n I t:=by
 have cell:∀{f:Addr} {v:di},w.cell? f=some v->t.cell? f=some v:=λ{f v} c=>by unfold World.cell? at c⊢;split at c;rename_i a d e r;rw[p _ _ _ _ r];exact c;cases c
 obtain⟨s,u,x,y,z,A⟩:=h.at_;obtain⟨B,C,D,⟨a,E,F,G⟩,J,K⟩:=h.g.at_;refine⟨⟨⟨B,C,D,⟨a,p _ _ _ _ E,F,G⟩,λk i=>?_,cell K⟩,h.g.ok,eh h.g.mlt q,eh h.g.slt q,h.g.ne,h.g.gk⟩,h.len,h.bf,s,u,cell x,cell y,cell z,λk i=>?_⟩;obtain⟨b,o,l,m,L,M⟩:=J k i;exact⟨b,o,l,cell m,cell L,cell M⟩;obtain⟨b,o,l,m⟩:=A k i;exact⟨b,o,l,λj v N=>cell (m j v N)⟩
def jJ(p:List Nat->Bool)(l:List Nat)(k:Nat):Bool×List Nat:=(List.range k).foldl (λa m=>if a.1 then a else((jc p m l []).1,(jc p m l []).2.getD a.2)) (false,[])
def oL(p:List Nat->Bool)(l:List Nat):List Nat:=(jJ p l (l.length+1)).2
def uC(p:List Nat->Bool)(l:List Nat)(k:Nat):jJ p l (k+1)=if(jJ p l k).1 then jJ p l k else((jc p k l []).1,(jc p k l []).2.getD (jJ p l k).2):=by unfold jJ;rw[qv,xm];rfl
def BR(p:List Nat->Bool)(l:List Nat)(d:k<=m)(h:(jJ p l k).1=true):jJ p l m=jJ p l k:=by
 induction m with
 |zero=>obtain rfl:k=0:=by omega
        rfl
 |succ m a=>
  rcases fO k (m+1)with b|c;rw[uC,a (by omega),h];rfl;obtain rfl:k=m+1:=by omega
  rfl
def MJ{wp gp mk ms n0:Nat}{f:List Sx}{s canv:Int}(h:lz wp gp mk ms H f s w)(hA:∀b,A b->b<w.heap.size)(hp:kS A mk ms H w)(aa:n0<=mk)(hn:n0<=ms)(ab:∀x∈f,tE 100000 x)(hf:m<=gC H):
 Calls V.prog 123 #[dJ wp,.int .i64 m,.int .i64 canv] w (uA λv J=>MA n0 mk ms H A w J/\∃a c,v=.slice a (oL (tu H f m canv) (ek H.tries f)).length c/\gi J a (oL (tu H f m canv) (ek H.tries f))/\(oL (tu H f m canv) (ek H.tries f)).length<=c):=by
 have ac:=h.g.um;have h5:=ac.many;have aj:=h.len;have ai:=rV H.tries f;refine go V.func123 Tryz.ntmps123 ?_;refine fB λw1 wb e1 ak j=>fB λw2 fb X al u=>fB λw3 cb O am y=>fJ λw4 B P an z=>?_;have j:w1.heap[wb]? =some (.cells #[dJ wp] 133):=j;have u:w2.heap[fb]? =some (.cells #[.int .i64 m] 3):=u;have y:w3.heap[cb]? =some (.cells #[.int .i64 canv] 3):=y;have z:w4.heap[B]? =some (.cells #[.slice none 0 0] 27):=z;have l1:=dG.lt_of_heap j;have l2:=dG.lt_of_heap u;have l3:=dG.lt_of_heap y;have l4:=dG.lt_of_heap z;have s1:=e1.size;have s2:=X.size;have s3:=O.size;have E4:Ext w w4:=((e1.trans X).trans O).trans P;refine dl (dj ((X.trans (O.trans P)).at_ j) rfl) (dt (BA (h.ext E4)) ?_);rintro v Y ⟨N,Q⟩;obtain⟨oa,oc,rfl,_,ad⟩:=Q.row;have s4:=E4.size;have s5:=N.size
 have ae:ig (λb=>b=B) Y oa (ek H.tries f):=by
  obtain⟨a,c,R,q2,_⟩:=Q.Rf (A:=λb=>b=B) λb i=>by omega
  injection R with R;rw[R];exact q2
 have Z:=E4.trans N;obtain⟨A',D⟩:∃A':Nat->Prop,A'=λx=>A x\/x=B:=⟨_,rfl⟩;have hB:LB wp gp mk ms n0 H f s m canv wb fb B cb A' Y:=by
  refine⟨h.ext Z,(hp.more (A':=A') λb i=>?_).ext Z,λb i=>?_,(X.trans (O.trans (P.trans N))).at_ j,(O.trans (P.trans N)).at_ u,(P.trans N).at_ y,λJ hc hs=>h.Pb (λb cs t fz i=>hc b cs t fz (by have:=dG.lt_of_heap i;omega) (Z.at_ i)) (by omega),⟨by omega,by omega,by omega⟩,by rw[D];exact .inr rfl⟩;rw[D]at i;exact i.imp id λe=>by omega
  rw[D]at i;rcases i with i|i;have:=hA b i;omega;omega
 obtain⟨p,S⟩:∃p,p=tu H f m canv:=⟨_,rfl⟩;rw[<-S];have T:∀{E:dg} {F:di} {l:List Nat},MF (λx=>x=B) n0 mk ms H A' Y E->GL E F l->MA n0 mk ms H A w E/\∃a c,F=.slice a l.length c/\gi E a l/\l.length<=c:=λK hg=>by refine⟨⟨K.after (Z.hH n0) λx hx=>by omega,λ_=>(K.m hB.a hB.p).fewer λb i=>by rw[D];exact .inl i⟩,?_⟩;obtain⟨a,c,R,q2,q3⟩:=hg.row;exact⟨a,c,R,q2,q3⟩
 refine dK (dD ?_);refine eZ (n:=(ek H.tries f).length+1) (λk=>[(3,dJ wb),(4,dJ fb),(5,dJ cb),(7,dJ B),(8,.slice oa (ek H.tries f).length oc),(14,.int .i64 ((ek H.tries f).length+1:Nat)),(15,.int .i64 k)]) (λk J=>(jJ p (ek H.tries f) k).1=false/\MF (λx=>x=B) n0 mk ms H A' Y J/\∃F,J.heap[B]? =some (.cells #[F] 27)/\GL J F (jJ p (ek H.tries f) k).2) ⟨⟨rfl,rfl,rfl,rfl,rfl,rfl,rfl,trivial⟩,rfl,(Ge _ _ _ _ _ _).refl _,_,N.at_ z,.inl ⟨rfl,rfl⟩⟩ ?_ ?_ ?_;rintro k E hk hJ;exact eg ⟨rfl,rfl,⟨rfl,rfl,rfl,rfl,rfl,rfl,rfl,trivial⟩,hJ⟩;rintro k E hk ⟨U,K,F,q,C⟩;have af:=hB.mf K;have ih:=Ez aa hn ab hf k (ek H.tries f) [] oa oc (.slice none 0 0) F E af (ae.go (λ_ h=>.inl h) λb o v i hc=>K.cell i hc) ad (by omega) (λd hd=>lR hd) (.inl ⟨rfl,rfl⟩) (λd hd=>by cases hd) (by simp;omega) q (λb i=>C.blk i);rw[<-S]at ih;refine ir ih (λJ h=>.inr ⟨rfl,h⟩) ?_;rintro v w7 ⟨m7,rfl,G⟩;have M7:=(Ge (λx=>x=B) n0 mk ms H A').trans _ _ _ K m7;have r:=uC p (ek H.tries f) k;rw[U,dp (by simp)]at r;obtain⟨I,L,W⟩:∃I,w7.heap[B]? =some (.cells #[I] 27)/\GL w7 I (jJ p (ek H.tries f) (k+1)).2:=by
  rw[r];cases hq:(jc p k (ek H.tries f) []).2 with
  |none=>
   rw[hq]at G;exact⟨F,(show w7.heap[B]? =E.heap[B]? from G).trans q,C.mf m7 (C.BQ q)⟩
  |some o=>
   rw[hq]at G;obtain⟨_,ag,g1,g2,_⟩:=G;exact⟨ag,g1,g2⟩
 have M:(jJ p (ek H.tries f) (k+1)).1=(jc p k (ek H.tries f) []).1:=by rw[r]
 refine⟨λht=>?_,λah=>?_⟩;refine dl (dj L rfl) (.inl ⟨_,rfl,?_⟩);have e:oL p (ek H.tries f)=(jJ p (ek H.tries f) (k+1)).2:=by unfold oL;rw[BR p (ek H.tries f) (show k+1<=(ek H.tries f).length+1 by omega) (M.trans ht)]
 rw[e];exact T M7 W;exact dD ⟨⟨rfl,rfl,rfl,rfl,rfl,rfl,rfl,trivial⟩,M.trans ah,M7,I,L,W⟩;rintro E ⟨U,K,F,q,C⟩;exact dl (dj q rfl) (.inl ⟨_,rfl,T K C⟩)
def H7(D:eN)(ps:List Nat):Prop:=∀k (h:k<ps.length),ps[k]<(eo D k).length
def MK(D:eN):Sp->Prop
 |none=>True
 |some (l,_,_)=>∃ps:List Nat,l=ps.map Int.ofNat/\ps.length=D.opn.length/\H7 D ps
theorem EB(b x:Sp):l7 b x=x\/l7 b x=b:=by unfold l7;split;exact .inl rfl;exact .inr rfl
theorem wj(D:eN):∀(n:Nat) (ps:List Nat) (L:Nat->Nat) (b:Sp),ps.length+n=D.opn.length->H7 D ps->MK D b->MK D (eO D n ps L b)
 |0,ps,L,b,j,a,c=>by simp only[eO];rcases EB b (eV D L ps)with h|h;rw[h];unfold eV;split;trivial;exact⟨ps,rfl,by omega,a⟩;rw[h];exact c
 |n+1,ps,L,b,j,a,c=>by
  simp only[eO]
  have d:∀(g:List Nat) (b:Sp),(∀i∈g,i<(eo D ps.length).length)->MK D b->MK D (g.foldl (λb i=>eO D n (ps++[i]) (jZ (fQ D ps.length) ((eo D ps.length).getD i []) L) b) b):=by
   intro g;induction g with
   |nil=>intro b _ c;exact c
   |cons i r l=>
    intro b e c;rw[pZ];refine l _ (λx m=>e x (iF _ m)) (wj D n _ _ _ (by simp;omega) (λk o=>?_) c);rcases fO k ps.length with f|p;rw[oR f];exact a k f;obtain rfl:k=ps.length:=by simp at o;omega
    simp only[xn (dC _),ot,qb];exact e i iV
  exact d _ b (λi q=>jL.1 q) c
theorem EC(D:eN):MK D (ie D):=wj D _ [] L0 none (by simp) (λk a=>by simp at a) trivial
def mH(D:eN)(ps:List Nat):Nat->Nat->Nat
 |0=>L0
 |k+1=>jZ (fQ D k) ((eo D k).getD (ps.getD k 0) []) (mH D ps k)
def tv(G:Gd)(L:Nat->Nat)(k:Nat):List (Nat×List Nat):=(List.range k).flatMap λs=>((hZ G (L s)).getD []).map λl=>(s,l)
def y8(G:Gd)(D:eN):Option (List (Nat×List Nat)):=match ie D with
 |none=>none
 |some (l,_,_)=>some (tv G (mH D (l.map Int.toNat) l.length) 6)
theorem wm(G:Gd)(L:Nat->Nat)(k:Nat):tv G L (k+1)=tv G L k++((hZ G (L k)).getD []).map λl=>(k,l):=by unfold tv;rw[qv,List.flatMap_append];simp
theorem y9{G:Gd}{L:Nat->Nat}:∀k,(tv G L k).length<=5*k
 |0=>dC _
 |k+1=>by
  rw[wm,kN,xo];have:=y9 (G:=G) (L:=L) k;have a:((hZ G (L k)).getD []).length<=5:=by
   cases h:hZ G (L k)with
   |none=>simp
   |some b=>exact pS h
  omega
theorem za{s:Nat}{a:List (List Nat)}(h:hZ H s=some a):∀l∈a,l.length<=5:=λl b=>by unfold hZ at h;split at h;obtain rfl:=dH h;cases b;obtain⟨c,_,rfl⟩:=ix.1 h;obtain⟨g,_,rfl⟩:=nh.1 b;exact uw
def sJ:List (Nat×List Nat)->List di->List di
 |p::r,u::s=>.int .i64 p.1::u::sJ r s
 |_,_=>[]
theorem uD(p:Nat×List Nat)(u:di):∀(ps:List (Nat×List Nat)) (a:List di),a.length=ps.length->sJ (ps++[p]) (a++[u])=sJ ps a++[.int .i64 p.1,u]
 |[],[],_=>rfl
 |q::r,v::s,h=>by simp only[oP,sJ];rw[uD p u r s (by simpa using h)]
theorem AP:∀(ps:List (Nat×List Nat)) (a:List di),a.length=ps.length->(sJ ps a).length=2*ps.length
 |[],[],_=>rfl
 |q::r,v::s,h=>by simp only[sJ,fq];rw[AP r s (by simpa using h)];omega
theorem AQ:∀(ps:List (Nat×List Nat)) (a:List di),a.length=ps.length->∀k (h:k<ps.length),(sJ ps a)[2*k]? =some (.int .i64 ps[k].1)/\(sJ ps a)[2*k+1]? =a[k]?
 |q::r,v::s,h,0,_=>⟨rfl,rfl⟩
 |q::r,v::s,h,k+1,b=>by have:=AQ r s (by simpa using h) k (by simpa using b);rw[show 2*(k+1)=2*k+1+1 by omega];simp only[sJ,zZ,G2];exact this
def mz(n0:Nat)(w:dg)(v:di)(ps:List (Nat×List Nat)):Prop:=∃a:List di,a.length=ps.length/\dM n0 29 [.int .i64 0,.slice none 0 0] w v ps.length (sJ ps a)/\∀k (h:k<ps.length),∃u,a[k]? =some u/\gQ n0 w u ps[k].2
def vv(w:dg)(a:Option Addr)(ps:List (Nat×List Nat)):Prop:=∀k (h:k<ps.length),∃b o c d,a=some ⟨b,o,none⟩/\w.cell? ⟨b,o+k*2,none⟩=some (.int .i64 ps[k].1)/\w.cell? ⟨b,o+k*2+1,none⟩=some (.slice c ps[k].2.length d)/\gi w c ps[k].2/\ps[k].2.length<=d
section
variable{n0:Nat}{w w':dg}{v:di}{ps:List (Nat×List Nat)}
theorem mz.nil(n0:Nat)(w:dg):mz n0 w (.slice none 0 0) []:=⟨[],rfl,dM.nil _ _ _ _,λk a=>by simp at a⟩
theorem mz.hH{m:Nat}(h:mz n0 w v ps)(e:jb m w w'):mz n0 w' v ps:=by obtain⟨a,b,c,d⟩:=h;refine⟨a,b,c.hH e,λk f=>?_⟩;obtain⟨u,g,i⟩:=d k f;exact⟨u,g,dM.hH i e⟩
theorem mz.ext(h:mz n0 w v ps)(e:Ext w w'):mz n0 w' v ps:=h.hH (e.hH 0)
theorem mz.low{a:Nat}(h:mz n0 w v ps)(b:a<=n0):mz a w v ps:=by obtain⟨c,d,e,f⟩:=h;exact⟨c,d,e.low b,λk g=>by obtain⟨u,i,j⟩:=f k g;exact⟨u,i,j.low b⟩⟩
theorem mz.blk(h:mz n0 w v ps){b:Nat}(a:dw v b):n0<=b/\b<w.heap.size:=by obtain⟨d,_,c,_⟩:=h;exact c.blk a
theorem mz.row(h:mz n0 w v ps):∃a c,v=.slice a ps.length c/\vv w a ps/\ps.length<=c:=by obtain⟨e,f,⟨z,⟨j,rfl⟩|⟨b,c,A,B,rfl,g,C,l,D,i,E⟩⟩,m⟩:=h;exact⟨none,0,by rw[j],λk d=>by omega,by omega⟩;refine⟨_,c,rfl,λk d=>?_,l⟩;obtain⟨u,n,o⟩:=m k d;obtain⟨p,q,rfl,r,s⟩:=o.row;obtain⟨t,x⟩:=AQ ps e f k d;have y:=AP ps e f;refine⟨b,0,p,q,rfl,dj g ?_,dj g ?_,r,s⟩;rw[dB,Nat.mul_comm,i _ (by omega)];exact t;rw[dB,Nat.mul_comm,i _ (by omega),x];exact n
theorem Pc{k:di->dg->Prop}{r:Array Bool}(h:mz n0 w v ps)(m:n0<=w.heap.size){b c:Nat}{u:di}{p:Nat×List Nat}(n:gQ n0 w u p.2)(s:w.heap[b]? =some (.cells [Value.int .i64 p.1,u].toArray 29))(d:ps.length+1<=1000000) (t:∀e w',mz n0 w' e (ps++[p])->(∀W,Ext W w->W.heap.size<=n0->Ext W w')->dP (dw v) w w'->(∀b,dw e b->dw v b\/w.heap.size<=b)->k e w'):Au V.prog (builtin .append #[26,26] T r #[v,.slice (some ⟨b,0,none⟩) 1 c]) w k:=by
 obtain⟨y,o,j,z⟩:=h;have f:u.oneCell'=true:=by obtain⟨a,c,rfl,_⟩:=gQ.row n;rfl
 refine iM Rd j m s d (λe w' A l B=>t e w' ⟨y++[u],by simp[o],by rw[uD _ _ _ _ o];simpa using A,λi C=>?_⟩ (λW D E=>D.iZ l j E) l B) rfl (by show ti [u]=true;simp[ti,f]);rcases fO i ps.length with g|F;obtain⟨x,G,q⟩:=z i g;refine⟨x,by rw[oQ (by omega)];exact G,?_⟩;rw[oR g];exact dM.keep q l (mY q j (by decide));obtain rfl:i=ps.length:=by simp at C;omega
 refine⟨u,by rw[qa (by omega)];simp[o],?_⟩;simp only[xn (dC _),ot,qb];exact dM.keep n l (mY n j (by decide))
end
def Pd(a:Nat)(L:Nat->Nat)(w:dg):Prop:=w.heap[a]? =some (.cells #[.int .u8 (L 0),.int .u8 (L 1),.int .u8 (L 2),.int .u8 (L 3),.int .u8 (L 4),.int .u8 (L 5)] 204)
theorem Pd.cell{a:Nat}{L:Nat->Nat}{w:dg}(h:Pd a L w){s:Nat}(b:s<6):w.cell? ⟨a,s,none⟩=some (.int .u8 (L s)):=by
 have:s=0\/s=1\/s=2\/s=3\/s=4\/s=5:=by omega
 rcases this with rfl|rfl|rfl|rfl|rfl|rfl<;>exact dj h rfl
theorem Rw{w:dg}{k:dg->Prop}{a:Nat}{L:Nat->Nat}(h:Pd a L w)(s v:Nat)(e:s<6)(b:∀w',dP (λx=>x=a) w w'->Pd a (FO L s v) w'->k w'):Dt V.prog (Instr.storeAt 154 (.pointer (some ⟨a,0+s,none⟩)) (.int .u8 v)) w k:=by
 have:s=0\/s=1\/s=2\/s=3\/s=4\/s=5:=by omega
 rcases this with rfl|rfl|rfl|rfl|rfl|rfl<;>exact ee h λw' c d=>b w' c (by unfold Pd;rw[d];rfl)
end Go.Proofs.W
variable{D E:Bool}
namespace Go.Proofs.W
open Go.RowKit
def Pe{k:di->dg->Prop}(L:Nat->Nat)(s:Nat)(a:s<6)(h:k (.int .u8 (L s)) w):jB V.prog (Instr.index 204 (.agg #[.int .u8 (L 0),.int .u8 (L 1),.int .u8 (L 2),.int .u8 (L 3),.int .u8 (L 4),.int .u8 (L 5)]) (.int .i64 s)) w k:=by
 have:s=0\/s=1\/s=2\/s=3\/s=4\/s=5:=by omega
 rcases this with rfl|rfl|rfl|rfl|rfl|rfl;exact⟨_,w,Da _ _ _ _ _ _ w,h⟩;exact⟨_,w,Db _ _ _ _ _ _ w,h⟩;exact⟨_,w,Dc _ _ _ _ _ _ w,h⟩;exact⟨_,w,Dd _ _ _ _ _ _ w,h⟩;exact⟨_,w,De _ _ _ _ _ _ w,h⟩;exact⟨_,w,Df _ _ _ _ _ _ w,h⟩
theorem zb{D:eN}{ps:List Nat}(a:H.doors.length<=5)(b:∀d∈D.opn,d<H.doors.length):∀k,k<=D.opn.length->∀s,nW H (mH D ps k s)
 |0,_,s=>nW.zero H
 |k+1,e,s=>by have c:=zb (ps:=ps) a b k (by omega) s;simp only[mH,jZ];split;exact c.qi (b _ (by unfold fQ;rw[getD_eq (by omega)];exact fc _)) a;exact c
def Jb.rows{o:Option (List (List Nat))}(h:Jb A o x D w):∃a c,x=.slice a (o.getD []).length c/\lE A w a (o.getD []):=by
 cases o with
 |none=>exact⟨none,0,h.1,λk b=>by simp at b⟩
 |some f=>
  obtain⟨_,a,c,d,e,_⟩:=h;exact⟨a,c,d,e⟩
def Tg(a:Nat)(o:Option (List (Nat×List Nat)))(v:di)(w:dg):Prop:=match o with
 |none=>v=.tuple #[.slice none 0 0,.bool false]
 |some b=>∃u,v=.tuple #[u,.bool true]/\mz a w u b
def Pf{wp gp mk ms n0:Nat}{G:Gd}{xs:List Sx}(h:lz wp gp mk ms G xs I w)(hA:∀b,A b->b<w.heap.size)(hp:kS A mk ms G w)(ay:n0<=mk)(hn:n0<=ms)(aV:∀x∈xs,tE 100000 x)(hf:m<=gC G):
 Calls V.prog 117 #[dJ wp,.int .i64 m] w (uA λv z=>MA n0 mk ms G A w z/\Tg w.heap.size (y8 G (jx G xs m)) v z):=by
 have az:=h.g.um;have h5:=az.many;have aA:=h.len;refine go V.func117 Tryz.ntmps117 ?_;refine dt (yQ h hA hp ay hn aV hf) ?_;rintro v w1 ⟨m1,pb,rfl,hP⟩;have hN:∀b,Eo w.heap.size w1 b->b<w1.heap.size:=λb f=>by obtain⟨_,_,_,_,f⟩:=f;exact dG.lt_of_heap f
 refine ir (Ex hP hN) (λz h=>.inr ⟨rfl,h⟩) ?_;rintro v w2 ⟨e2,y,rfl,X⟩;have hD:∀d∈(jx G xs m).opn,d<G.doors.length:=λd hd=>by rw[<-aA];exact lR hd
 have B:=Ej az aA m;have al:=EC (jx G xs m);unfold y8;obtain⟨D,aW⟩:∃D,D=jx G xs m:=⟨_,rfl⟩;rw[<-aW]at hP X hD B al⊢;obtain⟨ya,yl,yc,ym,yk,yb⟩:=y;refine fJ λw3 sb e3 aX aB=>ee aB λw4 k4 F=>?_;have F:w4.heap[sb]? =some (.cells #[.slice ya yl yc,.int .i64 ym,.int .i64 yk,.bool yb] 199):=F;have am:Ext w2 w4:=e3.dz k4 aX;have an:Ext w1 w4:=e2.trans am;have s2:=e2.size;have bn:=an.size;cases hq:ie D with
 |none=>
  rw[hq]at X;have X:(⟨ya,yl,yc,ym,yk,yb⟩:SV)=⟨none,0,0,0,0,false⟩:=X;injection X with _ _ _ _ _ X;subst X;exact dl (dj F rfl) (eC (ki rfl (.inl ⟨_,rfl,(wL n0 mk ms G A).trans _ _ _ m1 (an.ma _ _ _ _ _),rfl⟩)))
 |some s=>
  obtain⟨l,mm,nn⟩:=s;rw[hq]at X al;obtain⟨q,rfl,bo,aY⟩:=al;obtain⟨y1,y2,y3,y4,y5⟩:=X;simp only at y1 y2 y3 y4 y5;subst y3;have y4:yl=q.length:=by rw[y4];simp
  subst y4
  have aZ:∀i (W:i<q.length),∃b,ya=some ⟨b,0,none⟩/\w1.heap.size<=b/\w2.cell? ⟨b,i,none⟩=some (.int .i64 q[i]):=λi W=>by
   rcases y5 with⟨h0,_⟩|⟨_,b,g1,g2,g3,_,fz,_,g4⟩;have:=dQ List.length h0;simp at this;rw[this]at W;simp at W;refine⟨b,g2,g1,?_⟩;simp only[World.cell?,g4];have:(gy (q.map Int.ofNat) yc)[i]? =some (.int .i64 q[i]):=by unfold gy;simp[List.getElem?_append,W]
   simpa using this
  clear y5;refine dl (dj F rfl) (eC (mX rfl (fJ λw5 O e5 bp ae=>?_)));have a0:Pd O L0 w5:=ae;have aC:=an.trans e5;have a1:=am.trans e5;have bq:=dG.lt_of_heap ae;have a2:fH (Eo w.heap.size w1) pb D w5:=hP.same λb f=>aC.block b (hN b f);obtain⟨wk,u1,u2,fz,_,af,a3,aD⟩:=a2.at_;have H:∀{b:Nat},Eo w.heap.size w1 b->¬b=O:=λf e=>by have:=hN _ f;omega
  have c1:∀{z},dP (λx=>x=O) w5 z->z.cell? ⟨pb,1,none⟩=some u1:=λk=>k.fh (by simp only[World.cell?,af];rfl) (H hP.lt);have c2:∀{z},dP (λx=>x=O) w5 z->z.cell? ⟨pb,2,none⟩=some u2:=λk=>k.fh (by simp only[World.cell?,af];rfl) (H hP.lt);have br:=dG.lt_of_heap F;refine dl (dj (e5.at_ F) rfl) (dK ?_);refine eZ (n:=q.length) (λi=>[(0,dJ wp),(6,dJ pb),(8,dJ O),(29,.slice ya q.length yc),(30,.int .i64 q.length),(31,.int .i64 i)]) (λi z=>dP (λx=>x=O) w5 z/\Pd O (mH D q i) z) ⟨⟨rfl,rfl,rfl,rfl,rfl,rfl,trivial⟩,dP.refl _ _,a0⟩ ?_ ?_ ?_;rintro i w6 W hJ;exact eg ⟨rfl,rfl,⟨rfl,rfl,rfl,rfl,rfl,rfl,trivial⟩,hJ⟩;rintro i w6 W ⟨k6,Y⟩;have bs:i<5:=by have:=B.five;omega
  obtain⟨ao,rfl,bm,aE⟩:=aZ i W;have ag:w6.cell? ⟨ao,i,none⟩=some (.int .i64 q[i]):=k6.fh (a1.cell aE) (λ(e:ao=O)=>by have:=pi aE;have:=am.size;omega);obtain⟨n,aF⟩:∃n,n=q[i]:=⟨_,rfl⟩;have C:=aY i W;rw[<-aF]at ag C;refine eP i W (dl (by rw[dB];exact ag) ?_);have P:i<D.lists.length:=by rw[B.len];omega
  have Z:i<D.opn.length:=by omega
  obtain⟨b2,bt,ui,a4,aG,a5,a6⟩:=aD.at_ i P;have aH:eo D i=D.lists[i]:=by unfold eo;rw[getD_eq P]
  rw[aH]at C;obtain⟨b3,bu,bv,a7,aI,a8,Q⟩:=a6.at_ n C;obtain⟨a9,ba,ap⟩:=Q.len;obtain⟨r,E⟩:∃r,r=D.lists[i][n]:=⟨_,rfl⟩;rw[<-E]at Q ap;have aJ:∀s∈r,s<6:=by rw[E];exact B.shift _ (fc P) _ (fc C)
  have aK:r.length<=65536:=by rw[E];exact B.long _ (fc P) _ (fc C)
  refine dl (c2 k6) ?_;rw[a4];refine eP i P (dl (by rw[dB];exact k6.fh a5 (H aG)) ?_);rw[a7];refine eP n C (dl (by rw[dB];exact k6.fh a8 (H aI)) ?_);rw[ap];have R:mH D q (i+1)=jZ (fQ D i) r (mH D q i):=by simp only[mH];rw[aH,getD_eq W,<-aF,getD_eq C,E]
  obtain⟨d,hd⟩:∃d,d=fQ D i:=⟨_,rfl⟩;have aL:d=D.opn[i]:=by rw[hd];unfold fQ;rw[getD_eq Z]
  have aq:d<5:=by have:=hD d (by rw[aL];exact fc Z);omega
  rw[<-hd]at R;obtain⟨b4,bw,ud,bc,aM,bd,ar⟩:=a3.at_ i Z;have ar:ud=.int .i64 d:=by rw[aL];exact ar
  subst ar;have ah:∀s,s<6->mH D q i s<32:=λs _=>(zb h5 hD i (by omega) s).1;refine dK ?_;refine eZ (n:=r.length) (λj=>[(0,dJ wp),(6,dJ pb),(8,dJ O),(9,.int .i64 i),(29,.slice (some ⟨ao,0,none⟩) q.length yc),(30,.int .i64 q.length),(31,.int .i64 i),(45,.slice a9 r.length ba),(46,.int .i64 r.length),(47,.int .i64 j)]) (λj z=>dP (λx=>x=O) w5 z/\Pd O (jZ d (r.take j) (mH D q i)) z) ⟨⟨rfl,rfl,rfl,rfl,rfl,rfl,rfl,rfl,rfl,rfl,trivial⟩,k6,?_⟩ ?_ ?_ ?_;have:jZ d (r.take 0) (mH D q i)=mH D q i:=by funext s;simp[jZ]
  rw[this];exact Y;rintro j w7 J hJ;exact eg ⟨rfl,rfl,⟨rfl,rfl,rfl,rfl,rfl,rfl,rfl,rfl,rfl,rfl,trivial⟩,hJ⟩;rintro j w7 J ⟨k7,S⟩;obtain⟨b5,bx,us,aa,aN,be,au⟩:=Q.at_ j J;obtain⟨s,hs⟩:∃s,s=r[j]:=⟨_,rfl⟩;have au:us=.int .i64 s:=by rw[hs];exact au
  subst au;have K:s<6:=by rw[hs];exact aJ _ (fc J)
  rw[ap]at aa;injection aa with aa _ bz;subst aa;refine eP j J (dl (by rw[dB];exact k7.fh be (H aN)) ?_);have aO:jZ d (r.take j) (mH D q i) s<32:=Bp aq ah s K;refine dT dO (pI s 6 K (dI (by rw[dB];exact S.cell K) (dI (c1 k7) ?_)));rw[bc];refine nH i Z (dI (by rw[dB];exact k7.fh bd (H aM)) (gU dO _ (λw8 e8=>xa _ d w8 aO aq) (pI s 6 K λw8 e8=>?_)));have bf:Pd O (jZ d (r.take j) (mH D q i)) w8:=e8.at_ S;refine Rw bf s _ K λw9 k9 bg=>dD ⟨⟨rfl,rfl,rfl,rfl,rfl,rfl,rfl,rfl,rfl,rfl,trivial⟩,(k7.trans (e8.keep λ_=>False) (λ_ _ h=>h) λ_ _ h=>h.elim).trans k9 (λ_ _ h=>h) λ_ _ h=>h,?_⟩;have:=Ar (L:=mH D q i) aq ah j J (by rw[<-hs];exact K);rw[<-hs]at this;rw[<-this];exact bg;rintro w7 ⟨k7,S⟩;rw[qx,<-R]at S;exact dD ⟨⟨rfl,rfl,rfl,rfl,rfl,rfl,trivial⟩,k7,S⟩;rintro w6 ⟨k6,Y⟩;have aK:(List.map Int.ofNat q).length=q.length:=by simp
  have aP:(List.map Int.ofNat q).map Int.toNat=q:=by simp[Cc]
  simp only[aK,aP];obtain⟨t,aQ⟩:∃t,t=mH D q q.length:=⟨_,rfl⟩;rw[<-aQ]at Y⊢;have bh:∀s,nW G (t s):=λs=>by rw[aQ];exact zb h5 hD _ (by omega) s
  have bi:Ext w1 w6:=aC.dz k6 (by omega);have m6:MA n0 mk ms G A w w6:=(wL n0 mk ms G A).trans _ _ _ m1 (bi.ma _ _ _ _ _);refine eB (vs:=[.int .u8 (t 0),.int .u8 (t 1),.int .u8 (t 2),.int .u8 (t 3),.int .u8 (t 4),.int .u8 (t 5)]) (λj v J=>by rw[dB];exact dj Y (by simpa using J)) ?_;have av:∀b,¬dw (.slice none 0 0) b:=λb f=>by obtain⟨_,_,f⟩:=f;cases f
  refine iE (n:=6) (λk v=>[(0,dJ wp),(13,v),(66,.agg #[.int .u8 (t 0),.int .u8 (t 1),.int .u8 (t 2),.int .u8 (t 3),.int .u8 (t 4),.int .u8 (t 5)]),(67,.int .i64 k)]) (λk v z=>jb n0 w z/\kS (λx=>A x\/dw v x) mk ms G z/\mz w.heap.size z v (tv G t k)) (.slice none 0 0) ⟨⟨rfl,rfl,rfl,rfl,trivial⟩,m6.1,(m6.2 hp).more λb f=>f.elim .inl λf=>absurd f (av b),mz.nil _ _⟩ ?_ ?_ ?_;rintro k v w7 hk hJ;exact eg ⟨rfl,rfl,⟨rfl,rfl,rfl,rfl,trivial⟩,hJ⟩;rintro k v w7 hk ⟨m7,ab,ac⟩;have h7:=h.hH m7;have s7:=m7.size;obtain⟨sa,sc,g1,g2,g3,g4⟩:=h7.at_;refine Pe t k hk (dl g1 (dt (yK h7.g (λb f=>f.elim (λf=>by have:=hA b f;omega) λf=>(ac.blk f).2) ab ay hn (bh k)) ?_));rintro v8 w8 ⟨m8,u,b,rfl,bj⟩;have M8:=m7.trans m8.1;obtain⟨a,c,rfl,ai⟩:=bj.rows;obtain⟨M,aw⟩:∃M,M=(hZ G (t k)).getD []:=⟨_,rfl⟩;rw[<-aw]at ai⊢;have aR:M.length<=5/\∀l∈M,l.length<=5:=by
   rw[aw];cases hw:hZ G (t k)with
   |none=>exact⟨by simp,λl hl=>by cases hl⟩
   |some bA=>exact⟨pS hw,za hw⟩
  have bB:=y9 (G:=G) (L:=t) k;refine dK (iE (n:=M.length) (λj v=>[(0,dJ wp),(13,v),(14,.int .i64 k),(66,.agg #[.int .u8 (t 0),.int .u8 (t 1),.int .u8 (t 2),.int .u8 (t 3),.int .u8 (t 4),.int .u8 (t 5)]),(67,.int .i64 k),(80,.slice a M.length c),(81,.int .i64 M.length),(82,.int .i64 j)]) (λj v z=>jb n0 w z/\kS (λx=>A x\/dw v x) mk ms G z/\mz w.heap.size z v (tv G t k++(M.take j).map λl=>(k,l))/\lE (λx=>A x\/dw v x) z a M) v ⟨⟨rfl,rfl,rfl,rfl,rfl,rfl,rfl,rfl,trivial⟩,M8,m8.2 ab,by simpa using ac.hH m8.1,ai⟩ ?_ ?_ ?_);rintro j v w9 J hJ;exact eg ⟨rfl,rfl,⟨rfl,rfl,rfl,rfl,rfl,rfl,rfl,rfl,trivial⟩,hJ⟩;rintro j v w9 J ⟨m9,ax,ad,aS⟩;obtain⟨bb,oo,a',c',_,rfl,hc,bk,_⟩:=aS j J;refine eP j J (dl hc (dt (lQ bk.n (by have:=aR.2 _ (fc J);omega)) λu bC hu=>?_));obtain⟨T,hu⟩:=hu;obtain⟨ua,uc,rfl,_,_⟩:=hu.row;have s9:=m9.size;have bD:=T.size;refine eJ (.agg #[.int .i64 k,.slice ua M[j].length uc]) (eQ [.int .i64 k,.slice ua M[j].length uc] 29 λaT nb N bE f=>?_);have bl:jb n0 w aT:=m9.trans ((T.trans N).hH n0);have aj:=(ad.ext T).ext N;have U:=(ax.ext T).ext N;have aU:lE (λx=>A x\/dw v x) aT (some ⟨bb,oo,none⟩) M:=aS.hH (n0:=0) ((T.trans N).hH 0);refine Pc (p:=(k,M[j])) aj (by have:=N.size;omega) (dM.ext (hu.low (by omega)) N) f (by simp;omega) λv' bF g1 g2 g3 g4=>dD ⟨v',⟨rfl,rfl,rfl,rfl,rfl,rfl,rfl,rfl,trivial⟩,?_,?_,?_,?_⟩;obtain⟨us,_,q2,_⟩:=aj;exact bl.iZ g3 q2 (dC _);exact U.go (λb f=>f.elim (λf=>.inl (.inl f)) λf=>(g4 b f).imp .inr id) (λb o v f hc=>g3.fh hc λhf=>f (.inr hf)) λb o f ho=>g3.fU ho λhf=>by rcases f with rfl|rfl;exact U.ak (.inr hf);exact U.asm (.inr hf)
  rw[jM J,vB,<-List.append_assoc];exact g1;exact aU.go (λb f=>f.elim (λf=>.inl (.inl f)) λf=>(g4 b f).imp .inr id) λb o v f hc=>g3.fh hc λhf=>f (.inr hf);rintro v w9 ⟨m9,ax,ad,_⟩;rw[qx]at ad;refine dD ⟨v,⟨rfl,rfl,rfl,rfl,trivial⟩,m9,ax,?_⟩;rw[wm,<-aw];exact ad;rintro v w7 ⟨m7,ab,ac⟩;exact .inl ⟨_,rfl,⟨m7,λ_=>ab.fewer λb f=>.inl f⟩,_,rfl,ac⟩
def nQ{b:Type}(a:b->Nat)(es:List b):Nat->List b
 |0=>es
 |j+1=>match es[j+1]?,es[j]? with
  |some x,some y=>if a x<a y then nQ a ((es.set (j+1) y).set j x) j else es
  |_,_=>es
def lS{b:Type}(a:b->Nat)(es:List b):Nat->List b
 |0=>es
 |k+1=>nQ a (lS a es k) (k+1)
def pm{a:Type}(b:a->Nat)(es:List a):List a:=lS b es (es.length-1)
theorem AS{b:Type}(a:b->Nat):∀(j:Nat) (es:List b),(nQ a es j).length=es.length
 |0,es=>rfl
 |j+1,es=>by simp only[nQ];split;split;rw[AS a j];simp;rfl;rfl
theorem pU{b:Type}(a:b->Nat)(es:List b):∀k,(lS a es k).length=es.length
 |0=>rfl
 |k+1=>by simp only[lS];rw[AS,pU a es k]
theorem AT{d:Type}(c:d->Nat):∀(j:Nat) (es:List d) (x:d),x∈nQ c es j->x∈es
 |0,es,x,h=>h
 |j+1,es,x,h=>by simp only[nQ]at h;split at h;rename_i a b e f;split at h;have:=AT c j _ x h;rcases tI this with h|rfl;rcases tI h with h|rfl;exact h;exact vD f;exact vD e;exact h;exact h
theorem tw{b:Type}(a:b->Nat)(es:List b):∀(k:Nat) (x:b),x∈lS a es k->x∈es
 |0,x,h=>h
 |k+1,x,h=>tw a es k x (AT a _ _ x h)
theorem AU{c d:Type}(b:c->Nat)(a:d->Nat)(f:c->d)(e:∀x,a (f x)=b x):∀(j:Nat) (es:List c),nQ a (es.map f) j=(nQ b es j).map f
 |0,es=>rfl
 |j+1,es=>by
  simp only[nQ,sn];cases g:es[j+1]? with
  |none=>rfl
  |some x=>
   cases h:es[j]? with
   |none=>rfl
   |some y=>
    simp only[kG,e];split;rw[<-AU b a f e j];simp;rfl
theorem zd{c d:Type}(b:c->Nat)(a:d->Nat)(f:c->d)(e:∀x,a (f x)=b x)(es:List c):∀k,lS a (es.map f) k=(lS b es k).map f
 |0=>rfl
 |k+1=>by simp only[lS];rw[zd b a f e es k,AU b a f e]
def JF{c d:Type}(b:c->Nat)(a:d->Nat)(f:c->d)(e:∀x,a (f x)=b x)(es:List c):pm a (es.map f)=(pm b es).map f:=by unfold pm;rw[xo,zd b a f e]
structure El where
 s:Nat
 a:Option Addr
 c:Nat
 l:List Nat
def uL(e:El):List di:=[.int .i64 e.s,.slice e.a e.l.length e.c]
structure po(sb:Nat)(es:List El)(w:dg):Prop where
 out:∃cs,w.heap[sb]? =some (.cells cs 29)/\es.length*2<=cs.size/\∀k (h:k<es.length) j v,(uL es[k])[j]? =some v->cs[k*2+j]? =some v
section
variable{w:dg}{sb:Nat}{es:List El}
def po.ext{a:dg}(h:po sb es w)(e:Ext w a):po sb es a:=by obtain⟨b,c,d⟩:=h.out;exact⟨b,e.at_ c,d⟩
def po.keep{a:dg}{F:Nat->Prop}(h:po sb es w)(k:dP F w a)(b:¬F sb):po sb es a:=by obtain⟨c,d,e⟩:=h.out;exact⟨c,k.fU d b,e⟩
def po.cell(h:po sb es w)(k:Nat)(a:k<es.length):∀j v,(uL es[k])[j]? =some v->w.cell? ⟨sb,0+k*2+j,none⟩=some v:=λj v b=>by obtain⟨e,c,f,d⟩:=h.out;exact dj c (by rw[dB];exact d k a j v b)
def Qt{s:dg->Prop}(h:po sb es w)(k:Nat)(z:k<es.length)(e:El)(n:∀a,dP (λx=>x=sb) w a->po sb (es.set k e) a->s a):Dt V.prog (Instr.storeAt 29 (.pointer (some ⟨sb,0+k*2,none⟩)) (.agg (uL e).toArray)) w s:=by
 obtain⟨o,p,q,r⟩:=h.out;have A:k*2+2<=o.size:=by have:=qy 2 (show k+1<=es.length by omega);omega
 refine jj p (by show 0+k*2+2<=_;omega) (λa t c=>n a t ⟨_,c,by rw[og];simpa using q,λi v j u b=>?_⟩) (gG (l:=uL e) rfl);have y:j<2:=(je.1 b).1;rw[nK _ _ _ _ (by show 0+k*2+2<=_;omega)];have d:(Value.agg (uL e).toArray).cells.toList=uL e:=rfl;rw[d];have f:(uL e).length=2:=rfl;rw[f];have g:i<es.length:=by simpa using v
 by_cases m:i=k;subst m;rw[List.getElem_set_self]at b;rw[dr (by omega),show i*2+j-(0+i*2)=j by omega];exact b;rw[List.getElem_set_ne (by omega)]at b;rw[dp (by omega)];exact r i g j u b
end
def Pg(s t:Nat)(a b:Option Addr)(l g c h:Nat)(w:dg)(r:s<=1000000)(u:t<=1000000):Calls V.prog 157 #[.agg #[.int .i64 s,.slice a l c],.agg #[.int .i64 t,.slice b g h]] w (gh λv k=>v=.int .i64 ((s:Int)-t)/\Ext w k):=by refine go V.func157 Tryz.ntmps157 ?_;refine fB λm n o p e=>fB λq f i j d=>?_;have e:m.heap[n]? =some (.cells #[.int .i64 s,.slice a l c] 29):=e;have d:q.heap[f]? =some (.cells #[.int .i64 t,.slice b g h] 29):=d;exact dl (dj (i.at_ e) rfl) (dl (dj d rfl) (gK ⟨_,rfl,rfl,o.trans i⟩))
def Gv:di:=.func (.func 157) #[] #[]
def AV{f c:Nat}{g:List El}(h:po f g w)(hn:0<g.length)(aa:g.length<=1000)(hs:∀e∈g,e.s<=1000000):
 Calls V.prog 200 #[.slice (some ⟨f,0,none⟩) g.length c,.int .i64 0,.int .i64 g.length,Gv] w (gh λv A=>dP (λx=>x=f) w A/\po f (pm El.s g) A):=by
 refine go V.func200 Tryz.ntmps200 ?_;refine dD ?_;refine gE (g.length-1) (λk (_:Unit)=>[(0,.slice (some ⟨f,0,none⟩) g.length c),(1,.int .i64 0),(2,.int .i64 g.length),(3,Gv),(8,.int .i64 (k+1:Nat))]) (λk _ A=>dP (λx=>x=f) w A/\po f (lS El.s g k) A) () ⟨⟨rfl,rfl,rfl,rfl,rfl,trivial⟩,dP.refl _ _,h⟩ ?_;rintro k _ w1 hk ⟨k1,R⟩;have L:(lS El.s g k).length=g.length:=pU _ _ _;refine eg ⟨λM=>?_,λB=>?_⟩;have M:k+1<g.length:=by have:=eA M;omega
 obtain⟨r,u⟩:∃r,r=lS El.s g k:=⟨_,rfl⟩;have C:∀x∈r,x.s<=1000000:=λx K=>hs x (by rw[u]at K;exact tw _ _ _ _ K);rw[<-u]at R L;refine gE (k+1) (λt (d:List El)=>[(0,.slice (some ⟨f,0,none⟩) g.length c),(1,.int .i64 0),(2,.int .i64 g.length),(3,Gv),(8,.int .i64 (k+1:Nat)),(9,.int .i64 (k+1-t:Nat))]) (λt d A=>dP (λx=>x=f) w A/\po f d A/\d.length=g.length/\(∀x∈d,x.s<=1000000)/\nQ El.s d (k+1-t)=nQ El.s r (k+1)) r ⟨⟨rfl,rfl,rfl,rfl,rfl,rfl,trivial⟩,k1,R,L,C,rfl⟩ ?_;rintro t d w2 ht ⟨k2,Q,S,D,E⟩;obtain⟨j,hj⟩:∃j,j=k+1-t:=⟨_,rfl⟩;rw[<-hj]at E⊢;have stop:∀o,Ext w2 o->nQ El.s d j=d->dP (λx=>x=f) w o/\po f (lS El.s g (k+1)) o:=λo n T=>by refine⟨k2.trans (n.keep λ_=>False) (λ_ _ h=>h) λ_ _ h=>h.elim,?_⟩;simp only[lS];rw[<-u,<-E,T];exact Q.ext n
 refine dT dO (Az ⟨λp=>?_,λp=>?_⟩);have p:0<j:=by have:=eA p;omega
 obtain⟨i,rfl⟩:∃i,j=i+1:=⟨j-1,by omega⟩;have F:i+1<d.length:=by omega
 have G:i<d.length:=by omega
 obtain⟨x,K⟩:∃x,x=d[i+1]:=⟨_,rfl⟩;obtain⟨y,U⟩:∃y,y=d[i]:=⟨_,rfl⟩;have W:=Q.cell (i+1) F;have X:=Q.cell i G;rw[<-K]at W;rw[<-U]at X;have N:x.s<=1000000:=D x (by rw[K];exact fc _);have O:y.s<=1000000:=D y (by rw[U];exact fc _);have l:nQ El.s d (i+1)=if x.s<y.s then nQ El.s ((d.set (i+1) y).set i x) i else d:=by simp only[nQ];rw[fI F,fI G,<-K,<-U]
 refine jU (i+1) 2 (by omega) (dx (.agg (uL x).toArray) (λo n=>eB (vs:=uL x) (λm v H=>n.cell (W m v H)) ⟨rfl,Ext.refl _⟩) (rh (jU i 2 (by omega) (dx (.agg (uL y).toArray) (λo n=>eB (vs:=uL y) (λm v H=>n.cell (X m v H)) ⟨rfl,Ext.refl _⟩) (kZ (.int .i64 ((x.s:Int)-y.s)) (λo n=>Pg x.s y.s _ _ _ _ _ _ o N O) (LJ λo n=>⟨λI=>?_,λI=>?_⟩))) (by omega))));have I:x.s<y.s:=by have:=eA I;omega
 rw[dr I]at l;have h3:=Q.ext n;have k3:dP (λx=>x=f) w o:=k2.trans (n.keep λ_=>False) (λ_ _ h=>h) λ_ _ h=>h.elim;refine io 15 dO (im (λx=>x=f)) (λa b h=>h.keep _) ?_;refine .exact (.int .i64 ((i+1:Nat)-1)) (λq _=>gK ⟨rfl,Ext.refl _⟩) (.exact (.int .i64 ((i+1:Nat)-1)) (λq _=>gK ⟨rfl,Ext.refl _⟩) (.exact (.pointer (some ⟨f,0+i*2,none⟩)) (λq _=>fl i 2 (by omega) ⟨rfl,Ext.refl _⟩ (by omega)) ?_));refine .yq rfl (.agg (uL y).toArray) (λq J=>eB (vs:=uL y) (λm v H=>J.cell (n.cell (X m v H))) ⟨rfl,Ext.refl _⟩) (.exact (.pointer (some ⟨f,0+(i+1)*2,none⟩)) (λq _=>fl (i+1) 2 (by omega) ⟨rfl,Ext.refl _⟩) (.yq rfl (.agg (uL x).toArray) (λq J=>eB (vs:=uL x) (λm v H=>J.cell (n.cell (W m v H))) ⟨rfl,Ext.refl _⟩) (.exact (.pointer (some ⟨f,0+(i+1)*2,none⟩)) (λq _=>fl (i+1) 2 (by omega) ⟨rfl,Ext.refl _⟩) ?_)));refine .vQ (λ_ q=>po f (d.set (i+1) y) q) (λ_ a b h e=>h.ext e) (λq J=>Qt (h3.ext J) (i+1) F y λw5 Y Z=>⟨Z,Y⟩) ?_;refine .exact (.pointer (some ⟨f,0+i*2,none⟩)) (λq _=>fl i 2 (by omega) ⟨rfl,Ext.refl _⟩ (by omega)) ?_;intro q J hJ;have hJ:po f (d.set (i+1) y) q:=hJ;refine Qt hJ i (by simpa using G) x λw5 Y Z=>gK ⟨by omega,(d.set (i+1) y).set i x,⟨rfl,rfl,rfl,rfl,rfl,?_,trivial⟩,(k3.trans J (λ_ _ h=>h) λ_ _ h=>h).trans Y (λ_ _ h=>h) λ_ _ h=>h,Z,by simpa using S,λz P=>?_,?_⟩;show some (Value.int .i64 (((i+1:Nat):Int)-1))=some (.int .i64 ((k+1-(t+1):Nat)));rw[show((i+1:Nat):Int)-1=((k+1-(t+1):Nat):Int) by omega];rcases tI P with P|rfl;rcases tI P with P|rfl;exact D z P;exact O;exact N;rw[show k+1-(t+1)=i by omega,<-l,E];have I:¬x.s<y.s:=by have:=eH I;omega
 rw[dp I]at l;exact dD ⟨by omega,(),⟨rfl,rfl,rfl,rfl,rfl,trivial⟩,stop o n l⟩;have p:j=0:=by have:=eH p;omega
 subst p;exactλo n=>mX rfl (dD ⟨by omega,(),⟨rfl,rfl,rfl,rfl,rfl,trivial⟩,stop o n rfl⟩);have B:k=g.length-1:=by have:=eH B;omega
 subst B;exact⟨_,rfl,k1,R⟩
def tx(e:Nat)(w:dg)(v:di)(b:List El):Prop:=(b=[]/\∃a c,v=.slice a 0 c)\/∃d c,e<=d/\v=.slice (some ⟨d,0,none⟩) b.length c/\po d b w
def rC(v:di)(a:Nat)(w:dg)(c:a<=1000):Calls V.prog 200 #[v,.int .i64 a,.int .i64 a,Gv] w (gh λv b=>b=w):=by refine go V.func200 Tryz.ntmps200 ?_;refine dD ?_;refine gE 0 (λk (_:Unit)=>[(2,.int .i64 a),(8,.int .i64 ((a:Int)+1))]) (λk _ b=>b=w) () ⟨⟨rfl,rfl,trivial⟩,rfl⟩ ?_;rintro k _ b d rfl;exact eg (mX (by simp;omega) ⟨_,rfl,rfl⟩)
def Gw{d:List El}(h:tx m w x d)(A:d.length<=20)(B:∀e∈d,e.s<=1000000):
 Calls V.prog 184 #[x,.int .i64 d.length,Gv] w (gh λ_ b=>dP (λg=>m<=g) w b/\tx m b x (pm El.s d)):=by
 refine go V.func184 Tryz.ntmps184 ?_;have n:(pm El.s d).length=d.length:=pU _ _ _;refine gE 1 (λk (_:Unit)=>[(0,x),(1,.int .i64 d.length),(2,Gv),(6,.int .i64 20),(7,.int .i64 (20*k:Nat)),(8,.int .i64 (20*k+20:Nat))]) (λk _ b=>dP (λg=>m<=g) w b/\(k=0->tx m b x d)/\(k=1->d.length=20/\tx m b x (pm El.s d))) () ⟨⟨rfl,rfl,rfl,rfl,rfl,rfl,trivial⟩,dP.refl _ _,λ_=>h,λh=>by omega⟩ ?_;rintro k _ r q ⟨o,C,t⟩;refine vS ⟨λf=>?_,λf=>?_⟩;have f:20*k+20<=d.length:=by have:=eA f;omega
 obtain rfl:k=0:=by omega
 rcases C rfl with⟨rfl,_⟩|⟨p,c,u,rfl,v⟩;simp at f;have j:d.length=20:=by omega
 have D:=AV (c:=c) v (by omega) (by omega) B;rw[j]at D⊢;refine dt D ?_;rintro _ i ⟨y,z⟩;refine dD ⟨by omega,(),⟨rfl,rfl,rfl,rfl,rfl,rfl,trivial⟩,o.trans y (λ_ _ h=>h) λg _ (E:g=p)=>by omega,λh=>by omega,λ_=>⟨rfl,.inr ⟨p,c,u,by rw[n,j],z⟩⟩⟩;have f:¬20*k+20<=d.length:=by have:=eH f;omega
 have F:∀{Q:QW} {G:L} {i:dg},dP (λg=>m<=g) w i/\tx m i x (pm El.s d)->(∀l b,dP (λg=>m<=g) w b/\tx m b x (pm El.s d)->Q .normal l b)->True:=λ_ _=>trivial;obtain rfl|rfl:k=0\/k=1:=by omega
 rcases C rfl with⟨rfl,a,c,rfl⟩|⟨p,c,u,rfl,v⟩;refine dt (rC _ 0 r (by omega)) ?_;rintro _ i rfl;refine gE 0 (λk (_:Unit)=>[(1,.int .i64 0),(6,.int .i64 20)]) (λk _ b=>b=i) () ⟨⟨rfl,rfl,trivial⟩,rfl⟩ ?_;rintro k _ b q rfl;exact eg (mX rfl ⟨_,rfl,o,.inl ⟨rfl,a,c,rfl⟩⟩);rcases n4 d.length with j|j;obtain rfl:=nZ j;refine dt (rC _ 0 r (by omega)) ?_;rintro _ i rfl;refine gE 0 (λk (_:Unit)=>[(1,.int .i64 0),(6,.int .i64 20)]) (λk _ b=>b=i) () ⟨⟨rfl,rfl,trivial⟩,rfl⟩ ?_;rintro k _ b q rfl;exact eg (mX rfl ⟨_,rfl,o,.inl ⟨rfl,_,c,rfl⟩⟩);refine dt (AV (c:=c) v j (by omega) B) ?_;rintro _ i ⟨y,z⟩;refine gE 0 (λk (_:Unit)=>[(1,.int .i64 d.length),(6,.int .i64 20)]) (λk _ b=>b=i) () ⟨⟨rfl,rfl,trivial⟩,rfl⟩ ?_;rintro k _ b q rfl;exact eg (mX (by simp;omega) ⟨_,rfl,o.trans y (λ_ _ h=>h) λg _ (E:g=p)=>by omega,.inr ⟨p,c,u,by rw[n],z⟩⟩);obtain⟨j,t⟩:=t rfl;rw[j];refine dt (rC _ 20 r (by omega)) ?_;rintro _ i rfl;refine gE 0 (λk (_:Unit)=>[(1,.int .i64 20),(6,.int .i64 20)]) (λk _ b=>b=i) () ⟨⟨rfl,rfl,trivial⟩,rfl⟩ ?_;rintro k _ b q rfl;exact eg (mX rfl ⟨_,rfl,o,t⟩)
def tx.v_{b:List El}(h:tx m w x b):∃a c,x=.slice a b.length c:=by rcases h with⟨rfl,a,c,rfl⟩|⟨d,c,_,rfl,_⟩;exact⟨a,c,rfl⟩;exact⟨_,c,rfl⟩
def ML{d:List El}(h:tx m w x d)(b:d.length<=20)(g:∀e∈d,e.s<=1000000):
 Calls V.prog 156 #[x,Gv] w (gh λ_ f=>dP (λi=>m<=i) w f/\tx m f x (pm El.s d)):=by
 obtain⟨a,c,rfl⟩:=h.v_;refine go V.func156 Tryz.ntmps156 ?_;refine dK (dt (Gw h b g) ?_);rintro _ k j;exact⟨_,rfl,j⟩
def VO(x:Sx):di:=.agg (mw x).toArray
def Gx{wp gp mk ms wb:Nat}{e:List Sx}(h:lz wp gp mk ms H e I w)(f:w.heap[wb]? =some (.cells #[dJ wp] 133))(x:Sx):Calls V.prog 160 #[VO x,dJ wb] w (gh λv i=>v=.bool (!iq H.tries x)/\Ext w i):=by obtain⟨p,q,k,r,s,t⟩:=h.at_;refine go V.func160 Tryz.ntmps160 ?_;refine fB λl m c n a=>?_;have a:l.heap[m]? =some (.cells (mw x).toArray 166):=a;refine dT dO (dI (dj (c.at_ f) rfl) (dI (c.cell k) (dx (VO x) (λd b=>eB (vs:=mw x) (λj v o=>by rw[dB];exact dj (b.at_ a) (by simpa using o)) ⟨rfl,Ext.refl _⟩) (kZ (.bool (iq H.tries x)) (λd b=>xd (h.g.ext (c.trans b)) x) (pH λd b=>⟨_,rfl,rfl,c.trans b⟩)))))
def pV(p:Sx->Bool):List Sx->Nat->Int
 |[],_=> -1
 |y::r,i=>if p y then i else pV p r (i+1)
def ED(p:Sx->Bool)(l:List Sx)(k:Nat)(a:k<l.length):pV p (l.drop k) k=if p l[k]then(k:Int)else pV p (l.drop (k+1)) (k+1):=by rw[qu a];rfl
theorem zf(p:Sx->Bool):∀(l:List Sx) (i:Nat),decide (0<=pV p l i)=l.any p
 |[],_=>rfl
 |y::r,i=>by
  simp only[pV,List.any_cons];by_cases h:p y=true;simp[h];have h:p y=false:=by simpa using h
  simpa[h]using zf p r (i+1)
def JG{wp gp mk ms wb:Nat}{q:List Sx}(h:lz wp gp mk ms H q I w)(r:w.heap[wb]? =some (.cells #[dJ wp] 133)){d:List Sx}{c:Nat}(s:tn w a d)(m:d.length<=100000):
 Calls V.prog 159 #[.slice a d.length c,.func (.func 160) #[] #[dJ wb]] w (gh λv g=>v=.bool (d.any λx=>!iq H.tries x)/\Ext w g):=by
 have i:Calls V.prog 185 #[.slice a d.length c,.func (.func 160) #[] #[dJ wb]] w (gh λv g=>v=.int .i64 (pV (λx=>!iq H.tries x) d 0)/\Ext w g):=by refine go V.func185 Tryz.ntmps185 ?_;refine dK (eZ (n:=d.length) (λk=>[(0,.slice a d.length c),(1,.func (.func 160) #[] #[dJ wb]),(7,.int .i64 d.length),(8,.int .i64 k)]) (λk g=>Ext w g/\pV (λx=>!iq H.tries x) d 0=pV (λx=>!iq H.tries x) (d.drop k) k) ⟨⟨rfl,rfl,rfl,rfl,trivial⟩,Ext.refl _,rfl⟩ ?_ ?_ ?_);rintro k l j t;exact eg ⟨rfl,rfl,⟨rfl,rfl,rfl,rfl,trivial⟩,t⟩;rintro k l j ⟨e,f⟩;obtain⟨b,o,rfl,u⟩:=(s.ext e) k j;rw[ED _ _ _ j]at f;refine fl k 8 j (eB (vs:=mw d[k]) u (eD (v0:=.bool (!iq H.tries d[k])) (Gx (h.ext e) (e.at_ r) d[k]) λA p=>⟨λy=>?_,λz=>?_⟩));rw[dr y]at f;exact⟨_,rfl,by rw[f];rfl,e.trans p⟩;rw[dp (by rw[z];simp)]at f;exact dD ⟨⟨rfl,rfl,rfl,rfl,trivial⟩,e.trans p,f⟩;rintro l ⟨e,f⟩;exact⟨_,rfl,by rw[f];simp[pV],e⟩
 refine go V.func159 Tryz.ntmps159 ?_;exact eD i λl e=>uh ⟨_,rfl,by rw[<-zf _ d 0];rfl,e⟩
end Go.Proofs.W
variable{S:dg->Prop}
namespace Go.Proofs.W
open Go.RowKit
def iP(T:Int)(b:Nat):List Sx->List Nat->Option (List Sx)
 |a,[]=>some a
 |a,d::r=>if pf (a.getD d rp) (b/2)||iq T (a.getD d rp)then none else iP T b (a.set d (gN (a.getD d rp) b false)) r
def JH(f:Nat->Int)(s:Nat)(v:Int):Nat->Int:=λx=>if x=s then v else f x
def jo(G:Gd)(b:Int):List Sx->(Nat->Int)->List (Nat×List Nat)->Option (List Sx)
 |c,_,[]=>some c
 |c,a,p::r=>if b<a p.1+1\/G.minutes<nL G p.2 then none else match iP G.tries p.1 c p.2 with
  |none=>none
  |some d=>jo G b d (JH a p.1 (a p.1+1)) r
def rX(G:Gd)(c:List Sx)(a:Int)(d:List (Nat×List Nat)):Bool:=match jo G a c (λ_=>0) (pm Prod.fst d)with
 |none=>false
 |some b=>!b.any λx=>!iq G.tries x
def wO(T:Int)(b:Nat)(a:List Sx)(l:List Nat)(k:Nat)(c:k<l.length):iP T b a (l.drop k)=if pf (a.getD l[k] rp) (b/2)||iq T (a.getD l[k] rp)then none else iP T b (a.set l[k] (gN (a.getD l[k] rp) b false)) (l.drop (k+1)):=by rw[qu c];rfl
def wP(G:Gd)(b:Int)(e:List Sx)(a:Nat->Int)(c:List (Nat×List Nat))(k:Nat)(f:k<c.length):jo G b e a (c.drop k)=if b<a c[k].1+1\/G.minutes<nL G c[k].2 then none else match iP G.tries c[k].1 e c[k].2 with
 |none=>none
 |some d=>jo G b d (JH a c[k].1 (a c[k].1+1)) (c.drop (k+1)):=by
 rw[qu f];rfl
def tE.le{x:Sx}(h:tE k x)(d:k<=m):tE m x:=by obtain⟨a,b,c⟩:=h;refine⟨⟨a.1,by omega⟩,⟨b.1,by omega⟩,c.1,by omega⟩
theorem wn{c:Type}{P:Nat->c->Prop}:∀(n:Nat),(∀k,k<n->∃x,P k x)->∃l:List c,l.length=n/\∀k (h:k<l.length),P k l[k]
 |0,_=>⟨[],rfl,λk b=>by simp at b⟩
 |n+1,h=>by
  obtain⟨l,d,e⟩:=wn n λk b=>h k (by omega);obtain⟨x,f⟩:=h n (by omega);refine⟨l++[x],by simp[d],λk b=>?_⟩;rcases fO k l.length with a|g;rw[oR a];exact e k a;obtain rfl:k=n:=by simp at b;omega
  have:(l++[x])[k]=x:=by simp[d]
  rw[this];exact f
theorem vw:∀a:List El,(a.flatMap uL).length=a.length*2
 |[]=>rfl
 |x::r=>by have:=vw r;simp[uL,this];omega
theorem vx:∀(a:List El) (k:Nat) (b:k<a.length) (j:Nat) (v:di),(uL a[k])[j]? =some v->(a.flatMap uL)[k*2+j]? =some v
 |x::r,0,_,j,v,h=>by have c:j<(uL x).length:=(je.1 h).1;simp only[tG,Nat.zero_mul,dB];rw[oQ c];exact h
 |x::r,k+1,b,j,v,h=>by have d:=vx r k (by simpa using b) j v (by simpa using h);have e:(uL x).length=2:=rfl;simp only[tG];rw[qa (by omega),e,show(k+1)*2+j-2=k*2+j by omega];exact d
def JI(e:El):Nat×List Nat:=(e.s,e.l)
def vv.W5{f:List (Nat×List Nat)}(h:vv w a f):∃g:List El,g.map JI=f/\(∀e∈g,gi w e.a e.l/\e.l.length<=e.c)/\iu w a (g.flatMap uL):=by
 obtain⟨g,A,p⟩:=wn (P:=λk (e:El)=>∃(m:k<f.length),JI e=f[k]/\gi w e.a e.l/\e.l.length<=e.c/\∃b o,a=some ⟨b,o,none⟩/\∀j v,(uL e)[j]? =some v->w.cell? ⟨b,o+k*2+j,none⟩=some v) f.length λk m=>by
  obtain⟨b,o,B,C,q,s,D,E,F⟩:=h k m;refine⟨⟨f[k].1,B,C,f[k].2⟩,m,rfl,E,F,b,o,q,λj v d=>?_⟩;match j,d with
  |0,d=>cases d;exact s
  |1,d=>cases d;exact D
 refine⟨g,?_,λe G=>?_,?_⟩;apply List.ext_getElem;simpa using A;intro i n t;rw[List.getElem_map];exact(p i (by simpa using n)).2.1;obtain⟨i,H,rfl⟩:=List.getElem_of_mem G;obtain⟨_,_,q,s,_⟩:=p i H;exact⟨q,s⟩;rcases g with _|⟨x,r⟩;exact .inl rfl;obtain⟨_,_,_,_,b,o,rfl,_⟩:=p 0 (by simp);refine .inr ⟨b,o,rfl,λj u d=>?_⟩;have I:j<(x::r).length*2:=by rw[<-vw];exact(je.1 d).1
 have m:j/2<(x::r).length:=by omega
 obtain⟨_,_,_,_,J,K,e,L⟩:=p (j/2) m;obtain⟨rfl,rfl⟩:b=J/\o=K:=by injection e with e;injection e with M N;exact⟨M,N⟩
 have O:j%2<(uL (x::r)[j/2]).length:=by show j%2<2;omega
 have z:=fI O;have n:=vx (x::r) (j/2) m (j%2) _ z;have t:=L (j%2) _ z;have y:j/2*2+j%2=j:=by omega
 rw[y]at n;rw[d]at n;obtain rfl:=dH n;have:o+j/2*2+j%2=o+j:=by omega
 rw[this]at t;exact t
def vv.rl{a:List (Nat×List Nat)}(h:vv w none a):a.length=0:=by rcases a with _|⟨x,r⟩;rfl;obtain⟨b,o,_,_,e,_⟩:=h 0 (by simp);cases e
theorem vv.hH{n0:Nat}{c:List (Nat×List Nat)}(h:vv w a c)(e:jb n0 w t):vv t a c:=λk d=>by obtain⟨b,o,f,g,i,j,l,m,n⟩:=h k d;exact⟨b,o,f,g,i,e.cell j,e.cell l,m.hH e,n⟩
def EE{d:List El}{c:Nat}(m:iu w a (d.flatMap uL))(n:a=none->d.length=0)(f:d.length<=1000000):Calls V.prog 155 #[.slice a d.length c] w (gh λv h=>Ext w h/\tx w.heap.size h v d):=by refine(LY a d.length c (d.flatMap uL) w (vw d) n m (λu g=>?_) f).mono ?_;obtain⟨x,_,g⟩:=tH.1 g;simp[uL]at g;rcases g with rfl|rfl<;>rfl;rintro e h ⟨v,rfl,i,C,⟨o,rfl⟩|⟨b,p,q,r,rfl,s,t,y,D,z,E⟩⟩;exact⟨_,rfl,i,.inl ⟨nZ o,none,0,rfl⟩⟩;refine⟨_,rfl,i,.inr ⟨b,p,r,rfl,⟨q,s,?_,λk A j v B=>?_⟩⟩⟩;have:([.int .i64 0,.slice none 0 0]:List di).length=2:=rfl;rw[this]at t;have:=qy 2 y;omega;have l:=vx d k A j v B;rw[z _ (je.1 l).1];exact l
def Ph(a:Nat)(f:Nat->Int)(w:dg):Prop:=w.heap[a]? =some (.cells #[.int .i64 (f 0),.int .i64 (f 1),.int .i64 (f 2),.int .i64 (f 3),.int .i64 (f 4),.int .i64 (f 5)] 178)
def Ph.cell{f:Nat->Int}(h:Ph m f w)(a:s<6):w.cell? ⟨m,0+s,none⟩=some (.int .i64 (f s)):=by
 have:s=0\/s=1\/s=2\/s=3\/s=4\/s=5:=by omega
 rcases this with rfl|rfl|rfl|rfl|rfl|rfl<;>exact dj h rfl
def Rx{f:Nat->Int}(h:Ph m f w)(s:Nat)(v:Int)(e:s<6)(b:∀a,dP (λx=>x=m) w a->Ph m (JH f s v) a->S a):Dt V.prog (Instr.storeAt 3 (.pointer (some ⟨m,0+s,none⟩)) (.int .i64 v)) w S:=by
 have:s=0\/s=1\/s=2\/s=3\/s=4\/s=5:=by omega
 rcases this with rfl|rfl|rfl|rfl|rfl|rfl<;>exact ee h λa c d=>b a c (by unfold Ph;rw[d];rfl)
theorem tq.keep{a:List Sx}(h:tq m w x a)(k:dP A w t)(e:∀b,dw x b->¬A b):tq m t x a:=by rcases h with h|⟨d,c,f,rfl,g⟩;exact .inl h;exact .inr ⟨d,c,f,rfl,g.keep k (e d ⟨_,_,rfl⟩)⟩
theorem tx.keep{a:List El}(h:tx m w x a)(k:dP A w t)(e:∀b,dw x b->¬A b):tx m t x a:=by rcases h with h|⟨d,c,f,rfl,g⟩;exact .inl h;exact .inr ⟨d,c,f,rfl,g.keep k (e d ⟨_,_,rfl⟩)⟩
def tq.v_{b:List Sx}(h:tq m w x b):∃a c,x=.slice a b.length c:=by rcases h with⟨rfl,a,c,rfl⟩|⟨d,c,_,rfl,_⟩;exact⟨a,c,rfl⟩;exact⟨_,c,rfl⟩
def tq.UQ{b:List Sx}(h:tq m w x b):∃a c,x=.slice a b.length c/\tn w a b:=by rcases h with⟨rfl,a,c,rfl⟩|⟨f,c,_,rfl,d⟩;exact⟨a,c,rfl,λk e=>by simp at e⟩;exact⟨_,c,rfl,d.row⟩
def tq.blk{a:List Sx}(h:tq m w x a)(b:0<a.length)(d:dw x k):m<=k/\k<w.heap.size:=by rcases h with⟨rfl,_⟩|⟨g,c,e,rfl,f⟩;simp at b;obtain⟨i,q,_⟩:=f.out;have:=dG.lt_of_heap q;rw[mT (l':=0) (c':=0) d];exact⟨e,this⟩
def JJ{wp gp mk ms:Nat}{A:List Sx}{ak canv:Int}(h:lz wp gp mk ms H A ak w)(ba:∀x∈A,tE 100000 x){Y:List (Nat×List Nat)}{pc:Nat}(hr:vv w a Y)(bs:Y.length<=20)(aO:∀p∈Y,p.1<6/\p.2.length<=1000/\∀d∈p.2,d<A.length):
 Calls V.prog 109 #[dJ wp,.int .i64 canv,.slice a Y.length pc] w (gh λv y=>v=.bool (rX H A canv Y)/\Ext w y):=by
 have bb:=h.g.um;have h5:=bb.many;have bw:=h.len;obtain⟨es,al,bc,am⟩:=hr.W5;have Z:es.length=Y.length:=by rw[<-al];simp
 refine go V.func109 Tryz.ntmps109 ?_;refine fB λw1 wb e1 bx K=>?_;have K:w1.heap[wb]? =some (.cells #[dJ wp] 133):=K;have bz:=dG.lt_of_heap K;obtain⟨sa,sc,g1,g2,g3,g4⟩:=h.at_;refine dl (dj K rfl) (dl (e1.cell g2) (dt (ur (g4.ext e1) (by omega)) ?_));rintro dv w2 ⟨e2,aE⟩;refine fJ λw3 mb e3 bA ax=>?_;have bd:Ph mb (λ_=>0) w3:=ax;have bB:=dG.lt_of_heap ax;have s1:=e1.size;have s2:=e2.size;have aP:=(e1.trans e2).trans e3;have aQ:=EE (c:=pc) (w:=w3) (by rcases am with J|⟨b,o,q1,q2⟩;exact .inl J;exact .inr ⟨b,o,q1,λj u hj=>aP.cell (q2 j u hj)⟩) (λe=>by subst e;rw[Z];exact hr.rl) (by omega);rw[Z]at aQ;refine dt aQ ?_;rintro ev w4 ⟨e4,be⟩;have aR:∀e∈es,e.s<6:=λe he=>(aO (JI e) (by rw[<-al];exact List.mem_map_of_mem he)).1;refine dt (ML be (by omega) λe he=>by have:=aR e he;omega) ?_;rintro _ w5 ⟨k5,aF⟩;obtain⟨E,an⟩:∃E,E=pm El.s es:=⟨_,rfl⟩;rw[<-an]at aF;have bC:E.length=Y.length:=by rw[an,<-Z];exact pU _ _ _
 have bf:∀e∈E,e∈es:=λe he=>tw _ _ _ _ (by rw[an]at he;exact he);have bg:pm Prod.fst Y=E.map JI:=by rw[an,<-al];exact JF El.s Prod.fst JI (λx=>rfl) es
 obtain⟨ea,ec,rfl⟩:=aF.v_;have ao:Ext w3 w5:=e4.HZ k5 λb hb=>hb;have E5:=aP.trans ao;obtain⟨da,dc,rfl⟩:=aE.v_;have ay:∀b,0<A.length->dw (.slice da A.length dc) b->w1.heap.size<=b/\b<w2.heap.size:=λb J hb=>aE.blk J hb
 have aa:rX H A canv Y=match jo H canv A (λ_=>0) (E.map JI)with
  |none=>false
  |some bh=>!bh.any λx=>!iq H.tries x:=by unfold rX;rw[bg]<;>rfl
 have s3:=e3.size;have s4:=e4.size;have s5:=k5.size;refine dK ?_
 refine iE (n:=E.length) (λk (st:List Sx×(Nat->Int))=>[(1,.int .i64 canv),(3,dJ wb),(7,.slice da A.length dc),(8,dJ mb),(23,.slice ea E.length ec),(24,.int .i64 E.length),(25,.int .i64 k)])
  (λk st y=>Ext w y/\w5.heap.size<=y.heap.size/\y.heap[wb]? =some (.cells #[dJ wp] 133)/\tq w1.heap.size y (.slice da A.length dc) st.1/\Ph mb st.2 y/\tx w3.heap.size y (.slice ea E.length ec) E/\st.1.length=A.length/\(∀x∈st.1,tE (100000+1000*k) x)/\(∀s,0<=st.2 s/\st.2 s<=k)/\jo H canv A (λ_=>0) (E.map JI)=jo H canv st.1 st.2 ((E.map JI).drop k))
  (A,λ_=>0) ⟨⟨rfl,rfl,rfl,rfl,rfl,rfl,rfl,trivial⟩,E5,dC _,((e2.trans e3).trans ao).at_ K,aE.keep ((e3.trans ao).keep λ_=>False) (λ_ _ h=>h),ao.at_ bd,aF,rfl,ba,λs=>by simp,rfl⟩ ?_ ?_ ?_
 rintro k st w6 hk hJ;exact eg ⟨rfl,rfl,⟨rfl,rfl,rfl,rfl,rfl,rfl,rfl,trivial⟩,hJ⟩;rintro k ⟨ys,t⟩ w6 hk ⟨E6,s6,ab,ac,aG,aS,R,aH,L,f⟩;simp only at ac aG R aH L f;rcases aS with⟨h0,_⟩|⟨eb,bD,bi,M,aI⟩;rw[h0]at hk;simp at hk;injection M with M _ ad;subst M;subst ad;obtain⟨e,he⟩:∃e,e=E[k]:=⟨_,rfl⟩;have N:e∈es:=bf e (by rw[he];exact fc _);have aT:=aI.cell k hk;rw[<-he]at aT;have B:=aR e N;obtain⟨aU,bE⟩:=bc e N;obtain⟨_,aV,ap⟩:=aO (JI e) (by rw[<-al];exact List.mem_map_of_mem N);have aV:e.l.length<=1000:=aV;have ap:∀d∈e.l,d<A.length:=ap;have bj:k<(E.map JI).length:=by simpa using hk
 rw[wP H canv ys t _ k bj]at f;have bk:(E.map JI)[k]=(e.s,e.l):=by rw[List.getElem_map,<-he];rfl
 rw[bk]at f;simp only at f;refine fl k 2 hk (eB (vs:=uL e) aT (fJ λw7 xb e7 aW aX=>ee aX λw8 k8 aq=>?_));have aq:w8.heap[xb]? =some (.cells #[.int .i64 e.s,.slice e.a e.l.length e.c] 29):=aq;have S:Ext w6 w8:=e7.dz k8 aW;have bF:eb<w6.heap.size:=by obtain⟨cs,q,_⟩:=aI.out;exact dG.lt_of_heap q
 have aY:Ph mb t w8:=S.at_ aG;refine dl (dj aq rfl) (tj e.s 6 B (dl (aY.cell B) (dD (tj e.s 6 B (Rx aY e.s (t e.s+1) B λw9 k9 aJ=>?_)) (by have:=L e.s;omega))));have E9:Ext w w9:=(E6.trans S).dz k9 (by omega);have ae:w9.heap[wb]? =some (.cells #[dJ wp] 133):=k9.fU (S.at_ ab) (by omega);have aK:w9.heap[xb]? =some (.cells #[.int .i64 e.s,.slice e.a e.l.length e.c] 29):=k9.fU aq (by omega);have bl:∀b,0<A.length->dw (.slice da A.length dc) b->¬b=mb:=λb J hb=>by have:=ay b J hb;omega
 have bm:tq w1.heap.size w9 (.slice da A.length dc) ys:=by rcases n4 A.length with J|J;have hy:ys=[]:=nZ (R.trans J);rw[hy,J];exact .inl ⟨rfl,_,_,rfl⟩;exact(ac.keep (S.keep λ_=>False) λ_ _ h=>h).keep k9 λb hb=>bl b J hb
 have bn:po eb E w9:=(aI.ext S).keep k9 (by omega);have aL:=h.ext E9;obtain⟨bG,bH,z1,z2,z3,z4⟩:=aL.at_;obtain⟨r,G⟩:∃r,r=JH t e.s (t e.s+1):=⟨_,rfl⟩;rw[<-G]at aJ f;have bo:r e.s=t e.s+1:=by rw[G];unfold JH;rw[dr rfl]
 have aZ:∀s,0<=r s/\r s<=(k+1:Nat):=λs=>by rw[G];unfold JH;have:=L s;have:=L e.s;split<;>omega
 have s9:=S.size;have bI:=k9.size;have a0:∀y,Ext w9 y->jo H canv A (λ_=>0) (E.map JI)=none->∃v,Ending.returned (one [.bool false])=.returned v/\v=.bool (rX H A canv Y)/\Ext w y:=λy e' hn=>⟨_,rfl,by rw[aa,hn];rfl,E9.trans e'⟩;have a1:=aJ.cell B;rw[bo]at a1;refine dT dO (dI (dj aK rfl) (pI e.s 6 B (dI a1 (Az ⟨λO=>?_,λO=>?_⟩))));have O:canv<t e.s+1:=eA O;exactλaf z=>ki rfl (a0 af z (by rw[f,dr (.inl O)]));have O:¬canv<t e.s+1:=eH O;refine dI (dj ae rfl) (dI z1 (dI (dj aK rfl) (kZ (.int .i64 (nL H e.l)) (λaf z=>Bz (aL.g.ext z) (λd hd=>by have:=ap d hd;omega) (by omega) ((aU.ext E9).ext z)) (dI (dj ae rfl) (dI z1 (dI aL.g.c3 (Az λaf z=>⟨λC=>?_,λC=>?_⟩)))))));have C:H.minutes<nL H e.l:=eA C;exact a0 af z (by rw[f,dr (.inr C)]);have C:¬H.minutes<nL H e.l:=eH C;rw[dp (λJ=>J.elim O C)]at f;have az:=z.at_ aK;have bJ:=z.size;refine dl (dj az rfl) (dK ?_)
 refine iE (n:=e.l.length) (λj (m:List Sx)=>[(1,.int .i64 canv),(3,dJ wb),(7,.slice da A.length dc),(8,dJ mb),(11,dJ xb),(23,.slice (some ⟨eb,0,none⟩) E.length ec),(24,.int .i64 E.length),(25,.int .i64 k),(60,.slice e.a e.l.length e.c),(61,.int .i64 e.l.length),(62,.int .i64 j)])
  (λj m y=>Ext w y/\af.heap.size<=y.heap.size/\y.heap[wb]? =some (.cells #[dJ wp] 133)/\tq w1.heap.size y (.slice da A.length dc) m/\Ph mb r y/\po eb E y/\y.heap[xb]? =some (.cells #[.int .i64 e.s,.slice e.a e.l.length e.c] 29)/\m.length=A.length/\(∀x∈m,tE (100000+1000*k+j) x)/\iP H.tries e.s ys e.l=iP H.tries e.s m (e.l.drop j)) ys ⟨⟨rfl,rfl,rfl,rfl,rfl,rfl,rfl,rfl,rfl,rfl,rfl,trivial⟩,E9.trans z,dC _,z.at_ ae,bm.keep (z.keep λ_=>False) (λ_ _ h=>h),z.at_ aJ,bn.ext z,az,R,aH,rfl⟩ ?_ ?_ ?_
 rintro j m ar hj hJ;exact eg ⟨rfl,rfl,⟨rfl,rfl,rfl,rfl,rfl,rfl,rfl,rfl,rfl,rfl,rfl,trivial⟩,hJ⟩;rintro j m ar hj ⟨T,bp,I,ag,ah,ai,Q,U,au,D⟩;obtain⟨lb,lo,a2,a3⟩:=(aU.ext T) j hj;obtain⟨d,hd⟩:∃d,d=e.l[j]:=⟨_,rfl⟩;rw[<-hd]at a3;have av:d<A.length:=by rw[hd];exact ap _ (fc hj)
 rw[a2];refine eP j hj (dl a3 ?_);rw[<-a2];rcases ag with⟨h0,_⟩|⟨sb,c',a4,M,hS⟩;rw[h0]at U;simp at U;omega;injection M with M _ ad;subst M;subst ad;have aw:d<m.length:=by omega
 have bK:sb<w2.heap.size:=(ay sb (by omega) ⟨_,_,rfl⟩).2;have bt:w1.heap.size<=sb:=a4;have aA:=h.ext T;obtain⟨bu,bv,t1,t2,t3,t4⟩:=aA.at_;have D:=D;rw[wO _ _ _ _ j hj,<-hd,getD_eq aw]at D;have aM:∀{y},nO sb m y->∀i v,(mw m[d])[i]? =some v->y.cell? ⟨sb,0+d*8+i,none⟩=some v:=λhS i v hi=>by obtain⟨cs,y1,y2,y3⟩:=hS.out;exact dj y1 (by rw[dB];exact y3 d aw i v hi)
 have a5:ar.cell? ⟨sb,0+d*8+4+e.s/2,none⟩=some (.bool (pf m[d] (e.s/2))):=by
  have:(mw m[d])[4+e.s/2]? =some (.bool (pf m[d] (e.s/2))):=by
   obtain h0|h0|h0:e.s/2=0\/e.s/2=1\/e.s/2=2:=by omega
   all_goals rw[h0];rfl
  have:=aM hS _ _ this;rwa[<-tK]at this
 have aB:∀y,Ext ar y->iP H.tries e.s ys e.l=none->∃v,Ending.returned (one [.bool false])=.returned v/\v=.bool (rX H A canv Y)/\Ext w y:=λy e' hn=>⟨_,rfl,by rw[hn]at f;rw[aa,f];rfl,T.trans e'⟩;refine dT dO (dI (dj Q rfl) (dx (.int .i64 (e.s/2:Nat)) (λP _=>nM (n:=2) (by omega) (by omega) ⟨rfl,Ext.refl _⟩) (jU d 8 av (dx (.pointer (some ⟨sb,0+d*8+4+e.s/2,none⟩)) (λP _=>xe 3 (by omega) ⟨rfl,Ext.refl _⟩) (dI a5 ⟨λh1=>?_,λh1=>?_⟩)))));exactλP F=>ki rfl (aB P F (by rw[D,dr (by rw[h1];rfl)]));refine dI (dj I rfl) (dI t1 (jU d 8 av (dx (.agg (mw m[d]).toArray) (λP F=>eB (vs:=mw m[d]) (aM (hS.ext F)) ⟨rfl,Ext.refl _⟩) (kZ (.bool (iq H.tries m[d])) (λP F=>xd (aA.g.ext F) m[d]) λP F=>⟨λh2=>?_,λh2=>?_⟩))));exact aB P F (by rw[D,dr (by rw[h2];simp)]);rw[dp (by rw[h1,h2];simp)]at D;have a7:=au _ (fc aw);have bq:(0<=m[d].tries/\m[d].tries<=1000000)/\(0<=m[d].mornings/\m[d].mornings<=1000000)/\0<=m[d].evenings/\m[d].evenings<=1000000:=by obtain⟨z1,z2,z3⟩:=a7;omega
 have aC:=hS.ext F;have a8:=F.at_ Q;refine dT dO (jU d 8 av (dx (.agg (mw m[d]).toArray) (λaN aj=>eB (vs:=mw m[d]) (aM (aC.ext aj)) ⟨rfl,Ext.refl _⟩) (dI (dj a8 rfl) (kZ (.agg (mw (gN m[d] e.s false)).toArray) (λaN aj=>AC m[d] e.s false aN B bq) (jU d 8 av λaN aj=>?_)))));have W:=F.trans aj;refine L6 (aC.ext aj) d 0 aw (by omega) (gN m[d] e.s false) (oS rfl) (λi u hi=>?_) λbL X a9=>?_;have br:i<8:=(je.1 hi).1;rw[dr ⟨gu _,br⟩];exact hi;have bM:=W.size;refine dD ⟨m.set d (gN m[d] e.s false),⟨rfl,rfl,rfl,rfl,rfl,rfl,rfl,rfl,rfl,rfl,rfl,trivial⟩,(T.trans W).dz X (by omega),by have:=X.size;omega,X.fU (W.at_ I) (by omega),.inr ⟨sb,dc,a4,by rw[xp,U],a9⟩,X.fU (W.at_ ah) (by omega),(ai.ext W).keep X (by omega),X.fU (W.at_ Q) (by omega),by simpa using U,λx J=>?_,D⟩;rcases tI J with J|rfl;exact(au x J).le (by omega);exact(a7.Ql e.s false).le (by omega);rintro m ar ⟨T,bp,I,ag,ah,ai,Q,U,au,D⟩;have D:iP H.tries e.s ys e.l=some m:=by rw[D];simp[iP]
 rw[D]at f;simp only at f;refine dD ⟨(m,r),⟨rfl,rfl,rfl,rfl,rfl,rfl,rfl,trivial⟩,T,by omega,I,ag,ah,.inr ⟨eb,ec,bi,rfl,ai⟩,U,λx J=>(au x J).le (by omega),aZ,f⟩;rintro⟨ys,t⟩ w6 ⟨E6,s6,ab,ac,aG,aS,R,aH,L,f⟩;simp only at ac R f;have f:jo H canv A (λ_=>0) (E.map JI)=some ys:=by rw[f,List.drop_of_length_le (by simp)];rfl
 obtain⟨a6,c6,q1,q2⟩:=ac.UQ;injection q1 with q1 _ q3;subst q1;subst q3;have aD:=JG (h.ext E6) ab q2 (c:=dc) (by omega);rw[R]at aD;refine eD aD λw7 e7=>eC ⟨_,rfl,?_,E6.trans e7⟩;rw[aa,f];rfl
def wK.TS{w b:dg}{gp mk ms:Nat}{G:Gd}(h:wK w gp mk ms G b):kS (λ_=>False) mk ms G b:=
 ⟨⟨#[],0,h.sm,λe a=>by cases a⟩,⟨#[],0,h.km,λe a=>by cases a⟩,λh=>h,λh=>h⟩
def ep(G:Gd)(l:List Tq)(a b:Int):Int:=if my G l=0 then(if sE G (fK l) a=0 then(if ly b 0 5 then 0 else 1)else sE G (fK l) a)else my G l
def MM(w:dg)(G:Gd)(l:List Tq)(e:Int)(v:di)(b:dg):Prop:=
 (e≠0/\v=.tuple #[.pointer none,.int .i64 e])\/(e=0/\∃a c mk d,v=.tuple #[dJ a,.int .i64 0]/\Eg w a c mk d G (jw G l).2 (fK l) b/\∀x∈(jw G l).2,tE 100000 x)
section
variable{G:Gd}{da:Option Addr}{dc:Nat}{w:dg}{l:List Tq}{la:Option Addr}{lc:Nat}
def lj(o:iv w da G.doors)(g:G.doors.length<=100000)(p:iA w la l)(h:l.length<=100000)(a b:Int):
 Calls V.prog 105 #[gV G da dc,.slice la l.length lc,.int .i64 a,.int .i64 b] w (gh λv m=>Ext w m/\MM w G l (ep G l a b) v m):=by
 refine go V.func105 Tryz.ntmps105 ?_;refine fB λz A f q r=>fg r (dt (Jh (dc:=dc) (o.ext f) g (p.ext f) h) ?_);rintro v B ⟨i,⟨d,rfl⟩|⟨d,s,t,mk,u,rfl,n,y⟩⟩;exact fV (ki (by simpa using d) ⟨_,rfl,f.trans i,.inl ⟨by unfold ep;rw[dp d];exact d,by unfold ep;rw[dp d];rfl⟩⟩);refine fV (mX (by simp) (dN (OR n.k a) (fV ⟨λc=>?_,λc=>?_⟩)));have c:¬sE G (fK l) a=0:=eA c;exact⟨_,rfl,f.trans i,.inl ⟨by unfold ep;rw[dr d,dp c];exact c,by unfold ep;rw[dr d,dp c];rfl⟩⟩;have c:sE G (fK l) a=0:=by simpa using c
 refine dN (fC _ _ _ _) (eC ⟨λe=>?_,λe=>?_⟩);have e:ly b 0 5=false:=by simpa using e
 exact⟨_,rfl,f.trans i,.inl ⟨by unfold ep;rw[dr d,dr c,e];decide,by unfold ep;rw[dr d,dr c,e];rfl⟩⟩;have e:ly b 0 5=true:=by simpa using e
 exact⟨_,rfl,f.trans i,.inr ⟨by unfold ep;rw[dr d,dr c,e];rfl,s,t,mk,u,rfl,n.low f,λx j=>(y x j).le h⟩⟩
def lX(b:G.Ok)(h:ep G l I J=0):∃f:Nat,I=f/\f<=gC G/\f<2*G.days:=by unfold ep at h;split at h;split at h;rename_i a;unfold sE at a;split at a;rename_i c;simp only[ly,eL,jC]at c;have:=b.days;exact⟨I.toNat,by omega,by unfold gC;omega,by omega⟩;omega;rename_i a;exact absurd h a;rename_i d;exact absurd h d
def Ry(a:Nat)(o:Option (List (List Nat)))(v:di)(w:dg):Prop:=match o with
 |none=>v=.tuple #[.slice none 0 0,.int .i64 11]
 |some b=>∃u,v=.tuple #[u,.int .i64 0]/\jr a w u b
def EF(y:iv w da G.doors)(k:G.doors.length<=100000){ds:List Int}{a:Option Addr}{c:Nat}(D:iz w a ds)(m:ds.length<=100000)(H:ds.length<=c):
 Calls V.prog 69 #[gV G da dc,.slice a ds.length c] w (gh λv E=>Ext w E/\((mF G ds≠0/\v=.tuple #[.slice none 0 0,.int .i64 (mF G ds)])\/(mF G ds=0/\Ry w.heap.size (hZ G (ja (ds.map Int.toNat))) v E))):=by
 refine go V.func69 Tryz.ntmps69 ?_;refine fB λT U i I z=>fg z (dt (yD (dc:=dc) (y.ext i) k (D.ext i) m H) ?_);rintro v J ⟨t,⟨n,rfl⟩|⟨n,W,mk,X,rfl,o⟩⟩;have e:mF G ds=eF G:=by simp[mF,n]
 exact fV (ki (by simpa using n) ⟨_,rfl,i.trans t,.inl ⟨by rw[e];exact n,by rw[e];rfl⟩⟩);have e:mF G ds=fx G.doors.length ds:=by simp[mF,n]
 refine fV ⟨λf=>?_,λf=>?_⟩;have f:¬fx G.doors.length ds=0:=eA f;exact⟨_,rfl,i.trans t,.inl ⟨by rw[e];exact f,by rw[e];rfl⟩⟩;have f:fx G.doors.length ds=0:=by simpa using f
 obtain⟨j,rfl,p⟩:=oi f;have A:=o.g.um;have K:=A.many;have L:(pJ j).length=j.length:=by simp[pJ]
 have q:(pJ j).map Int.toNat=j:=by simp[pJ,Cc]
 have B:=(D.ext (i.trans t)).DU;rw[L]at m⊢;rw[q];have r:=nW.ja (G:=G) K (l:=j) p;refine dN (rT j a c J B (λd y=>by have:=p d y;omega) m) (dt (yK (n0:=w.heap.size) o.g (λb z=>z.elim) o.TS (by have:=o.lo;have:=i.size;omega) (by have:=o.lo;have:=i.size;omega) r) ?_);rintro v F ⟨M,u,b,rfl,h⟩;have C:Ext w F:=M.1.from (i.trans t) (dC _);cases x:hZ G (ja j)with
 |none=>
  rw[x]at h;obtain⟨rfl,rfl⟩:=h;exact eC (ki rfl ⟨_,rfl,C,.inr ⟨by rw[e];exact f,rfl⟩⟩)
 |some N=>
  rw[x]at h;obtain⟨rfl,O,P,rfl,s,_⟩:=h;have Q:=pS x;refine eC (mX rfl (dt (F9 N O P F s.rows (by omega) λl m=>by have:=za x l m;omega) ?_));rintro v Y ⟨R,S⟩;exact⟨_,rfl,C.trans R,.inr ⟨by rw[e];exact f,_,rfl,S.low C.size⟩⟩
end
def lG(G:Gd)(b:List Sx)(a:Nat)(d:Nat):Bool:=(jl G (b.getD d rp) a).isEmpty||!qk G (ja [d])
def MN(G:Gd)(b:List Sx)(a:Nat):List Nat:=(ek G.tries b).filter (lG G b a)
def Pi(a:Nat)(o:Option (List (Nat×List Nat)))(v:di)(w:dg):Prop:=match o with
 |none=>v=.tuple #[.slice none 0 0,.int .i64 11]
 |some b=>∃u,v=.tuple #[u,.int .i64 0]/\mz a w u b
section
variable{G:Gd}{da:Option Addr}{dc:Nat}{w:dg}{l:List Tq}{la:Option Addr}{lc:Nat}
def Gy(t:iv w da G.doors)(i:G.doors.length<=100000)(x:iA w la l)(m:l.length<=100000)(a:Int):
 Calls V.prog 48 #[gV G da dc,.slice la l.length lc,.int .i64 a] w (uA λv n=>Ext w n/\((ep G l a 0≠0/\v=.tuple #[.slice none 0 0,.int .i64 (ep G l a 0)])\/(ep G l a 0=0/\Pi w.heap.size (y8 G (jx G (jw G l).2 a.toNat)) v n))):=by
 refine go V.func48 Tryz.ntmps48 ?_;refine fB λE F c y o=>fg o (dt (lj (dc:=dc) (t.ext c) i (x.ext c) m a 0) ?_);rintro v H ⟨p,⟨d,rfl⟩|⟨d,I,J,mk,K,rfl,j,z⟩⟩;exact fV (ki (by simpa using d) (.inl ⟨_,rfl,c.trans p,.inl ⟨d,rfl⟩⟩));have A:=j.g.lo;have L:=c.size;obtain⟨f,rfl,q,_⟩:=lX j.k.g.um d;refine fV (mX (by simp) (ir (Pf (n0:=w.heap.size) j.k (λb o=>o.elim) j.g.TS (by omega) (by omega) z q) (λn h=>.inr ⟨rfl,h⟩) ?_));rintro v B ⟨C,e⟩;have r:Ext w B:=C.1.from (c.trans p) (dC _);rw[oO];cases s:y8 G (jx G (jw G l).2 f)with
 |none=>
  rw[s]at e;have e:v=.tuple #[.slice none 0 0,.bool false]:=e;subst e;exact eC (ki rfl (.inl ⟨_,rfl,r,.inr ⟨d,rfl⟩⟩))
 |some M=>
  rw[s]at e;obtain⟨u,rfl,D⟩:=e;exact eC (mX rfl (.inl ⟨_,rfl,r,.inr ⟨d,u,rfl,D.low (by have:=(c.trans p).size;omega)⟩⟩))
def EG(s:iv w da G.doors)(e:G.doors.length<=100000)(t:iA w la l)(n:l.length<=100000)(d canv:Int):
 Calls V.prog 55 #[gV G da dc,.slice la l.length lc,.int .i64 d,.int .i64 canv] w (uA λv o=>Ext w o/\((ep G l d canv≠0/\v=.tuple #[.slice none 0 0,.int .i64 (ep G l d canv)])\/(ep G l d canv=0/\∃a c,v=.tuple #[.slice a (oL (tu G (jw G l).2 d.toNat canv) (ek G.tries (jw G l).2)).length c,.int .i64 0]/\gi o a (oL (tu G (jw G l).2 d.toNat canv) (ek G.tries (jw G l).2))/\(oL (tu G (jw G l).2 d.toNat canv) (ek G.tries (jw G l).2)).length<=c))):=by
 refine go V.func55 Tryz.ntmps55 ?_;refine fB λC D i u p=>fg p (dt (lj (dc:=dc) (s.ext i) e (t.ext i) n d canv) ?_);rintro v E ⟨r,⟨j,rfl⟩|⟨j,F,H,mk,I,rfl,m,x⟩⟩;exact fV (ki (by simpa using j) (.inl ⟨_,rfl,i.trans r,.inl ⟨j,rfl⟩⟩));have y:=m.g.lo;have J:=i.size;obtain⟨f,rfl,q,_⟩:=lX m.k.g.um j;refine fV (mX (by simp) (ir (MJ (n0:=w.heap.size) (canv:=canv) m.k (λb p=>p.elim) m.g.TS (by omega) (by omega) x q) (λo h=>.inr ⟨rfl,h⟩) ?_));rintro v K ⟨z,a,c,rfl,A,B⟩;rw[oO];exact .inl ⟨_,rfl,z.1.from (i.trans r) (dC _),.inr ⟨j,a,c,rfl,A,B⟩⟩
def Gz(hd:iv w da G.doors)(Y:G.doors.length<=100000)(hr:iA w la l)(ag:l.length<=100000)(h:Int):
 Calls V.prog 53 #[gV G da dc,.slice la l.length lc,.int .i64 h] w (gh λv W=>Ext w W/\((ep G l h 0≠0/\v=.tuple #[.slice none 0 0,.int .i64 (ep G l h 0)])\/(ep G l h 0=0/\∃u,v=.tuple #[u,.int .i64 0]/\gQ w.heap.size W u (MN G (jw G l).2 h.toNat)))):=by
 refine go V.func53 Tryz.ntmps53 ?_;refine fB λw1 gb Z ar m=>fg m (dt (lj (dc:=dc) (hd.ext Z) Y (hr.ext Z) ag h 0) ?_);rintro v w2 ⟨e2,⟨z,rfl⟩|⟨z,wp,gp,mk,K,rfl,hg,X⟩⟩;exact fV (ki (by simpa using z) ⟨_,rfl,Z.trans e2,.inl ⟨z,rfl⟩⟩);have au:=hg.g.lo;have s1:=Z.size;have aa:=hg.k.g.um;have h5:=aa.many;have ah:=hg.k.len;obtain⟨f,rfl,ai,_⟩:=lX aa z;obtain⟨c,aj⟩:∃c,c=(jw G l).2:=⟨_,rfl⟩;have hk:=hg.k;rw[<-aj]at hk X ah⊢;have aq:=rV G.tries c;refine fV (mX (by simp) (dt (BA hk) ?_));rintro ov L ⟨e3,al⟩;obtain⟨oa,oc,rfl,am,av⟩:=al.row;have E2:=Z.trans e2;have E3:=E2.trans e3;have s2:=E2.size;rw[oO];have M:∀b,¬dw (.slice none 0 0) b:=λb m=>by obtain⟨_,_,m⟩:=m;cases m
 refine dK ?_;refine iE (n:=(ek G.tries c).length) (λk v=>[(2,.int .i64 f),(8,dJ wp),(10,v),(24,.slice oa (ek G.tries c).length oc),(25,.int .i64 (ek G.tries c).length),(26,.int .i64 k)]) (λk v W=>jb w.heap.size L W/\kS (dw v) mk K G W/\gQ L.heap.size W v (((ek G.tries c).take k).filter (lG G c f))) (.slice none 0 0) ⟨⟨rfl,rfl,rfl,rfl,rfl,rfl,trivial⟩,jb.refl _ _,(hg.g.TS.ext e3).more λb m=>absurd m (M b),dM.nil _ _ _ _⟩ ?_ ?_ ?_;rintro k v I ab hJ;exact eg ⟨rfl,rfl,⟨rfl,rfl,rfl,rfl,rfl,rfl,trivial⟩,hJ⟩;rintro k v I B ⟨N,C,y⟩;obtain⟨b,o,rfl,hc⟩:=(am.hH N) k B;obtain⟨d,O⟩:∃d,d=(ek G.tries c)[k]:=⟨_,rfl⟩;have P:d<c.length:=by rw[O];exact lR (fc B)
 rw[<-O]at hc;have Q:=hk.hH ((e3.hH w.heap.size).trans N);have J:=nW.ja (G:=G) h5 (l:=[d]) λx X=>by rw[iQ.1 X];omega
 obtain⟨sa,sc,g1,g2,g3,g4⟩:=Q.at_;have R:=wL w.heap.size mk K G (dw v);have an:∀b,dw v b->b<I.heap.size:=λb m=>(dM.blk y m).2;have A:(ek G.tries c).take (k+1)=(ek G.tries c).take k++[d]:=by rw[jM B,O]
 have aw:(((ek G.tries c).take k).filter (lG G c f)).length<=5:=by have:=List.length_filter_le (lG G c f) ((ek G.tries c).take k);simp only[xq]at this;omega
 have S:lG G c f d=((jl G c[d] f).isEmpty||!qk G (ja [d])):=by unfold lG;rw[getD_eq P]
 have same:∀j,MA w.heap.size mk K G (dw v) I j->lG G c f d=false->jb w.heap.size L j/\kS (dw v) mk K G j/\gQ L.heap.size j v (((ek G.tries c).take (k+1)).filter (lG G c f)):=λj m5 hf=>by
  refine⟨N.trans m5.1,m5.2 C,?_⟩;have e:((ek G.tries c).take (k+1)).filter (lG G c f)=((ek G.tries c).take k).filter (lG G c f):=by rw[A,List.filter_append,List.filter_cons,hf];simp
  rw[e];exact dM.hH y m5.1
 have ac:∀j,MA w.heap.size mk K G (dw v) I j->lG G c f d=true->∀k':di->dg->Prop,(∀D q,jb w.heap.size L q->kS (dw D) mk K G q->gQ L.heap.size q D (((ek G.tries c).take (k+1)).filter (lG G c f))->k' D q)->∀(p:Nat) (q:dg),Ext j q->q.heap[p]? =some (.cells [.int .i64 d].toArray 3)->∀(t:dn) (cb:Array Bool),Au V.prog (builtin .append #[27,27] t cb #[v,.slice (some ⟨p,0,none⟩) 1 1]) q k':=λj m5 ht k' ab p q E m t cb=>by
  have F:MA w.heap.size mk K G (dw v) I q:=R.trans _ _ _ m5 (E.ma _ _ _ _ _);have ad:gQ L.heap.size q v (((ek G.tries c).take k).filter (lG G c f)):=dM.hH y F.1;have T:=F.2 C;refine iM uj ad (by have:=N.size;have:=F.1.size;omega) m (by omega) λD w7 z r h3=>ab D w7 ((N.trans F.1).iZ r ad (dC _)) ?_ ?_;exact T.go (λb m=>h3 b m) (λb o v m hc=>r.fh hc m) λb o m ho=>r.fU ho λhf=>by rcases m with rfl|rfl;exact T.ak hf;exact T.asm hf
  have e:((ek G.tries c).take (k+1)).filter (lG G c f)=((ek G.tries c).take k).filter (lG G c f)++[d]:=by rw[A,List.filter_append,List.filter_cons,ht];simp
  rw[e];simpa[gQ,jk]using z
 refine eP k B (dl hc ?_);refine dT R ?_;refine .rel (λu j=>jr I.heap.size j u (jl G c[d] f)) (λu a b hu e=>hu.hH e.1) (λj s=>dt (En (Q.hH s.1) P (X _ (fc P)) ai) λu q ⟨E,hu⟩=>⟨hu.low s.1.size,E.ma _ _ _ _ _⟩) ?_;refine .exact (.int .i64 (jl G c[d] f).length) (λj s U ao=>?_) ?_;obtain⟨a3,c3,rfl,_⟩:=jr.row (show jr I.heap.size j U (jl G c[d] f)from ao);exact dK ⟨rfl,R.refl _⟩;refine HF ⟨λr=>?_,λr=>?_⟩ R;have r:(jl G c[d] f).length=0:=by have:=eA r;omega
 have hl:lG G c f d=true:=by rw[S,nZ r];rfl
 exactλj s U _=>ki rfl (eQ [.int .i64 d] 3 λq p E H m=>ac j s hl _ (λD w7 q1 q2 q3=>dD ⟨D,⟨rfl,rfl,rfl,rfl,rfl,rfl,trivial⟩,q1,q2,q3⟩) p q E m _ _);have r:¬(jl G c[d] f).length=0:=λe=>by have:=eH r;omega
 have ae:(jl G c[d] f).isEmpty=false:=by
  cases hq:jl G c[d] f with
  |nil=>rw[hq]at r;exact absurd rfl r
  |cons _ _=>rfl
 refine .exact (dJ gp) (λj s=>dl (s.1.cell g1) ⟨rfl,R.refl _⟩) ?_;refine .rel (λu j=>∃p,u=.slice (some ⟨p,0,none⟩) 1 1/\j.heap[p]? =some (.cells [Value.int .i64 d].toArray 3)) (λu a b ⟨p,z,r⟩ e=>⟨p,z,e.1.at_ r⟩) (λj s=>eQ [.int .i64 d] 3 λq p E H m=>⟨⟨p,rfl,m⟩,E.ma _ _ _ _ _⟩) ?_;refine .exact (.int .u8 (ja [d])) (λj s af ap=>?_) ?_;obtain⟨p,rfl,H⟩:∃p,af=.slice (some ⟨p,0,none⟩) 1 1/\j.heap[p]? =some (.cells [Value.int .i64 d].toArray 3):=ap
 exact dN (rT [d] _ 1 j (λi hi=>⟨p,0,rfl,dj H (by have:i=0:=by simp at hi;omega
                                                  subst this;rfl)⟩) (λx X=>by rw[iQ.1 X];omega) (by simp)) ⟨rfl,R.refl _⟩
 refine .exact (.bool (qk G (ja [d]))) (λj s=>dt (BI (Q.g.hH s.1) (λb m=>eh (an b m) s.1.size) (s.2 C) (by omega) J.1 J.2) λu q ⟨z,r⟩=>⟨z,r⟩) ?_;refine pH ?_ R;intro j s af _ U _;refine⟨λh3=>?_,λh3=>?_⟩;have hl:lG G c f d=true:=by rw[S,ae,h3];rfl
 exact eQ [.int .i64 d] 3 λq p E H m=>ac j s hl _ (λD w7 q1 q2 q3=>dD ⟨D,⟨rfl,rfl,rfl,rfl,rfl,rfl,trivial⟩,q1,q2,q3⟩) p q E m _ _;have hl:lG G c f d=false:=by rw[S,ae,h3];rfl
 exact dD ⟨v,⟨rfl,rfl,rfl,rfl,rfl,rfl,trivial⟩,same j s hl⟩;rintro v I ⟨N,C,y⟩;rw[qx]at y;exact⟨_,rfl,N.from E3 (dC _),.inr ⟨z,v,rfl,y.low E3.size⟩⟩
end
def zg(w:dg)(a:Option Addr)(c:List (Int×List Int)):Prop:=∀k (h:k<c.length),∃b o d e,a=some ⟨b,o,none⟩/\w.cell? ⟨b,o+k*2,none⟩=some (.int .i64 c[k].1)/\w.cell? ⟨b,o+k*2+1,none⟩=some (.slice d c[k].2.length e)/\iz w d c[k].2/\c[k].2.length<=e
theorem zg.ext{w c:dg}{a:Option Addr}{d:List (Int×List Int)}(h:zg w a d)(e:Ext w c):zg c a d:=λk f=>by obtain⟨b,o,g,i,j,l,m,n,p⟩:=h k f;exact⟨b,o,g,i,j,e.cell l,e.cell m,n.ext e,p⟩
def kD(n:Int)(a last:Int):List (Int×List Int)->Int
 |[]=>0
 |p::r=>if ly p.1 a last then(if fx n p.2=0 then kD n a last r else fx n p.2)else 3
def BS(n a last:Int)(b:List (Int×List Int))(k:Nat)(c:k<b.length):kD n a last (b.drop k)=if ly b[k].1 a last then(if fx n b[k].2=0 then kD n a last (b.drop (k+1))else fx n b[k].2)else 3:=by rw[qu c];rfl
def Ns(p:Int×List Int):Nat×List Nat:=(p.1.toNat,p.2.map Int.toNat)
theorem zh{n:Nat}{a last:Int}:∀{d:List (Int×List Int)},kD n a last d=0->∀p∈d,ly p.1 a last=true/\fx n p.2=0
 |p::r,h,q,b=>by simp only[kD]at h;split at h;rename_i e;split at h;rename_i c;rcases ft.1 b with rfl|b;exact⟨e,c⟩;exact zh h q b;rename_i c;exact absurd h c;omega
theorem zg.DU{n:Nat}{c last:Int}{w:dg}{a:Option Addr}{f:List (Int×List Int)}(h:zg w a f)(J:0<=c)(x:kD n c last f=0):vv w a (f.map Ns)/\∀p∈f.map Ns,(p.1:Int)<=last/\∀d∈p.2,d<n:=by
 have t:=zh x;refine⟨λk y=>?_,λp z=>?_⟩;have i:k<f.length:=by simpa using y
 obtain⟨b,o,A,B,C,D,l,u,m⟩:=h k i;obtain⟨r,s⟩:=t _ (fc i);obtain⟨g,j,v⟩:=oi s;have e:(pJ g).map Int.toNat=g:=by simp[pJ,Cc]
 have E:((f.map Ns)[k]).2=g:=by simp[Ns,j,e]
 have F:(((f.map Ns)[k]).1:Int)=f[k].1:=by simp only[ly,eL,jC]at r;simp only[List.getElem_map,Ns];omega
 rw[E];rw[j]at l u m;have G:(pJ g).length=g.length:=by simp[pJ]
 rw[G]at l m;exact⟨b,o,A,B,C,by rw[F];exact D,l,u.DU,m⟩;obtain⟨q,H,rfl⟩:=nh.1 z;obtain⟨r,s⟩:=t q H;obtain⟨g,j,v⟩:=oi s;have e:(pJ g).map Int.toNat=g:=by simp[pJ,Cc]
 simp only[ly,eL,jC]at r;refine⟨by simp only[Ns];omega,λd I=>v d ?_⟩;simpa[Ns,j,e]using I
def oq(G:Gd)(l:List Tq)(a b:Int)(c:List (Int×List Int)):Bool×Int:=
 if ep G l a b=0 then(if kD G.doors.length a (2*G.days-1) c=0 then(rX G (jw G l).2 b (c.map Ns),0)else(false,kD G.doors.length a (2*G.days-1) c))else(false,ep G l a b)
section
variable{G:Gd}{da:Option Addr}{dc:Nat}{w:dg}{l:List Tq}{la:Option Addr}{lc:Nat}
def BT(S:iv w da G.doors)(C:G.doors.length<=100000)(hr:iA w la l)(T:l.length<=100000)(h canv:Int){ps:List (Int×List Int)}{O:Option Addr}{pc:Nat}(hp:zg w O ps)(U:ps.length<=20)(D:∀p∈ps,p.2.length<=1000):
 Calls V.prog 38 #[gV G da dc,.slice la l.length lc,.int .i64 h,.int .i64 canv,.slice O ps.length pc] w (gh λv u=>Ext w u/\v=.tuple #[.bool (oq G l h canv ps).1,.int .i64 (oq G l h canv ps).2]):=by
 refine go V.func38 Tryz.ntmps38 ?_;refine fB λw1 gb P ae hb=>fg hb (dt (lj (dc:=dc) (S.ext P) C (hr.ext P) T h canv) ?_);rintro v w2 ⟨e2,⟨A,rfl⟩|⟨A,wp,gp,mk,ms,rfl,hg,hx⟩⟩;exact fV (ki (by simpa using A) ⟨_,rfl,P.trans e2,by unfold oq;rw[dp A];rfl⟩);have E:=hg.k;have x:=E.g.um;have h5:=x.many;have W:=E.len;obtain⟨f,rfl,af,ag⟩:=lX x A;have Q:=P.trans e2;obtain⟨sa,sc,g1,g2,g3,g4⟩:=E.at_;refine fV (mX (by simp) (dK ?_));refine eZ (n:=ps.length) (λk=>[(2,.int .i64 f),(3,.int .i64 canv),(4,.slice O ps.length pc),(12,dJ wp),(28,.slice O ps.length pc),(29,.int .i64 ps.length),(30,.int .i64 k)]) (λk u=>Ext w2 u/\kD G.doors.length f (2*G.days-1) ps=kD G.doors.length f (2*G.days-1) (ps.drop k)) ⟨⟨rfl,rfl,rfl,rfl,rfl,rfl,rfl,trivial⟩,Ext.refl _,rfl⟩ ?_ ?_ ?_;rintro k X ah hJ;exact eg ⟨rfl,rfl,⟨rfl,rfl,rfl,rfl,rfl,rfl,rfl,trivial⟩,hJ⟩;rintro k X s ⟨B,a⟩;obtain⟨b,o,a',c',rfl,q1,q2,q3,q4⟩:=(hp.ext (Q.trans B)) k s;rw[BS _ _ _ _ _ s]at a;have y:=D _ (fc s);obtain⟨p,Y⟩:∃p,p=ps[k]:=⟨_,rfl⟩;rw[<-Y]at q1 q2 q3 q4 a y;refine fl k 2 s (eB (vs:=[.int .i64 p.1,.slice a' p.2.length c']) (λj v F=>?_) (fJ λw4 xb Z aa H=>ee H λw5 k5 t=>?_));match j,F with
 |0,F=>cases F;exact q1
 |1,F=>cases F;exact q2
 have t:w5.heap[xb]? =some (.cells #[.int .i64 p.1,.slice a' p.2.length c'] 29):=t;have I:Ext X w5:=Z.dz k5 aa;have m:=B.trans I;have J:=E.ext m;have K:∀u (c:Int),Ext w5 u->kD G.doors.length f (2*G.days-1) ps=c->c≠0->∃v,Ending.returned (one [.bool false,.int .i64 c])=.returned v/\Ext w u/\v=.tuple #[.bool (oq G l f canv ps).1,.int .i64 (oq G l f canv ps).2]:=λu c e hc h0=>⟨_,rfl,(Q.trans m).trans e,by unfold oq;rw[dr A,hc,dp h0];rfl⟩;refine dT dO (dI (dj t rfl) (dI (m.cell g1) (gU dO _ (λR r=>last_at (J.g.ext r)) (gU dO _ (λR r=>fC _ _ _ R) (pH λR r=>⟨λz=>?_,λz=>?_⟩)))));have z:ly p.1 f (2*G.days-1)=false:=by simpa using z
 exact K R 3 r (by rw[a,dp (by rw[z];simp)]) (by omega);have z:ly p.1 f (2*G.days-1)=true:=by simpa using z
 rw[dr z]at a;have ab:=J.ext r;refine dT dO (dI (r.cell (m.cell g1)) (dI (dj (r.at_ t) rfl) (gU dO _ (λw7 L=>ve (ab.g.ext L) ((q3.ext (I.trans r)).ext L) (by omega) q4) λw7 L=>fV ⟨λi=>?_,λi=>?_⟩)));have i:¬fx G.doors.length p.2=0:=eA i;exact K w7 _ (r.trans L) (by rw[a,dp i]) i;have i:fx G.doors.length p.2=0:=by simpa using i
 rw[dr i]at a;exact dD ⟨⟨rfl,rfl,rfl,rfl,rfl,rfl,rfl,trivial⟩,(m.trans r).trans L,a⟩;rintro X ⟨B,a⟩;have a:kD G.doors.length f (2*G.days-1) ps=0:=by rw[a,List.drop_of_length_le (dC _)];rfl
 obtain⟨ac,M⟩:=(hp.ext (Q.trans B)).DU (by omega) a;have ai:=x.days;have N:=JJ (canv:=canv) (pc:=pc) (E.ext B) hx ac (by simpa using U) λq hq=>⟨by have:=(M q hq).1;omega,by obtain⟨q',ad,rfl⟩:=nh.1 hq;have:=D q' ad;simpa[Ns]using this,λd S=>by rw[W];exact(M q hq).2 d S⟩;rw[xo]at N;refine eD N λw4 Z=>⟨_,rfl,(Q.trans B).trans Z,?_⟩;unfold oq;rw[dr A,dr a];rfl
end
def EH(l a:List (Nat×List Nat))(la j:Option Addr)(lc n:Nat)(w:dg)(D:vv w la l)(s:vv w j a)(B:l.length<=100000)(t:∀x∈l,x.2.length<=100000):
 Calls V.prog 42 #[.slice la l.length lc,.slice j a.length n] w (gh λv r=>v=.bool (decide (l=a))/\Ext w r):=by
 refine go V.func42 Tryz.ntmps42 ?_;refine dK (dK (fV ⟨λh=>?_,λh=>?_⟩));have h:¬l=a:=λe=>by subst e;simp at h
 exact⟨_,rfl,by simp[h],Ext.refl _⟩;have h:l.length=a.length:=by simp at h;omega
 refine gE l.length (λk (_:Unit)=>[(0,.slice la l.length lc),(1,.slice j a.length n),(5,.int .i64 k)]) (λk _ r=>Ext w r/\l.take k=a.take k) () ⟨⟨rfl,rfl,rfl,trivial⟩,Ext.refl _,by simp⟩ ?_;rintro k _ r K ⟨e,C⟩;refine dK (eg ⟨λd=>?_,λp=>?_⟩);have d:k<l.length:=by simpa using d
 have i:k<a.length:=by omega
 obtain⟨b,o,x,c,rfl,E,u,F,_⟩:=(D.hH (e.hH 0)) k d;obtain⟨L,M,G,H,rfl,y,q,z,_⟩:=(s.hH (e.hH 0)) k i;refine dT dO (jU k 2 d (dI E (jU k 2 i (dI y (Qc ⟨λf=>?_,λf=>?_⟩)))));have f:¬l[k].1=a[k].1:=λe=>eA f (by rw[e]);have:¬l=a:=λe=>by subst e;exact f rfl
 exactλA m=>ki rfl ⟨_,rfl,by simp[this],e.trans m⟩;have f:l[k].1=a[k].1:=by have:=eH f;omega
 refine jU k 2 d (dI u (jU k 2 i (dI q (kZ (.bool (decide (l[k].2=a[k].2))) (λA m=>pM l[k].2 a[k].2 x G c H A (F.ext m) (z.ext m) (t _ (fc d))) (pH λA m=>⟨λg=>?_,λg=>?_⟩)))));have g:¬l[k].2=a[k].2:=by simpa using g
 have:¬l=a:=λe=>by subst e;exact g rfl
 exact⟨_,rfl,by simp[this],e.trans m⟩;have g:l[k].2=a[k].2:=by simpa using g
 refine dD ⟨d,(),⟨rfl,rfl,rfl,trivial⟩,e.trans m,?_⟩;rw[jM d,jM i,C,Prod.ext f g];have p:¬k<l.length:=by simpa using p
 have:l=a:=by have I:l.take k=l:=tJ (by omega);have J:a.take k=a:=tJ (by omega);rw[<-I,<-J,C]
 exact⟨_,rfl,by simp[this],e⟩
def nR:List Tq:=[⟨0,0,false⟩,⟨1,0,true⟩,⟨2,1,false⟩]
def zi:mv fS [0,1,2,3]=38/\nL fS [0,1,2,3]=55/\mF fS [0,1,2,3]=0:=by decide+kernel
def EI:mF fS [3,2,1,0]=0/\hZ fS (ja [3,2,1,0])=some [[0,1],[2,3]]:=by decide+kernel
def BU:List Sx:=[⟨1,1,0,false,true,false,false,false⟩,⟨1,1,0,true,true,false,false,false⟩,⟨1,0,1,false,true,false,false,false⟩,rp]
def MO:jw fS nR=(0,BU):=by rfl
def zj:ep fS nR 5 0=0/\ep fS nR 2 0=0/\ep fS nR 2 1=0/\ep fS [] 3 1=0:=by decide+kernel
def Pj:MN fS BU 5=[2,3]:=by decide+kernel
def UR:eN:=⟨[0,2,3],[[[3],[5]],[[2],[4]],[[2,5],[3,4]]],[0,1,-1,-1,1,1,-1,-1,1,1,-1,-1,1,2,-1,-1,0,0,0,0,0,0,0,0,0,0,0,0,0,0,0,0]⟩
def MP:jx fS BU 2=UR:=by unfold jx UR;rw[eN.mk.injEq];exact⟨by decide+kernel,by decide+kernel,by decide+kernel⟩
def Pk:ie UR=some ([0,1,1],1,2):=by decide+kernel
def Pm:y8 fS (jx fS BU 2)=some [(3,[0,3]),(4,[2,3])]:=by rw[MP];unfold y8;rw[Pk];decide+kernel
def JK:oq fS nR 2 1 [(3,[0,3]),(4,[2,3])]=(true,0):=by decide+kernel
def GA:List Sx:=[rp,rp,rp,rp]
def Pn:jw fS []=(0,GA):=by rfl
def MQ:oL (tu fS GA 3 1) (ek fS.tries GA)=[0,1]:=by decide+kernel
def lT{l:List Int}(h:w.heap[m]? =some (.cells (l.map (Value.int .i64)).toArray T)):iz w (some ⟨m,0,none⟩) l:=λk a=>⟨m,0,rfl,dj h (by rw[dB];simp[fI a])⟩
def mZ(h:w.heap[m]? =some (.cells (jk l).toArray T)):gi w (some ⟨m,0,none⟩) l:=λk a=>⟨m,0,rfl,dj h (by rw[dB];simp[jk,fI a])⟩
theorem AW:∀(l:List Tq) (k:Nat) (a:k<l.length) (j:Nat) (v:di),(pj l[k])[j]? =some v->(l.flatMap pj)[k*3+j]? =some v
 |x::r,0,_,j,v,h=>by have b:j<(pj x).length:=(je.1 h).1;simp only[tG,Nat.zero_mul,dB];rw[oQ b];exact h
 |x::r,k+1,a,j,v,h=>by have c:=AW r k (by simpa using a) j v (by simpa using h);have d:(pj x).length=3:=rfl;simp only[tG];rw[qa (by omega),d,show(k+1)*3+j-3=k*3+j by omega];exact c
def JL{l:List Tq}(h:w.heap[m]? =some (.cells (l.flatMap pj).toArray T)):iA w (some ⟨m,0,none⟩) l:=λk a=>⟨m,0,rfl,λj v b=>dj h (by rw[dB];simpa using AW l k a j v b)⟩
def MS(w:dg):iA w none []:=λk a=>by simp at a
def rY{k:di->dg->Prop}{c:List PanicEntry->dg->Prop}(d:∀a b,Ext w a->iv a (some ⟨b,0,none⟩) fS.doors->k (gV fS (some ⟨b,0,none⟩) 4) a):OD V.prog 95 [] w k c:=
 dt (L4 w) λv a ⟨e,b,_,f,g⟩=>by subst f;exact d a b e (I7 g)
def zk{k:di->dg->Prop}{c:List PanicEntry->dg->Prop}(d:∀a b,Ext w a->iA a (some ⟨b,0,none⟩) nR->k (.slice (some ⟨b,0,none⟩) 3 3) a):OD V.prog 96 [] w k c:=
 dt (I8 w) λv a ⟨e,b,_,f,g⟩=>by subst f;exact d a b e (JL g)
def MT:fS.doors.length<=100000/\ -1000000<=fS.streets/\fS.streets<=1000000:=by decide
def JM:vf fS [0,1,2,3]=.tuple #[.agg (mG 38 55).toArray,.int .i64 0]:=by unfold vf;rw[dr zi.2.2];show Value.tuple #[.agg (mG (mv fS [0,1,2,3]) (nL fS [0,1,2,3])).toArray,.int .i64 0]=_;rw[zi.1,zi.2.1]
def RP{a:Func}{c:Code}{R:Ending->dg->Prop}(d:V.prog.funcs[K]? =some a)(e:a.ntmps=m)(h:fE V.prog m c (W.toList.zipIdx.map λp=>(p.2,p.1)) w (QR V.prog a.results.toList R))
 (f:a.body=some c:=by rfl)(b:Nat.ble W.toList.length m=true:=by rfl):Calls V.prog K W w R:=by
 have:=P5 (args:=W.toList) m d f e (oS b) h;simpa using this
def mh(w:dg):Calls V.prog 26 #[] w (uA λv w'=>v=.bool true/\Ext w w'):=by
 obtain⟨c,bn⟩:=MT;refine RP V.func26 Tryz.ntmps26 (fE.seq er ?_);refine fE.seq er ?_;refine rY λw1 b1 e1 aC=>eQ [.int .i64 0,.int .i64 1,.int .i64 2,.int .i64 3] 3 λw2 bs e2 bo aD=>?_;refine eD (I6 (l:=[0,1,2,3]) (aC.ext e2) c (lT aD) (by decide) (by decide)) λw3 e3=>?_;rw[JM];refine fJ λw4 G e4 aE R=>ee R λw5 k5 H=>?_;have H:w5.heap[G]? =some (.cells (mG 38 55).toArray 56):=H;have E5:Ext w w5:=((e1.trans e2).trans e3).trans (e4.dz k5 aE);refine fE.kJ (l0:=[(1,dJ G),(2,.int .i64 0)]) ⟨rfl,rfl,trivial⟩ (fE.seq er ?_);refine rY λw6 b6 e6 aF=>eQ [.int .i64 3,.int .i64 2,.int .i64 1,.int .i64 0] 3 λw7 bt e7 bp aG=>?_;refine dt (EF (ds:=[3,2,1,0]) (aF.ext e7) c (lT aG) (by decide) (by decide)) ?_;rintro v w8 ⟨e8,⟨h,_⟩|⟨_,S⟩⟩;exact absurd EI.1 h;have aH:hZ fS (ja (([3,2,1,0]:List Int).map Int.toNat))=some [[0,1],[2,3]]:=EI.2;rw[aH]at S;obtain⟨T,rfl,aI⟩:=S;have E8:=((E5.trans e6).trans e7).trans e8;have aJ:=((e6.trans e7).trans e8).at_ H;refine fE.kJ (l0:=[(1,dJ G),(2,.int .i64 0),(3,T),(4,.int .i64 0)]) ⟨rfl,rfl,rfl,rfl,trivial⟩ (fE.seq er ?_);refine rY λw9 b9 e9 aK=>zk λbu bv I U=>?_;refine dt (Gz (l:=nR) (aK.ext I) c U (by decide) 5) ?_;rintro v bw ⟨W,⟨h,_⟩|⟨_,lv,rfl,X⟩⟩;exact absurd zj.1 h;have aL:MN fS (jw fS nR).2 (5:Int).toNat=[2,3]:=by rw[MO];exact Pj
 rw[aL]at X;have aM:=((E8.trans e9).trans I).trans W;have y:=(e9.trans I).trans W;refine fE.kJ (l0:=[(1,dJ G),(2,.int .i64 0),(3,T),(4,.int .i64 0),(5,lv),(6,.int .i64 0)]) ⟨rfl,rfl,rfl,rfl,rfl,rfl,trivial⟩ (fE.seq er ?_);refine rY λbx bz Y Z=>zk λbA bB J aa=>?_;refine ir (Gy (l:=nR) (Z.ext J) c aa (by decide) 2) (λw' h=>.inr ⟨rfl,h⟩) ?_;rintro v bC ⟨ab,⟨h,_⟩|⟨_,S⟩⟩;exact absurd zj.2.1 h;have aN:y8 fS (jx fS (jw fS nR).2 (2:Int).toNat)=some [(3,[0,3]),(4,[2,3])]:=by rw[MO];exact Pm
 rw[aN]at S;obtain⟨pv,rfl,aO⟩:=S;have aP:=((aM.trans Y).trans J).trans ab;have d:=(Y.trans J).trans ab;refine fE.kJ (l0:=[(1,dJ G),(2,.int .i64 0),(3,T),(4,.int .i64 0),(5,lv),(6,.int .i64 0),(7,pv),(8,.int .i64 0)]) ⟨rfl,rfl,rfl,rfl,rfl,rfl,rfl,rfl,trivial⟩ (fE.seq er ?_);refine rY λbD bE aQ ac=>?_;refine ir (EG (l:=[]) (la:=none) (lc:=0) ac c (MS _) (by decide) 3 1) (λw' h=>.inr ⟨rfl,h⟩) ?_;rintro v bF ⟨aR,⟨h,_⟩|⟨_,va,vc,rfl,ad,_⟩⟩;exact absurd zj.2.2.2 h;have aS:oL (tu fS (jw fS []).2 (3:Int).toNat 1) (ek fS.tries (jw fS []).2)=[0,1]:=by rw[Pn];exact MQ
 rw[aS]at ad⊢;have b:=aQ.trans aR;have ae:=aP.trans b;refine fE.kJ (l0:=[(1,dJ G),(2,.int .i64 0),(3,T),(4,.int .i64 0),(5,lv),(6,.int .i64 0),(7,pv),(8,.int .i64 0),(9,.slice va 2 vc),(10,.int .i64 0)]) ⟨rfl,rfl,rfl,rfl,rfl,rfl,rfl,rfl,rfl,rfl,trivial⟩ (fE.seq er ?_);refine rY λbG bH aT af=>zk λbI bJ ag ah=>eQ [.int .i64 0,.int .i64 3] 3 λbK z aU aV ai=>?_;refine eD (BC 3 _ 2 2 _) λbL aW=>eQ [.int .i64 2,.int .i64 3] 3 λbM A aX aY aj=>?_;refine eD (BC 4 _ 2 2 _) λbN ak=>?_;refine eQ [.int .i64 3,.slice (some ⟨z,0,none⟩) 2 2,.int .i64 4,.slice (some ⟨A,0,none⟩) 2 2] 29 λaZ m al a0 f=>?_;have n:=(aW.trans aX).trans (ak.trans al)
 have K:zg aZ (some ⟨m,0,none⟩) [(3,[0,3]),(4,[2,3])]:=λk hk=>by
  have am:k<2:=hk;obtain rfl|rfl:k=0\/k=1:=by omega
  exact⟨m,0,some ⟨z,0,none⟩,2,rfl,dj f rfl,dj f rfl,lT (n.at_ ai),dC _⟩;exact⟨m,0,some ⟨A,0,none⟩,2,rfl,dj f rfl,dj f rfl,lT ((ak.trans al).at_ aj),dC _⟩
 have e:=aU.trans n;refine dt (BT (l:=nR) (ps:=[(3,[0,3]),(4,[2,3])]) ((af.ext ag).ext e) c (ah.ext e) (by decide) 2 1 K (by decide) (by decide)) ?_;rintro v bO ⟨a1,rfl⟩;rw[JK];have a:=((aT.trans ag).trans e).trans a1;have bP:=ae.trans a;refine fE.kJ (l0:=[(1,dJ G),(2,.int .i64 0),(3,T),(4,.int .i64 0),(5,lv),(6,.int .i64 0),(7,pv),(8,.int .i64 0),(9,.slice va 2 vc),(10,.int .i64 0),(11,.bool true),(12,.int .i64 0)]) ⟨rfl,rfl,rfl,rfl,rfl,rfl,rfl,rfl,rfl,rfl,rfl,rfl,trivial⟩ (fE.seq er ?_);have an:=(((y.trans d).trans b).trans a).at_ aJ;refine gA (ki rfl ?_);refine gA (ki rfl ?_);refine gA (ki rfl ?_);refine gA (ki rfl ?_);refine gA (ki rfl ?_);refine gA (ki rfl ?_);refine ki rfl ?_;refine eB (vs:=mG 38 55) (λj v hj=>by rw[dB];exact dj an (by simpa using hj)) ?_;refine eJ (.agg (mG 38 55).toArray) ?_;refine eJ (.bool true) ?_;refine ki rfl ?_;refine eQ [.int .i64 0,.int .i64 1] 3 λbQ B u a2 ao=>?_;refine eQ [.int .i64 2,.int .i64 3] 3 λbR C o a3 ap=>?_;refine eQ [.slice (some ⟨B,0,none⟩) 2 2,.slice (some ⟨C,0,none⟩) 2 2] 27 λaq p i a4 D=>?_;obtain⟨wa,wc,rfl,a5,_⟩:=aI.row;have ar:=((((y.trans d).trans b).trans a).trans u).trans (o.trans i)
 have x:wJ aq (some ⟨p,0,none⟩) [[0,1],[2,3]]:=λk hk=>by
  have am:k<2:=hk;obtain rfl|rfl:k=0\/k=1:=by omega
  exact⟨p,0,some ⟨B,0,none⟩,2,rfl,dj D rfl,mZ (l:=[0,1]) ((o.trans i).at_ ao),dC _⟩;exact⟨p,0,some ⟨C,0,none⟩,2,rfl,dj D rfl,mZ (l:=[2,3]) (i.at_ ap),dC _⟩
 refine eD (DT [[0,1],[2,3]] [[0,1],[2,3]] wa _ wc 2 aq (a5.ext ar) x (by decide) (by decide)) λbS L=>?_;refine ki (by decide) ?_;refine eQ [.int .i64 2,.int .i64 3] 3 λa6 bq M a7 au=>?_;obtain⟨a8,a9,rfl,ba,_⟩:=X.row;have N:=(((((d.trans b).trans a).trans u).trans (o.trans i)).trans L).trans M;refine eD (pM [2,3] [2,3] a8 _ a9 2 a6 (ba.ext N) (mZ au) (by decide)) λbT av=>?_;refine ki (by decide) ?_;refine eQ [.int .i64 0,.int .i64 3] 3 λbU E bb bc aw=>?_;refine eD (BC 3 _ 2 2 _) λbV ax=>?_;refine eQ [.int .i64 2,.int .i64 3] 3 λbW F ay bd az=>?_;refine eD (BC 4 _ 2 2 _) λbX O=>?_;refine eQ [.int .i64 3,.slice (some ⟨E,0,none⟩) 2 2,.int .i64 4,.slice (some ⟨F,0,none⟩) 2 2] 29 λaA q P be g=>?_;obtain⟨bf,bg,rfl,bh,_⟩:=aO.row;have r:=((bb.trans ax).trans (ay.trans O)).trans P;have Q:=((((((b.trans a).trans u).trans (o.trans i)).trans L).trans M).trans av).trans r
 have s:vv aA (some ⟨q,0,none⟩) [(3,[0,3]),(4,[2,3])]:=λk hk=>by
  have am:k<2:=hk;obtain rfl|rfl:k=0\/k=1:=by omega
  exact⟨q,0,some ⟨E,0,none⟩,2,rfl,dj g rfl,dj g rfl,mZ (l:=[0,3]) (((ax.trans (ay.trans O)).trans P).at_ aw),dC _⟩;exact⟨q,0,some ⟨F,0,none⟩,2,rfl,dj g rfl,dj g rfl,mZ (l:=[2,3]) ((O.trans P).at_ az),dC _⟩
 refine eD (EH [(3,[0,3]),(4,[2,3])] [(3,[0,3]),(4,[2,3])] bf _ bg 2 aA (bh.hH (Q.hH 0)) s (by decide) (by decide)) λbY bi=>?_;refine ki (by decide) ?_;refine eQ [.int .i64 0,.int .i64 1] 3 λbj br bk bl aB=>?_;have t:=((((((a.trans u).trans (o.trans i)).trans L).trans M).trans av).trans r).trans (bi.trans bk);refine eD (pM [0,1] [0,1] va _ vc 2 bj (ad.ext t) (mZ aB) (by decide)) λbZ bm=>?_;refine fE.of er (.inl ⟨_,rfl,?_,(ae.trans t).trans bm⟩);show Value.bool (decide (([0,1]:List Nat)=[0,1]))=.bool true;rw[decide_eq_true rfl]
def fE.pq{x y:Code}{l:L}{Q:QW}(h:fE P m x l w (Ls (λc d=>fE P m y c d Q) Q)):fE P m (.seq x y) l w Q:=⟨λa g=>by
 refine kh (kH (h.out a g) ?_);rintro e i d ⟨c,b,f⟩;cases e with
 |normal=>exact f.out i b
 |_=>exact⟨c,b,f⟩⟩
def Qu{Q:QW}{e:Exit}{a:Act}(h:∃g,Fr k g a/\ji m Q e g w):Exit.inBlock m (lift k Q) e a w:=by
 obtain⟨f,b,d⟩:=h;cases e with
 |exit j=>
  simp only[Exit.inBlock];by_cases c:j=m;subst c;rw[dr rfl];simp only[ji,vE]at d;exact⟨f,b,d⟩;rw[dp c];have:Nat.beq j m=false:=by
   cases i:Nat.beq j m with
   |false=>rfl
   |true=>exact absurd (ii i) c
  simp only[ji,this]at d;exact⟨f,b,d⟩
 |_=>exact⟨f,b,d⟩
theorem fE.block{c:Code}{l:L}{Q:QW}(h:fE P m c l w (ji k Q)):fE P m (.block k c) l w Q:=⟨λa b=>by refine wp_block (kH (h.out a b) ?_);intro e f g d;exact Qu d⟩
def Po{i:Type}(n:Nat){c:Code}{l:L}{Q:QW}(g:Nat->i->L)(J:Nat->i->dg->Prop)(o:i)(r:Sub (g 0 o) l/\J 0 o w)
 (d:∀b s w,b<=n->J b s w->fE V.prog m c (g b s) w (λe t u=>match e with
  | .normal=>b<n/\∃h,Sub (g (b+1) h) t/\J (b+1) h u
  |e=>ji k Q e t u)):fE V.prog m (Code.block k (Code.loop c)) l w Q:=by
 refine⟨λa p=>?_⟩;refine wp_block ?_;refine mM (λj a w=>∃b s,b<=n/\j=n-b/\Fr m (g b s) a/\J b s w) n ⟨0,o,gu _,by omega,p.sub r.1,r.2⟩ ?_;rintro j a w ⟨b,s,x,rfl,p,y⟩;refine kH ((d b s w x y).out a p) ?_;rintro e C D ⟨v,f,q⟩;cases e with
 |normal=>
  obtain⟨z,h,A,B⟩:=q;exact⟨n-(b+1),by omega,b+1,h,by omega,rfl,f.sub A,B⟩
 |exit j=>
  simp only[Exit.then];exact Qu (e:=.exit j) ⟨v,f,q⟩
 |_=>exact⟨v,f,q⟩
theorem rZ{T:wE}{Q:Exit->Act->dg->Prop}{r0:Option Nat}{ds:List Deferred}(F:lB P T)(z:List Nat){K:L->dg->Prop}{q:L->List PanicEntry->dg->Prop}{e:Array Oper}(G:∀l a w,nV ds m l a->K l w->wpOpsIn (wd r0) 0 P e Q z a w)(H:∀l c a w,nV ds m l a->q l c w->Q (.panic c) a w):∀(r:List Oper) (i:Nat) (f:List Nat) (l:L) (a:Act) (w:dg),(∀j,j<r.length->r[j]? =e[i+j]?)->nV ds m l a->mN P T m K q e.toList r f l w->wpOpsIn (wd r0) 0 P e Q (List.range' i r.length++z) a w
 |[],i,f,l,a,w,_,k,h=>by rw[gl,List.range'_zero,so];exact G l a w k h
 |o::r,i,f,l,a,w,N,k,h=>by
  have O:e[i]? =some o:=(N 0 (by simp)).symm;have A:∀j,j<r.length->r[j]? =e[i+1+j]? :=λj S=>by have:=N (j+1) (by simpa using S);simpa[tK,Nat.add_comm 1 j]using this
  obtain⟨h,J⟩:=wW h
  have t:∀f l,nV ds m l a->Region.wanted o (yielded e a.tmps)=true->tg P T f l w o (λv y=>mN P T m K q e.toList r f (ins m o.dst v l) y) (λy=>mN P T m K q e.toList r f (ins m o.dst undef l) y) (q l)->
   wpOpsIn (wd r0) 0 P e Q (List.range' i (o::r).length++z) a w:=by
   intro f l k s h;rw[fq,z0,oP];simp only[wpOpsIn,O,s,ei];refine(th F k.b h (λv y B=>?_) (λy B=>?_) λc y B=>H l c a y k B);exact rZ F z G H r (i+1) f _ _ y A (k.put o.dst v J) B;exact rZ F z G H r (i+1) f _ _ y A (k.put o.dst undef J) B
  have skip:∀f l,nV ds m l a->Region.wanted o (yielded e a.tmps)=false->mN P T m K q e.toList r f (ins m o.dst undef l) w->wpOpsIn (wd r0) 0 P e Q (List.range' i (o::r).length++z) a w:=by intro f l k s h;rw[fq,z0,oP];simp only[wpOpsIn,O,s,iw,fp];refine⟨λ_ _=>trivial,?_⟩;exact rZ F z G H r (i+1) f _ _ w A (k.put o.dst undef J) h
  split at h;rename_i I;exact t f l k (by simp[Region.wanted,I]) h;rename_i g p I;split at h;exact h.elim;rename_i d C;rw[lN]at C;have D:(e[g]?).bind (·.dst)=some d:=by simpa using C
  split at h;rename_i b E;have n:a.eval (.tmp d)=.bool b:=k.b.at_ d _ E;have M:yielded e a.tmps g=some b:=by
   rw[jS]at n;unfold yielded;rw[D];simp only[qz];cases R:a.tmps[d]? with
   |none=>rw[R]at n;simp[undef]at n
   |some x=>rw[R]at n;simp at n;subst n;rfl
  have s:Region.wanted o (yielded e a.tmps)=(b==p):=by simp[Region.wanted,I,M]
  split at h;cases b<;>cases p<;>simp only at h;exact t f l k (by rw[s];rfl) h;exact skip f l k (by rw[s];rfl) h;exact skip f l k (by rw[s];rfl) h;exact t f l k (by rw[s];rfl) h;cases b with
  |true=>
   have h:=h.1 rfl;have u:=k.tf E;cases p with
   |true=>simp only at h;exact t (d::f) ((d,.bool true)::l) u (by rw[s];rfl) h
   |false=>exact skip (d::f) ((d,.bool true)::l) u (by rw[s];rfl) h
  |false=>
   have h:=h.2 rfl;have u:=k.tf E;cases p with
   |true=>exact skip (d::f) ((d,.bool false)::l) u (by rw[s];rfl) h
   |false=>simp only at h;exact t (d::f) ((d,.bool false)::l) u (by rw[s];rfl) h
  rename_i U E;have n:a.eval (.tmp d)=.tuple U:=k.b.at_ d _ E;have M:yielded e a.tmps g=none:=oe D n;exact skip f l k (by simp[Region.wanted,I,M]) h;exact h.elim
structure sj(P:dq)(N:Nat)(ops:Array Oper)(i:Nat)(l:L)(w:dg)(Q:QW):Prop where
 out:∀a,Fr N l a->wpOpsIn (wd none) 0 P ops (lift N Q) (List.range' i (ops.size-i)) a w
def sj.start{b:Array Oper}{l:L}{Q:QW}(h:sj P m b 0 l w Q):fE P m (.region k b false) l w Q:=⟨λa c=>by refine wpIn_wide.1 (wpIn_region (n:=0) ?_);have:=h.out a c;rw[Nat.sub_zero,<-List.range_eq_range']at this;exact this⟩
def sj.cut{T:wE}(n:Nat)(g:lB P T){b:Array Oper}{l:L}{Q:QW}(h:mN P T m (λl w=>sj P m b (i+n) l w Q) (λl c w=>Q (.panic c) l w) b.toList ((b.toList.drop i).take n) [] l w)(f:Nat.ble (i+n) b.size=true:=by rfl):sj P m b i l w Q:=⟨λa d=>by
 have f:=oS f;have k:((b.toList.drop i).take n).length=n:=by rw[xq,List.length_drop,Array.length_toList];omega
 have:=rZ (r0:=none) (ds:=[]) g (List.range' (i+n) (b.size-(i+n))) (Q:=lift m Q) (λl a w d e=>e.out a d.fr) (λl c a w d e=>⟨l,d.fr,e⟩) ((b.toList.drop i).take n) i [] l a w (λj o=>by rw[List.getElem?_take_of_lt (by omega),List.getElem?_drop,Array.getElem?_toList]) d.Ux h;rw[k,List.range'_append_1,show n+(b.size-(i+n))=b.size-i by omega]at this;exact this⟩
def sj.fin{b:Array Oper}{l:L}{Q:QW}(h:Q .normal l w)(c:Nat.ble b.size i=true:=by rfl):sj P m b i l w Q:=⟨λa d=>by have c:=oS c;rw[show b.size-i=0 by omega];exact⟨l,d,h⟩⟩
def sj.kJ{b:Array Oper}{l l0:L}{Q:QW}(c:Sub l0 l)(h:sj P m b i l0 w Q):sj P m b i l w Q:=⟨λa d=>h.out a (d.sub c)⟩
def US(a:List Nat):dZ->Bool
 | .const _=>true
 | .tmp t=>mem t a
 |_=>false
def RQ(l:L)(a:List Nat)(o:Oper):Option Nat:=match o.op with
 | .move x=>(match US a x with
  |true=>o.dst
  |false=>none)
 | .pick (.tmp c) x y=>(match mem c a with
  |true=>(match lk l c with
   |some (.bool true)=>(match US a x with
    |true=>o.dst
    |false=>none)
   |some (.bool false)=>(match US a y with
    |true=>o.dst
    |false=>none)
   |_=>none)
  |false=>none)
 |_=>none
variable{N:Nat}
def mA(P:dq)(T:wE)(N:Nat)(K:L->dg->Prop)(a:L->List PanicEntry->dg->Prop)(c:List Oper):List Oper->List Nat->L->dg->Prop
 |[],_,l,w=>K l w
 |o::r,f,l,w=>SI N o.dst (match o.guard with
  |none=>tg P T f l w o (λv h=>match RQ l f o with
         |some e=>mA P T N K a c r (e::f) (ins N o.dst v l) h
         |none=>mA P T N K a c r f (ins N o.dst v l) h) (λh=>mA P T N K a c r f (ins N o.dst undef l) h) (a l)
  |some (g,i)=>match yg c g with
   |none=>False
   |some d=>match lk l d with
    |some (.bool b)=>(match mem d f with
     |true=>(match b,i with
      |true,true=>tg P T f l w o (λv h=>match RQ l f o with
       |some e=>mA P T N K a c r (e::f) (ins N o.dst v l) h
       |none=>mA P T N K a c r f (ins N o.dst v l) h) (λh=>mA P T N K a c r f (ins N o.dst undef l) h) (a l)
      |false,false=>tg P T f l w o (λv h=>match RQ l f o with
       |some e=>mA P T N K a c r (e::f) (ins N o.dst v l) h
       |none=>mA P T N K a c r f (ins N o.dst v l) h) (λh=>mA P T N K a c r f (ins N o.dst undef l) h) (a l)
      |_,_=>mA P T N K a c r f (ins N o.dst undef l) w)
     |false=>(b=true->match i with
      |true=>tg P T (d::f) ((d,.bool true)::l) w o (λv h=>match RQ ((d,.bool true)::l) (d::f) o with
       |some e=>mA P T N K a c r (e::d::f) (ins N o.dst v ((d,.bool true)::l)) h
       |none=>mA P T N K a c r (d::f) (ins N o.dst v ((d,.bool true)::l)) h) (λh=>mA P T N K a c r (d::f) (ins N o.dst undef ((d,.bool true)::l)) h) (a ((d,.bool true)::l))
      |false=>mA P T N K a c r (d::f) (ins N o.dst undef ((d,.bool true)::l)) w)/\
      (b=false->match i with
       |false=>tg P T (d::f) ((d,.bool false)::l) w o (λv h=>match RQ ((d,.bool false)::l) (d::f) o with
        |some e=>mA P T N K a c r (e::d::f) (ins N o.dst v ((d,.bool false)::l)) h
        |none=>mA P T N K a c r (d::f) (ins N o.dst v ((d,.bool false)::l)) h) (λh=>mA P T N K a c r (d::f) (ins N o.dst undef ((d,.bool false)::l)) h) (a ((d,.bool false)::l))
       |true=>mA P T N K a c r (d::f) (ins N o.dst undef ((d,.bool false)::l)) w))
    |some (.tuple _)=>mA P T N K a c r f (ins N o.dst undef l) w
    |_=>False)
theorem r9{T:wE}{N:Nat}{Q:Exit->Act->dg->Prop}{r0:Option Nat}{ds:List Deferred}(F:lB P T)(z:List Nat){K:L->dg->Prop}{p:L->List PanicEntry->dg->Prop}{f:Array Oper}(G:∀l a w,nV ds N l a->K l w->wpOpsIn (wd r0) 0 P f Q z a w)(H:∀l c a w,nV ds N l a->p l c w->Q (.panic c) a w):∀(r:List Oper) (i:Nat) (k:List Nat) (l:L) (a:Act) (w:dg),(∀j,j<r.length->r[j]? =f[i+j]?)->nV ds N l a->mA P T N K p f.toList r k l w->wpOpsIn (wd r0) 0 P f Q (List.range' i r.length++z) a w
 |[],i,k,l,a,w,_,m,h=>by rw[gl,List.range'_zero,so];exact G l a w m h
 |o::r,i,k,l,a,w,O,m,h=>by
  have R:f[i]? =some o:=(O 0 (by simp)).symm;have A:∀j,j<r.length->r[j]? =f[i+1+j]? :=λj U=>by have:=O (j+1) (by simpa using U);simpa[tK,Nat.add_comm 1 j]using this
  obtain⟨h,J⟩:=wW h
  have t:∀k l,nV ds N l a->Region.wanted o (yielded f a.tmps)=true->tg P T k l w o (λv y=>match RQ l k o with
   |some e=>mA P T N K p f.toList r (e::k) (ins N o.dst v l) y
   |none=>mA P T N K p f.toList r k (ins N o.dst v l) y) (λy=>mA P T N K p f.toList r k (ins N o.dst undef l) y) (p l)->
   wpOpsIn (wd r0) 0 P f Q (List.range' i (o::r).length++z) a w:=by
   intro k l m s h;rw[fq,z0,oP];simp only[wpOpsIn,R,s,ei];refine(th F m.b h (λv y B=>?_) (λy B=>?_) λc y B=>H l c a y m B);split at B<;>exact r9 F z G H r (i+1) _ _ _ y A (m.put o.dst v J) B;exact r9 F z G H r (i+1) k _ _ y A (m.put o.dst undef J) B
  have skip:∀k l,nV ds N l a->Region.wanted o (yielded f a.tmps)=false->mA P T N K p f.toList r k (ins N o.dst undef l) w->wpOpsIn (wd r0) 0 P f Q (List.range' i (o::r).length++z) a w:=by intro k l m s h;rw[fq,z0,oP];simp only[wpOpsIn,R,s,iw,fp];refine⟨λ_ _=>trivial,?_⟩;exact r9 F z G H r (i+1) k _ _ w A (m.put o.dst undef J) h
  split at h;rename_i I;exact t k l m (by simp[Region.wanted,I]) h;rename_i g q I;split at h;exact h.elim;rename_i d C;rw[lN]at C;have D:(f[g]?).bind (·.dst)=some d:=by simpa using C
  split at h;rename_i b E;have n:a.eval (.tmp d)=.bool b:=m.b.at_ d _ E;have M:yielded f a.tmps g=some b:=by
   rw[jS]at n;unfold yielded;rw[D];simp only[qz];cases S:a.tmps[d]? with
   |none=>rw[S]at n;simp[undef]at n
   |some x=>rw[S]at n;simp at n;subst n;rfl
  have s:Region.wanted o (yielded f a.tmps)=(b==q):=by simp[Region.wanted,I,M]
  split at h;cases b<;>cases q<;>simp only at h;exact t k l m (by rw[s];rfl) h;exact skip k l m (by rw[s];rfl) h;exact skip k l m (by rw[s];rfl) h;exact t k l m (by rw[s];rfl) h;cases b with
  |true=>
   have h:=h.1 rfl;have u:=m.tf E;cases q with
   |true=>simp only at h;exact t (d::k) ((d,.bool true)::l) u (by rw[s];rfl) h
   |false=>exact skip (d::k) ((d,.bool true)::l) u (by rw[s];rfl) h
  |false=>
   have h:=h.2 rfl;have u:=m.tf E;cases q with
   |true=>exact skip (d::k) ((d,.bool false)::l) u (by rw[s];rfl) h
   |false=>simp only at h;exact t (d::k) ((d,.bool false)::l) u (by rw[s];rfl) h
  rename_i V E;have n:a.eval (.tmp d)=.tuple V:=m.b.at_ d _ E;have M:yielded f a.tmps g=none:=oe D n;exact skip k l m (by simp[Region.wanted,I,M]) h;exact h.elim
def sj.Pp{T:wE}{N:Nat}(n:Nat)(g:lB P T){b:Array Oper}{i:Nat}{l:L}{Q:QW}(h:mA P T N (λl w=>sj P N b (i+n) l w Q) (λl c w=>Q (.panic c) l w) b.toList ((b.toList.drop i).take n) [] l w)(f:Nat.ble (i+n) b.size=true:=by rfl):sj P N b i l w Q:=⟨λa d=>by
 have f:=oS f;have k:((b.toList.drop i).take n).length=n:=by rw[xq,List.length_drop,Array.length_toList];omega
 have:=r9 (r0:=none) (ds:=[]) g (List.range' (i+n) (b.size-(i+n))) (Q:=lift N Q) (λl a w d e=>e.out a d.fr) (λl c a w d e=>⟨l,d.fr,e⟩) ((b.toList.drop i).take n) i [] l a w (λj m=>by rw[List.getElem?_take_of_lt (by omega),List.getElem?_drop,Array.getElem?_toList]) d.Ux h;rw[k,List.range'_append_1,show n+(b.size-(i+n))=b.size-i by omega]at this;exact this⟩
def gP(n a b:Int)(w:dg):Calls V.prog 110 #[.int .i64 n,.int .i64 a,.int .i64 b] w (gh λv c=>v=.bool (ly n a b)/\c=w):=by refine go (V.fn Tryz.func110 (by decide)) Tryz.ntmps110 ?_;refine vS ⟨λh=>vS ⟨_,rfl,?_,rfl⟩,λh=>⟨_,rfl,?_,rfl⟩⟩<;>simp[ly,h]
def sd(l:List Int)(x:Int)(g:Option Addr)(i:Nat)(w:dg)(m:iz w g l)(j:l.length<=100000):Calls V.prog 138 #[.slice g l.length i,.int .i64 x] w (gh λv f=>v=.int .i64 (tk x l 0)/\f=w):=by
 refine go (V.fn Tryz.func138 (by decide)) Tryz.ntmps138 ?_;refine gE l.length (λk (_:Unit)=>[(0,.slice g l.length i),(1,.int .i64 x),(5,.int .i64 k)]) (λk _ f=>f=w/\tk x l 0=tk x (l.drop k) k) () ⟨⟨rfl,rfl,rfl,trivial⟩,rfl,rfl⟩ ?_;rintro k _ f p ⟨rfl,c⟩;refine dK (eg ⟨λa=>?_,λd=>?_⟩);have a:k<l.length:=by simpa using a
 obtain⟨b,o,rfl,n⟩:=m k a;rw[AA x l k a]at c;refine eP k a (dl n (gA ⟨λh=>?_,λh=>?_⟩));have h:x=l[k]:=(eA h).symm;exact⟨_,rfl,by rw[c,dr h];rfl,rfl⟩;have h:¬x=l[k]:=λe=>eH h e.symm;rw[dp h]at c;exact dD ⟨a,(),⟨rfl,rfl,rfl,trivial⟩,rfl,c⟩;have d:¬k<l.length:=by simpa using d
 rw[List.drop_eq_nil_of_le (by omega)]at c;exact⟨_,rfl,by rw[c];rfl,rfl⟩
variable{G:Gd}{da:Option Addr}{dc:Nat}{w:dg}
def GB(I:iv w da G.doors)(E:G.doors.length<=100000):Calls V.prog 88 #[gV G da dc] w (gh λv q=>v=.int .i64 (eF G)/\Ext w q):=by
 refine RP (V.fn Tryz.func88 (by decide)) Tryz.ntmps88 (fE.seq er ?_);refine fB λt F d J c=>?_;have a:∀{b:Bool},j9 G=false->∃v,Ending.returned (one [Value.int .i64 1])=.returned v/\v=Value.int .i64 (eF G)/\Ext w t:=λh=>⟨_,rfl,by simp[eF,h],d⟩;refine fE.pq (fE.pq (sj.start (sj.Pp 36 er ?_)));refine dl (dj c rfl) (dN (gP _ _ _ _) (eC ⟨λh=>sj.fin (fE.of er (ki rfl (a (b:=true) (by simp at h;simp[j9,h])))),λf=>?_⟩));refine dl (dj c rfl) (dN (gP _ _ _ _) (eC ⟨λh=>sj.fin (fE.of er (ki rfl (a (b:=true) (by simp at h;simp[j9,h])))),λr=>?_⟩));refine dl (dj c rfl) (dN (gP _ _ _ _) (eC ⟨λh=>sj.fin (fE.of er (ki rfl (a (b:=true) (by simp at h;simp[j9,h])))),λs=>?_⟩));refine dl (dj c rfl) (dN (gP _ _ _ _) (eC ⟨λh=>sj.fin (fE.of er (ki rfl (a (b:=true) (by simp at h;simp[j9,h])))),λK=>?_⟩));refine dl (dj c rfl) (dN (gP _ _ _ _) (eC ⟨λh=>sj.fin (fE.of er (ki rfl (a (b:=true) (by simp at h;simp[j9,h])))),λL=>?_⟩));refine dl (dj c rfl) (dl (dj c rfl) (dN (gP _ _ _ _) (eC (sj.fin (fE.of er ⟨λh=>(a (b:=true) (by simp at h;simp[j9,h])),λM=>?_⟩)))));have S: -1000000<=G.streets/\G.streets<=1000000:=by simp[ly]at f;omega
 have H:j9 G=true:=by simp at f r s K L M;simp[j9, *]
 refine fE.kJ (l0:=[(1,.pointer (some ⟨F,0,none⟩))]) ⟨rfl,trivial⟩ (fE.of er ?_);refine(dl (dj c rfl) (dK (mE ⟨λh=>⟨_,rfl,by simp at h;simp[eF,H,h],d⟩,λu=>?_⟩)));have u:¬(5:Int)<G.doors.length:=by simpa using u
 have x:eF G=lP G.streets G.doors:=by simp[eF,H,u]
 refine gE G.doors.length (λk (_:Unit)=>[(1,.pointer (some ⟨F,0,none⟩)),(3,.int .i64 k)]) (λk _ q=>Ext t q/\eF G=lP G.streets (G.doors.drop k)) () ⟨⟨rfl,rfl,trivial⟩,Ext.refl _,by rw[x];rfl⟩ ?_;rintro k _ q m ⟨e,g⟩;refine dl (dj (e.at_ c) rfl) (dK (eg ⟨λy=>?_,λn=>?_⟩));have m:k<G.doors.length:=by simpa using y
 obtain⟨b,o,z,N,A,O⟩:=(I.ext (d.trans e)) k m;rw[vT _ _ k m]at g;refine dl (dj (e.at_ c) rfl) ?_;subst z;refine fl k 3 m (eB (vs:=dL G.doors[k]) (λj v i=>?_) (fJ λT U P B C=>ee C λQ R l=>?_));match j,i with
 |0,i=>cases i;exact N
 |1,i=>cases i;exact A
 |2,i=>cases i;exact O
 have p:Ext t Q:=(e.trans P).dz R (dS e.size B);have D:=p.at_ c;refine dl (dj l rfl) (dl (dj D rfl) (gK (dN (gP _ _ _ _) (eC ⟨λh=>?_,λf=>?_⟩))));exact⟨_,rfl,by simp at h;rw[g];simp[nI,h],d.trans p⟩;simp at f;refine dl (dj l rfl) (dN (gP _ _ _ _) (eC ⟨λh=>?_,λr=>?_⟩));exact ki rfl ⟨_,rfl,by simp at h;rw[g];simp[nI,f,h],d.trans p⟩;simp at r;refine dl (dj l rfl) (dN (gP _ _ _ _) (eC ⟨λh=>?_,λs=>?_⟩));exact⟨_,rfl,by simp at h;rw[g];simp[nI,f,h],d.trans p⟩;simp at s;exact dD ⟨m,(),⟨rfl,rfl,trivial⟩,p,by rw[g];simp[nI,f,r,s]⟩;have n:¬k<G.doors.length:=by simpa using n
 rw[List.drop_eq_nil_of_le (by omega)]at g;exact⟨_,rfl,by rw[g];rfl,d.trans e⟩
def xj{l:List Int}:decide (0<=tk I l 0)=pK I l:=rfl
def EJ{l:List Int}{j:Option Addr}{m:Nat}(A:iz w j l)(B:l.length<=100000)(K:l.length<=m)(s:G.doors.length<=100000):
 Calls V.prog 111 #[gV G da dc,.slice j l.length m] w (gh λv n=>v=.int .i64 (fx G.doors.length l)/\Ext w n):=by
 refine go (V.fn Tryz.func111 (by decide)) Tryz.ntmps111 ?_;refine fB λE F t H I=>?_;refine gE l.length (λk (_:Unit)=>[(1,.slice j l.length m),(2,.pointer (some ⟨F,0,none⟩)),(5,.int .i64 k)]) (λk _ n=>Ext E n/\fx G.doors.length l=mP G.doors.length (l.take k) (l.drop k)) () ⟨⟨rfl,rfl,rfl,trivial⟩,Ext.refl _,rfl⟩ ?_;rintro k _ n i ⟨e,d⟩;refine dK (eg ⟨λu=>?_,λp=>?_⟩);have i:k<l.length:=by simpa using u
 have q:=t.trans e;obtain⟨b,o,x,a⟩:=A k i;have f:=q.cell a;rw[un _ l k i]at d;have y:(l.take k).length=k:=by simp;omega
 have J:∀g,Ext n g->Calls V.prog 138 #[.slice j k m,.int .i64 l[k]] g _:=λg c=>by have:=sd (l.take k) l[k] j m g ((A.take k).ext (q.trans c)) (by omega);rw[y]at this;exact this
 subst x;refine dT dO (nH k i (dI f (dI (dj (e.at_ I) rfl) (lf (rh (gU dO _ (λg c=>gP _ _ _ _) (pH λg c=>⟨λh=>?_,λz=>?_⟩)))))));simp at h;exact⟨_,rfl,by rw[d];simp[h],q.trans c⟩;simp at z;refine dT dO (dx _ (λg _=>kC k (by omega) ⟨rfl,dO.refl _⟩) (nH k i (dI ((e.trans c).cell (t.cell a)) (gU dO _ (λC r=>J C (c.trans r)) (Qb λC r=>⟨λh=>?_,λD=>?_⟩)))));rw[xj]at h;exact⟨_,rfl,by rw[d];simp[h,z],(q.trans c).trans r⟩;rw[xj]at D;rw[z,D]at d;exact dD ⟨i,(),⟨rfl,rfl,rfl,trivial⟩,(e.trans c).trans r,by simpa using d⟩;have p:¬k<l.length:=by simpa using p
 rw[List.drop_eq_nil_of_le (by omega)]at d;exact⟨_,rfl,by rw[d];rfl,t.trans e⟩
end Go.Proofs.W
