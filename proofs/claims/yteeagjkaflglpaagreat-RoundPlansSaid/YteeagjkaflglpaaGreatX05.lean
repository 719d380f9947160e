/- Laws that the proof needs, part 5. Conditions: none. -/
import Derived.Test.YteeagjkaflglpaaGreatX04
set_option maxRecDepth 100000
set_option maxHeartbeats 8000000
set_option linter.all false
variable{m k i j o p s d:Nat}{w t e:cI}{x y z:cJ}{A B C:Nat->Prop}{l f:List Nat}{T U:cQ}{a:Option Go.Addr}{H N:Go.Proofs.W.Gd}{W X:Array cJ}{I J:Int}{D E:Bool}{K:dY}{S:cI->Prop}{P:cU}
namespace Go.Proofs.W
open Go.RowKit
section
variable{w:cI}{k:cJ->cI->Prop}
def wG(a:dV)(i c:Nat):dV:=if c=i then a else a.map (·.add i)
def A8(b:Nat)(n:b<=m)(o:m<=i)(h:k (.slice (wG a b i) (m-b) (i-b)) w)(f:I=(b:Nat):=by rfl)(g:ty T=some ⟨3,1,1,0⟩:=by rfl):jL V.prog (Instr.sliceAt T (.slice a m i) (some (.int .i64 I)) none none) w k:=by subst f;have⟨e,j,l⟩:=tA g rfl;refine⟨_,w,?_,h⟩;have c:(b:Int)<=(m:Int):=cL;have d:(0:Int)<=(b:Int):=cL;unfold Instr.sliceAt Instr.slice;simp only[Sem.run_bind,iz j,Result.andThen_ok,Instr.sliceBounds,Instr.sliceBound,asIntOf,pure_bind,d,c,and_self,ej,Sem.run_pure,mX l,xf,iH,fj];simp only[ny,pW,wG]
end
theorem fN.drop{w:cI}(h:fN w a l)(i:Nat)(j:l.length<=m):fN w (wG a i m) (l.drop i):=λk e=>by
 have c:i+k<l.length:=by simp at e;omega
 have⟨b,o,f,g⟩:=h (i+k) c;have d:¬m=i:=cL;refine⟨b,o+i,?_,?_⟩;unfold wG;rw[cR d,f];simp[iq];rw[show o+i+k=o+(i+k) by omega,g,List.getElem_drop]
structure PE(w2:cI)(k d:Nat)(a b:cI):Prop where
 e:dA (λx=>w2.heap.size<=x) a b
 r:∀x cs,w2.heap.size<=x->a.heap[x]? =some (.cells cs 3)->∃tX,b.heap[x]? =some (.cells tX 3)/\tX.size=cs.size/\∀j,tX[j]? =cs[j]? \/(j=k/\tX[j]? =some (.int .i64 d))
 o:Ext a b\/(∀x,x<w2.heap.size->a.heap[x]? =w2.heap[x]?)\/a.heap.size<w2.heap.size
def Ext.pe{a b:cI}(h:Ext a b)(c:cI)(k d:Nat):PE c k d a b:=⟨h.keep _,λx e _ f=>⟨e,h.at_ f,rfl,λ_=>.inl rfl⟩,.inl h⟩
def Ye(s:cI)(k d:Nat):gJ (PE s k d):=by refine⟨λw=>(Ext.refl w).pe _ _ _,λa b c h g=>⟨h.e.trans g.e (λ_ _ h=>h) λ_ _ h=>h,λx u m v=>?_,?_⟩,λw=>(Ext.drew w).pe _ _ _⟩;have⟨n,i,y,z⟩:=h.r x u m v;have⟨p,A,B,C⟩:=g.r x n m i;refine⟨p,A,B.trans y,λj=>?_⟩;obtain f|f:=C j;obtain q|q:=z j;exact .inl (f.trans q);exact .inr ⟨q.1,f.trans q.2⟩;exact .inr f;obtain l|l|l:=h.o;obtain i|i|i:=g.o;exact .inl (l.trans i);obtain t|t:=gu a.heap.size s.heap.size;exact .inr (.inr t);refine .inr (.inl λx m=>?_);rw[<-i x m];exact(l.block x cL).symm;exact .inr (.inr (Nat.lt_of_le_of_lt l.size i));exact .inr (.inl l);exact .inr (.inr l)
def mg.same{A:dn}{mk ms n:Nat}{w w':cI}(h:mg A mk ms H w)(i:w.heap.size<=n)(f:∀x,x<n->x<w.heap.size->w'.heap[x]? =w.heap[x]?):mg A mk ms H w':=by
 have a:∀b o,w.heap[b]? =some o->w'.heap[b]? =some o:=λb o c=>by have e:=dz.lt_of_heap c;rw[f b cL e];exact c
 refine h.go (λ_ h=>.inl h) (λb o v _ d=>?_) λb o _ c=>a b o c;unfold World.cell? at d⊢;split at d;rename_i j t k g;rw[a _ _ g];exact d;cases d
def PE.mf{i:cI}{k d n0 mk ms ob:Nat}{A:dn}{a b:cI}(h:PE i k d a b)(n:mg A mk ms H i):MF (λx=>x=ob\/i.heap.size<=x) n0 mk ms H A a b:=by refine⟨h.e.os,h.e.tape,h.e.output,h.e.size,h.e.drawn,λx o c p _=>h.e.fL p λq=>c (.inr q),λr f=>?_⟩;obtain g|g|g:=h.o;exact f.ext g;refine n.same (dg _) λx c _=>?_;rw[<-g x c];obtain j|j:=gu x a.lH;exact h.e.block x j cL;have m:a.heap[x]? =none:=uI j;rw[g x c]at m;have:=Array.getElem?_eq_none_iff.1 m;omega;exact f.same (dg _) λx c l=>h.e.block x l cL
def MF.narrow{F c:dn}{n0 mk ms:Nat}{A:dn}{a b:cI}(h:MF c n0 mk ms H A a b)(e:∀x,x<a.heap.size->c x->F x):MF F n0 mk ms H A a b:=
 ⟨h.os,h.tape,h.output,h.size,h.drawn,λx o f d g=>h.block x o (λi=>f (e x (dz.lt_of_heap d) i)) d g,h.m⟩
def MF.wide{F c:dn}{n0 mk ms:Nat}{A:dn}{a b:cI}(h:MF F n0 mk ms H A a b)(d:∀x,F x->c x):MF c n0 mk ms H A a b:=
 ⟨h.os,h.tape,h.output,h.size,h.drawn,λx o e f g=>h.block x o (λi=>e (d x i)) f g,h.m⟩
def GN(n:Nat)(w:cI)(v:cJ)(l:cM):Prop:=GL w v l/\∀b,cV v b->n<=b
def GN.pe{f a b:cI}{v:cJ}{k:Nat}(h:GN f.heap.size a v l)(e:PE f k d a b)(m:∀h:k<l.length,l[k]=d):GN f.heap.size b v l:=by refine⟨?_,h.2⟩;obtain n|⟨x,c,o,rfl,p,s,t,u⟩:=h.1;exact .inl n;have⟨g,w,y,z⟩:=e.r x o (h.2 x ⟨_,_,rfl⟩) s;refine .inr ⟨x,c,g,rfl,p,w,y.trans t,λj i=>?_⟩;obtain q|⟨rfl,q⟩:=z j;rw[q];exact u j i;rw[q,m i]
def eK.gn{w:cI}{v:cJ}(h:eK m w v l):GN m w v l:=by refine⟨?_,λb d=>(cZ.blk h d).1⟩;obtain⟨o,⟨e,rfl⟩|⟨b,c,f,p,rfl,g,a,i,q,j,r⟩⟩:=h;exact .inl ⟨oA e,rfl⟩;simp only[fi,fO,pW,dj]at a;refine .inr ⟨b,c,f,rfl,i,g,a,λk n=>?_⟩;rw[j k (by simp[gm];omega)];simp[gm,eZ n]
def jJ(p:cM->Bool):Nat->cM->cM->Bool×Option cM
 |0,_,a=>(p a,some a)
 |m+1,l,a=>(List.range l.length).foldl (λb i=>if b.1 then b else((jJ p m (l.drop (i+1)) (a++[l.getD i 0])).1,(jJ p m (l.drop (i+1)) (a++[l.getD i 0])).2.or b.2)) (false,none)
def gl(p:cM->Bool)(m:Nat)(l a:cM)(k:Nat):Bool×Option cM:=(List.range k).foldl (λb i=>if b.1 then b else((jJ p m (l.drop (i+1)) (a++[l.getD i 0])).1,(jJ p m (l.drop (i+1)) (a++[l.getD i 0])).2.or b.2)) (false,none)
def EH(p:cM->Bool)(m:Nat)(l a:cM)(k:Nat)(h:(gl p m l a k).1=false):gl p m l a (k+1)=((jJ p m (l.drop (k+1)) (a++[l.getD k 0])).1,(jJ p m (l.drop (k+1)) (a++[l.getD k 0])).2.or (gl p m l a k).2):=by
 have:gl p m l a (k+1)=if(gl p m l a k).1 then gl p m l a k else((jJ p m (l.drop (k+1)) (a++[l.getD k 0])).1,(jJ p m (l.drop (k+1)) (a++[l.getD k 0])).2.or (gl p m l a k).2):=by unfold gl;rw[mL,si];rfl
 rw[this,h];rfl
def EI(p:cM->Bool)(b:Nat)(l a:cM){k:Nat}(g:k<=m)(h:(gl p b l a k).1=true):gl p b l a m=gl p b l a k:=by
 induction m with
 |zero=>obtain rfl:k=0:=cL;rfl
 |succ m c=>
  obtain d|f:=gu k (m+1);have e:=c cL;have:gl p b l a (m+1)=if(gl p b l a m).1 then gl p b l a m else((jJ p b (l.drop (m+1)) (a++[l.getD m 0])).1,(jJ p b (l.drop (m+1)) (a++[l.getD m 0])).2.or (gl p b l a m).2):=by unfold gl;rw[mL,si];rfl
  rw[this,e,h];rfl;obtain rfl:k=m+1:=cL;rfl
theorem iJ.drop(h:iJ A w a l)(i:Nat)(g:l.length<=m):iJ A w (wG a i m) (l.drop i):=λk j=>by have c:i+k<l.length:=cK;have⟨b,o,e,f,n⟩:=h (i+k) c;have d:¬m=i:=cL;refine⟨b,o+i,e,?_,?_⟩;unfold wG;rw[cR d,f];simp[iq];grind
def Ti{r:nB}{A:Array Bool}(t:GL w x l)(B:m<=w.heap.size)(e:l.length<=1000)(j:w.heap[k]? =some (.cells [Value.int .i64 s].toArray 3)) (C:∀v c,GL c v (l++[s])->(∀b,cV v b->cV x b\/m<=b)->dA (cV x) w c->(∀b a,cV x b->w.heap[b]? =some (.cells a 3)->c.heap[b]? =some (.cells a 3)\/c.heap[b]? =some (.cells (a.setIfInBounds l.length (.int .i64 s)) 3))->r v c):y8 V.prog (builtin .append #[27,27] T A #[x,.slice (some ⟨k,0,none⟩) 1 i]) w r:=by
 have⟨f,o⟩:∃f:Obj,∀b,cV x b->w.heap[b]? =some f:=by by_cases D:∃b,cV x b;have⟨b,d⟩:=D;have⟨a,E⟩:=t.c3 d;exact⟨.cells a 3,λu F=>by grind [Hd]⟩;exact⟨.cells #[] 3,cK⟩
 have⟨p,q⟩:∃p:Obj,∀b a,cV x b->f=.cells a 3->p=.cells (a.setIfInBounds l.iN (i64 s)) 3:=by
  cases f with
  |cells a T I=>exact⟨.cells (a.setIfInBounds l.iN (i64 s)) 3,cK⟩
  |_=>exact⟨.cells #[] 3,cK⟩
 refine zC (w0:=w) t o B e j p q λv c y z=>C v c ?_ (λb d=>?_) z.k λb a d G=>?_;obtain⟨_,_,_,_,_,h⟩|⟨_,_,_,_,h⟩:=y<;>exact h;obtain⟨u,c',H,rfl,_⟩|⟨u,c',H,rfl,_⟩:=y;rw[oh (l':=0) (c':=0) d];grind;rw[oh (l':=0) (c':=0) d];grind;obtain h|⟨h,g⟩:=z.n b _ d G;grind;grind
def GL.mf{n0 mk ms:Nat}(h:GL w x l)(e:MF A n0 mk ms H B w t)(d:∀b,cV x b->¬A b):GL t x l:=by obtain h|⟨b,c,f,a,g,i,j⟩:=h;exact .inl h;exact .inr ⟨b,c,f,a,g,e.at_ (d b ⟨_,_,a⟩) i,j⟩
def JA(d:Nat)(w:cI)(f:cJ)(a:cM)(e:cI):Option cM->Prop
 |none=>e.heap[d]? =w.heap[d]?
 |some o=>a.length<=o.length/\∃c,e.heap[d]? =some (.cells #[c] 27)/\GL e c o/\∀b,cV c b->cV f b\/w.heap.size<=b
def WV(a b c d:Nat):cJ:=.func (.func 170) #[] #[di a,di b,di c,di d]
def GL.EJ(h:GL w x l)(a:w.heap[m]? =some (.cells #[y] 27)):∀b,cV x b->b≠m:=λb c e=>by subst e;have⟨d,f⟩:=h.c3 c;grind
theorem Ho{wp gp mk ms n0:Nat}{Z:List Sx}(ah:n0<=mk)(hn:n0<=ms)(ai:∀x∈Z,vO 100000 x)(hf:m<=fK H):
 ∀(t:Nat) (l c:cM) (la:dV) (U:Nat) (T ov:cJ) (w:cI),LB wp gp mk ms n0 H Z I m J k i j o A w->iJ (λb=>b=j) w la l->l.length<=U->l.length<=1000->(∀d∈l,d<Z.length)->GL w T c->(∀d∈c,d<Z.length)->t+c.length<=1000->w.heap[j]? =some (.cells #[ov] 27)->(∀b,cV ov b->b<w.heap.size)->
  Calls V.prog 169 #[.slice la l.length U,T,.int .i64 t,WV k i j o] w (vw λv w'=>MF (λx=>x=j) n0 mk ms H A w w'/\v=.bool (jJ (vx H Z m J) t l c).1/\JA j w T c w' (jJ (vx H Z m J) t l c).2)
 |0,l,c,la,U,T,ov,w,hB,hl,aa,aB,aC,y,aj,ak,N,aD=>by obtain⟨ba,bc,rfl,ab,aE⟩:=y.row;refine jb Tryz.func169 Tryz.ntmps169 ?_;refine fc (jX rfl (iM (VF hB ah hn ai hf ab aj cL N) (λw' h=>.inr ⟨rfl,h⟩) λv z ⟨e1,hv,C⟩=>?_));subst hv;exact .inl ⟨_,rfl,e1,rfl,dg _,_,C,y.mf e1 (y.EJ N),cK⟩
 |t+1,l,c,la,U,T,ov,w,hB,hl,aa,aB,aC,y,aj,ak,N,aD=>by
  have⟨p,hp⟩:=jQ (vx H Z m J);have al:=y.EJ N;refine jb Tryz.func169 Tryz.ntmps169 ?_;refine fc (lh cK (dm ?_));rw[<-hp];have aF:=(Jn (λx=>x=j) n0 mk ms H A).trans;refine ft (n:=l.length) (λg=>[(0,.slice la l.length U),(1,T),(2,i64 (t+1:Nat)),(3,WV k i j o),(16,.slice la l.length U),(17,i64 l.length),(18,i64 g)]) (λg w'=>(gl p t l c g).1=false/\MF (λx=>x=j) n0 mk ms H A w w'/\JA j w T c w' (gl p t l c g).2) ⟨by trivial,rfl,(Jn _ _ _ _ _ _).refl _,rfl⟩ ?_ ?_ ?_;rintro g z hk hJ;exact dK ⟨rfl,rfl,by trivial,hJ⟩;rintro g z hk ⟨ac,m1,B⟩;have ad:=hB.mf m1;have am:iJ (λb=>b=j) z la l:=hl.go cK λb W v y hc=>m1.cell y hc;have an:GL z T c:=y.mf m1 al;have s1:=m1.size;have⟨D,C,ao⟩:∃D,fC z j #[D] 27/\∀b,cV D b->b<z.heap.size:=by
   cases O:(gl p t l c g).2 with
   |none=>
    rw[O]at B;exact⟨ov,(show z.heap[j]? =w.heap[j]? from B).trans N,cK⟩
   |some W=>
    rw[O]at B;have⟨_,D,G,M,_⟩:=B;exact⟨D,G,λb y=>M.blk y⟩
  have aN:=dz.lt_of_heap C;obtain⟨lb,lo,aM,rfl,F⟩:=am g hk;have⟨d,hd⟩:=jQ (l[g]);rw[<-hd]at F;have aO:d<Z.length:=by grind [List.getElem_mem]
  refine eX g hk (cO F ?_);have hE:=Ye z c.length d;refine gZ 12 hE (Jn (λx=>x=j\/z.heap.size<=x) n0 mk ms H A) (λa b h=>h.mf ad.p)<| .exact (i64 ((g:Int)+1)) (λf _=>cW ⟨rfl,hE.refl _⟩)<| .exact (.slice (wG (pt lb lo) (g+1) U) (l.length-(g+1)) (U-(g+1))) (λf _=>A8 (g+1) cL aa ⟨rfl,hE.refl _⟩)<| .early rfl (λv f=>GN z.heap.size f v c) (λv a b h e=>h.pe e cL) (λf E=>?_) ?_;have aG:GL f T c:=an.keep E.e λb y=>iD (an.blk y);obtain⟨ba,bc,rfl,ab,aE⟩:=aG.row;exact cX (ng ab cL) λu w3 ⟨e3,hu⟩=>⟨(hu.low E.e.size).gn,e3.pe _ _ _⟩;refine .early rfl (λv f=>∃K,v=fa K 1 1/\z.heap.size<=K/\f.heap[K]? =some (.cells [Value.int .i64 d].toArray 3)) (λv a b ⟨K,h1,h2,h3⟩ e=>⟨K,h1,h2,?_⟩) (λf E=>er [i64 d] 3 λw3 K e3 ap y=>⟨⟨K,rfl,dw E.e.size ap,y⟩,e3.pe _ _ _⟩) ?_;have⟨aH,G,M,L⟩:=e.r K _ h2 h3;rw[G];have:aH=[Value.int .i64 d].toArray:=by apply Ob;grind
  grind;refine .early rfl (λv f=>GN z.heap.size f v (c++[d])) (λv a b h e=>h.pe e cK) (λf E aq aI ae Q=>?_) ?_;obtain⟨K,rfl,ap,ar⟩:∃K,aq=fa K 1 1/\z.heap.size<=K/\f.heap[K]? =some (.cells [Value.int .i64 d].toArray 3):=aI;have Q:GN z.heap.size f ae c:=Q;refine Ti Q.1 E.e.size cL ar λv w3 G M L X=>⟨⟨G,λb y=>(M b y).elim (Q.2 b) id⟩,L.trans (dA.refl (λ_=>False) w3) (λx _ hx=>Q.2 x hx) cK,λx cs hx hc=>?_,.inr (.inl λx hx=>E.e.block x hx cL)⟩;by_cases au:cV ae x;obtain q|q:=X x cs au hc;grind;refine⟨_,q,dt,λaR=>?_⟩;grind [Nat.lt_or_ge,Array.getElem?_setIfInBounds_self_of_lt,Array.getElem?_eq_none,Array.getElem?_setIfInBounds_ne];exact⟨cs,L.fL hc au,rfl,cK⟩;refine .exact (i64 ((t+1:Nat)-1)) (λf _=>gC ⟨rfl,hE.refl _⟩) ?_;have⟨P,hP⟩:=jQ (jJ p t (l.drop (g+1)) (c++[d]))
  refine .spec (λv f=>v=.bool P.1/\z.heap.size<=f.heap.size/\match P.2 with
   |none=>f.heap[j]? =z.heap[j]?
   |some W=>c.length<=W.length/\∃s,fC f j #[s] 27/\GL f s W/\(∀b,cV s b->z.heap.size<=b)/\∃b,cV s b) (λv a b ⟨h1,h2,h3⟩ e=>⟨h1,dw h2 e.e.size,?_⟩) (λf E af Y=>?_) ?_
  cases O:P.2 with
  |none=>
   rw[O]at h3;have h3:a.heap[j]? =z.heap[j]? :=h3;show b.heap[j]? =z.heap[j]?;rw[<-h3];exact e.e.block j cL cL
  |some W=>
   rw[O]at h3;have⟨G,s,M,L,X,b0,g5⟩:=h3;obtain he|he|he:=e.o;exact⟨G,s,he.at_ M,L.keep (he.keep λ_=>False) cK,X,b0,g5⟩;grind;grind
  have Y:GN z.heap.size f af (c++[d]):=Y;have M2:MF (λx=>x=j) n0 mk ms H A z f:=(E.mf ad.p).narrow λx hx hf=>hf.elim id λh=>cL;have aJ:=ad.mf M2;have aK:iJ (λb=>b=j) f (pt lb lo) l:=am.go cK λb W v y hc=>M2.cell y hc;have av:fC f j #[D] 27:=E.e.fL C cL;have ih:=Ho ah hn ai hf t (l.drop (g+1)) (c++[d]) _ (U-(g+1)) af D f aJ (aK.drop (g+1) aa) cK cK cK Y.1 cK cK av (λb y=>ep (ao b y) E.e.size);rw[<-hp,<-hP]at ih;have aw:(l.drop (g+1)).length=l.length-(g+1):=dt;rw[aw]at ih;rw[show((t+1:Nat):Int)-1=(t:Int) by simp];refine iM ih (λw' h=>.inr ⟨rfl,h⟩) ?_;rintro v w3 ⟨m3,rfl,R⟩;refine⟨⟨rfl,dw E.e.size m3.size,?_⟩,m3.wide cK⟩;cases O:P.2 with
  |none=>
   rw[O]at R;have R:w3.heap[j]? =f.heap[j]? :=R;grind
  |some W=>
   rw[O]at R;have⟨G,s,M,L,X⟩:=R;simp only[lU,fi,fO]at G;have⟨b0,c0,_,q0,_⟩:=L.v cL;exact⟨cL,s,M,L,λb y=>(X b y).elim (Y.2 b) λh=>dw E.e.size h,b0,by rw[q0];exact⟨_,_,rfl⟩⟩
  rintro f E aP ⟨rfl,aQ,hR⟩ af _ aq _ ae _;have M2:MF (λx=>x=j) n0 mk ms H A z f:=E.narrow cK;have ax:l.getD g 0=d:=cK;have ag:=EH p t l c g ac;rw[ax,<-hP]at ag;have ay:=aF _ _ _ m1 M2;have az:JA j w T c f (P.2.or (gl p t l c g).2):=by
   cases O:P.2 with
   |none=>
    rw[O]at hR;have hR:f.heap[j]? =z.heap[j]? :=hR;cases aA:(gl p t l c g).2 with
    |none=>
     rw[aA]at B;exact(show f.heap[j]? =w.heap[j]? from hR.trans B)
    |some W=>
     rw[aA]at B;have⟨G,s,M,L,X⟩:=B;exact⟨G,s,hR.trans M,L.mf M2 (L.EJ C),X⟩
   |some W=>
    rw[O]at hR;have⟨G,s,M,L,X,_⟩:=hR;exact⟨G,s,M,L,λb y=>.inr (dw s1 (X b y))⟩
  rw[<-show(gl p t l c (g+1)).2=P.2.or (gl p t l c g).2 by grind]at az;have S:(gl p t l c (g+1)).1=P.1:=cK;refine⟨λht=>?_,λaL=>?_⟩;have e:jJ p (t+1) l c=gl p t l c (g+1):=EI p t l c cL (S.trans ht);exact .inl ⟨_,rfl,ay,by rw[e,S,ht];rfl,cK⟩;exact cW ⟨by trivial,S.trans aL,ay,az⟩;rintro z ⟨ac,m1,B⟩;exact .inl ⟨_,rfl,m1,by show _=Value.bool (gl p t l c l.length).1;rw[ac];rfl,B⟩
def mK.Tj{wp gp mk ms:Nat}{n:List Sx}(h:mK wp gp mk ms H n I w)(p:∀(b:Nat) (a:eF) (d:cQ) (e:Nat×Nat),w.heap[b]? =some (Obj.cells a d e)->t.heap[b]? =some (Obj.cells a d e))(q:w.heap.size<=t.heap.size):mK wp gp mk ms H n I t:=by
 have cell:∀{f:Addr} {v:cJ},w.cell? f=some v->t.cell? f=some v:=λ{f v} c=>by unfold World.cell? at c⊢;split at c;rename_i a d e r;rw[p _ _ _ _ r];exact c;cases c
 have⟨s,u,x,y,z,A⟩:=h.at_;have⟨B,C,D,⟨a,E,F,G⟩,J,K⟩:=h.g.at_;refine⟨⟨⟨B,C,D,⟨a,p _ _ _ _ E,F,G⟩,λk i=>?_,cell K⟩,h.g.ok,ep h.g.mlt q,ep h.g.slt q,h.g.ne,h.g.gk⟩,h.len,h.bf,s,u,cell x,cell y,cell z,λk i=>?_⟩;have⟨b,o,l,m,L,M⟩:=J k i;exact⟨b,o,l,cell m,cell L,cell M⟩;have⟨b,o,l,m⟩:=A k i;exact⟨b,o,l,λj v N=>cell (m j v N)⟩
def kz(p:cM->Bool)(l:cM)(k:Nat):Bool×cM:=(List.range k).foldl (λa m=>if a.1 then a else((jJ p m l []).1,(jJ p m l []).2.getD a.2)) (false,[])
def qx(p:cM->Bool)(l:cM):cM:=(kz p l (l.length+1)).2
def wH(p:cM->Bool)(l:cM)(k:Nat):kz p l (k+1)=if(kz p l k).1 then kz p l k else((jJ p k l []).1,(jJ p k l []).2.getD (kz p l k).2):=by unfold kz;rw[mL,si];rfl
def EK(p:cM->Bool)(l:cM)(d:k<=m)(h:(kz p l k).1=true):kz p l m=kz p l k:=by
 induction m with
 |zero=>obtain rfl:k=0:=cL;rfl
 |succ m a=>
  obtain b|c:=gu k (m+1);rw[wH,a cL,h];rfl;obtain rfl:k=m+1:=cL;rfl
def Qo{wp gp mk ms n0:Nat}{f:List Sx}{s canv:Int}(h:mK wp gp mk ms H f s w)(hA:∀b,A b->b<w.heap.size)(hp:mg A mk ms H w)(aa:n0<=mk)(hn:n0<=ms)(ab:∀x∈f,vO 100000 x)(hf:m<=fK H):
 Calls V.prog 123 #[di wp,.int .i64 m,.int .i64 canv] w (vw λv J=>MA n0 mk ms H A w J/\∃a c,v=.slice a (qx (vx H f m canv) (dU H.tries f)).length c/\fN J a (qx (vx H f m canv) (dU H.tries f))/\(qx (vx H f m canv) (dU H.tries f)).length<=c):=by
 have ac:=h.g.vN;have h5:=ac.many;have aj:=h.len;have ai:=ur H.tries f;refine jb Tryz.func123 Tryz.ntmps123 ?_;refine eH λw1 wb e1 ak j=>eH λw2 fb X al u=>eH λw3 cb O am y=>eS λw4 B P an z=>?_;have j:fC w1 wb #[di wp] 133:=j;have u:fC w2 fb #[i64 m] 3:=u;have y:fC w3 cb #[i64 canv] 3:=y;have z:fC w4 B #[fl] 27:=z;have l1:=dz.lt_of_heap j;have l2:=dz.lt_of_heap u;have l3:=dz.lt_of_heap y;have l4:=dz.lt_of_heap z;have s1:=e1.size;have s2:=X.size;have s3:=O.size;have E4:Ext w w4:=((e1.trans X).trans O).trans P;refine cO (cN ((X.trans (O.trans P)).at_ j) rfl) (cX (Ep (h.ext E4)) ?_);rintro v Y ⟨N,Q⟩;obtain⟨oa,oc,rfl,_,ad⟩:=Q.row;have s4:=E4.size;have s5:=N.size;have ae:iJ (λb=>b=B) Y oa (dU H.tries f):=by have⟨a,c,R,q2,_⟩:=Q.Vq (A:=λb=>b=B) λb i=>cL;injection R with R;rw[R];exact q2
 have Z:=E4.trans N;have⟨A',D⟩:=jQ (λx=>A x\/x=B:Nat->Prop);have hB:LB wp gp mk ms n0 H f s m canv wb fb B cb A' Y:=by refine⟨h.ext Z,(hp.more (A':=A') λb i=>?_).ext Z,λb i=>?_,(X.trans (O.trans (P.trans N))).at_ j,(O.trans (P.trans N)).at_ u,(P.trans N).at_ y,λJ hc hs=>h.Tj (λb cs t fz i=>hc b cs t fz (iD (dz.lt_of_heap i)) (Z.at_ i)) cL,⟨cL,cL,cL⟩,by rw[D];exact .inr rfl⟩;rw[D]at i;exact i.imp id λe=>cL;rw[D]at i;obtain i|i:=i;have:=hA b i;omega;omega
 have⟨p,S⟩:=jQ (vx H f m canv);rw[<-S];have T:∀{E:cI} {F:cJ} {l:cM},MF (λx=>x=B) n0 mk ms H A' Y E->GL E F l->MA n0 mk ms H A w E/\∃a c,F=.slice a l.length c/\fN E a l/\l.length<=c:=λK hg=>by refine⟨⟨K.after (Z.iF n0) λx hx=>cL,λ_=>(K.m hB.a hB.p).fewer λb i=>by rw[D];exact .inl i⟩,?_⟩;have⟨a,c,R,q2,q3⟩:=hg.row;exact⟨a,c,R,q2,q3⟩
 refine dm (cW ?_);refine ft (n:=(dU H.tries f).length+1) (λk=>[(3,di wb),(4,di fb),(5,di cb),(7,di B),(8,.slice oa (dU H.tries f).length oc),(14,i64 ((dU H.tries f).length+1:Nat)),(15,i64 k)]) (λk J=>(kz p (dU H.tries f) k).1=false/\MF (λx=>x=B) n0 mk ms H A' Y J/\∃F,fC J B #[F] 27/\GL J F (kz p (dU H.tries f) k).2) ⟨by trivial,rfl,(Jn _ _ _ _ _ _).refl _,_,N.at_ z,.inl ⟨rfl,rfl⟩⟩ ?_ ?_ ?_;rintro k E hk hJ;exact dK ⟨rfl,rfl,by trivial,hJ⟩;rintro k E hk ⟨U,K,F,q,C⟩;have af:=hB.mf K;have ih:=Ho aa hn ab hf k (dU H.tries f) [] oa oc fl F E af (ae.go (λ_ h=>.inl h) λb o v i hc=>K.cell i hc) ad cL (λd hd=>jI hd) (.inl ⟨rfl,rfl⟩) (λd hd=>by cases hd) pY q (λb i=>C.blk i);rw[<-S]at ih;refine iM ih (λJ h=>.inr ⟨rfl,h⟩) ?_;rintro v w7 ⟨m7,rfl,G⟩;have M7:=(Jn (λx=>x=B) n0 mk ms H A').trans _ _ _ K m7;have r:=wH p (dU H.tries f) k;rw[U,cR dt]at r;have⟨I,L,W⟩:∃I,fC w7 B #[I] 27/\GL w7 I (kz p (dU H.tries f) (k+1)).2:=by
  rw[r];cases hq:(jJ p k (dU H.tries f) []).2 with
  |none=>
   rw[hq]at G;exact⟨F,(show w7.heap[B]? =E.heap[B]? from G).trans q,C.mf m7 (C.EJ q)⟩
  |some o=>
   rw[hq]at G;have⟨_,ag,g1,g2,_⟩:=G;exact⟨ag,g1,g2⟩
 have M:(kz p (dU H.tries f) (k+1)).1=(jJ p k (dU H.tries f) []).1:=by rw[r]
 refine⟨λht=>?_,λah=>?_⟩;refine cO (cN L rfl) (.inl ⟨_,rfl,?_⟩);have e:qx p (dU H.tries f)=(kz p (dU H.tries f) (k+1)).2:=by unfold qx;rw[EK p (dU H.tries f) (show k+1<=(dU H.tries f).length+1 by omega) (M.trans ht)]
 rw[e];exact T M7 W;exact cW ⟨by trivial,M.trans ah,M7,I,L,W⟩;rintro E ⟨U,K,F,q,C⟩;exact cO (cN q rfl) (.inl ⟨_,rfl,T K C⟩)
def Lm(D:eJ)(ps:cM):Prop:=∀k (h:k<ps.length),ps[k]<(ef D k).length
def Qp(D:eJ):Sp->Prop
 |none=>True
 |some (l,_,_)=>∃ps:cM,l=ps.map Int.ofNat/\ps.length=D.opn.length/\Lm D ps
def Hp(b x:Sp):ly b x=x\/ly b x=b:=by unfold ly;grind
theorem yD(D:eJ):∀(n:Nat) (ps:cM) (L:Nat->Nat) (b:Sp),ps.length+n=D.opn.length->Lm D ps->Qp D b->Qp D (eG D n ps L b)
 |0,ps,L,b,j,a,e=>by simp only[eG];obtain h|h:=Hp b (eT D L ps);rw[h];unfold eT;split;trivial;exact⟨ps,rfl,cL,a⟩;grind
 |n+1,ps,L,b,j,a,e=>by
  simp only[eG]
  have g:∀(d:cM) (b:Sp),(∀i∈d,i<(ef D ps.length).length)->Qp D b->Qp D (d.foldl (λb i=>eG D n (ps++[i]) (jM (fI D ps.length) ((ef D ps.length).getD i []) L) b) b):=by
   intro d;induction d with
   |nil=>grind
   |cons i r l=>
    intro b f e;rw[mj];refine l _ cK (yD D n _ _ _ cK (λk o=>?_) e);obtain c|m:=gu k ps.length;rw[ml c];exact a k c;obtain rfl:k=ps.length:=cK;simp only[sj (dg _),lK,nQ];exact f i fF
  grind
def Hq(D:eJ):Qp D (gf D):=yD D _ [] L0 none dt (λk a=>by simp at a) trivial
def lE(D:eJ)(ps:cM):Nat->Nat->Nat
 |0=>L0
 |k+1=>jM (fI D k) ((ef D k).getD (ps.getD k 0) []) (lE D ps k)
def rT(G:Gd)(L:Nat->Nat)(k:Nat):List (Nat×cM):=(List.range k).flatMap λs=>((fh G (L s)).getD []).map λl=>(s,l)
def pi(G:Gd)(D:eJ):Option (List (Nat×cM)):=match gf D with
 |none=>none
 |some (l,_,_)=>some (rT G (lE D (l.map Int.toNat) l.length) 6)
theorem yE(G:Gd)(L:Nat->Nat)(k:Nat):rT G L (k+1)=rT G L k++((fh G (L k)).getD []).map λl=>(k,l):=by unfold rT;rw[mL,List.flatMap_append];simp
theorem vy{G:Gd}{L:Nat->Nat}:∀k,(rT G L k).length<=5*k
 |0=>dg _
 |k+1=>by
  rw[yE,lU,nR];have:=vy (G:=G) (L:=L) k;have a:((fh G (L k)).getD []).length<=5:=by
   cases h:fh G (L k)with
   |none=>simp
   |some b=>exact lR h
  omega
theorem vz{s:Nat}{a:List cM}(h:fh H s=some a):∀l∈a,l.length<=5:=λl b=>by unfold fh at h;grind [Option.some.inj,Option.map_eq_some_iff,rQ]
def uU:List (Nat×cM)->dN->dN
 |p::r,u::s=>.int .i64 p.1::u::uU r s
 |_,_=>[]
theorem wI(p:Nat×cM)(u:cJ):∀(ps:List (Nat×cM)) (a:dN),a.length=ps.length->uU (ps++[p]) (a++[u])=uU ps a++[.int .i64 p.1,u]
 |[],[],_=>rfl
 |q::r,v::s,h=>by simp only[nP,uU];rw[wI p u r s cK]
theorem C1:∀(ps:List (Nat×cM)) (a:dN),a.length=ps.length->(uU ps a).length=2*ps.length
 |[],[],_=>rfl
 |q::r,v::s,h=>by simp only[uU,fi];rw[C1 r s cK];omega
theorem C2:∀(ps:List (Nat×cM)) (a:dN),a.length=ps.length->∀k (h:k<ps.length),(uU ps a)[2*k]? =some (.int .i64 ps[k].1)/\(uU ps a)[2*k+1]? =a[k]?
 |q::r,v::s,h,0,_=>⟨rfl,rfl⟩
 |q::r,v::s,h,k+1,b=>by have:=C2 r s cK k cK;grind [List.getElem?_cons_succ,uU]
def mh(n0:Nat)(w:cI)(v:cJ)(ps:List (Nat×cM)):Prop:=∃a:dN,a.length=ps.length/\cZ n0 29 [.int .i64 0,.slice none 0 0] w v ps.length (uU ps a)/\∀k (h:k<ps.length),∃u,a[k]? =some u/\eK n0 w u ps[k].2
def ll(w:cI)(a:dV)(ps:List (Nat×cM)):Prop:=∀k (h:k<ps.length),∃b o c d,a=some ⟨b,o,none⟩/\w.cell? ⟨b,o+k*2,none⟩=some (.int .i64 ps[k].1)/\w.cell? ⟨b,o+k*2+1,none⟩=some (.slice c ps[k].2.length d)/\fN w c ps[k].2/\ps[k].2.length<=d
section
variable{n0:Nat}{w w':cI}{v:cJ}{ps:List (Nat×List Nat)}
theorem mh.nil(n0:Nat)(w:cI):mh n0 w (.slice none 0 0) []:=⟨[],rfl,cZ.nil _ _ _ _,cK⟩
theorem mh.iF{m:Nat}(h:mh n0 w v ps)(e:jH m w w'):mh n0 w' v ps:=by have⟨a,b,c,d⟩:=h;refine⟨a,b,c.iF e,λk f=>?_⟩;have⟨u,g,i⟩:=d k f;exact⟨u,g,cZ.iF i e⟩
theorem mh.ext(h:mh n0 w v ps)(e:Ext w w'):mh n0 w' v ps:=h.iF (e.iF 0)
theorem mh.low{a:Nat}(h:mh n0 w v ps)(b:a<=n0):mh a w v ps:=by have⟨c,d,e,f⟩:=h;exact⟨c,d,e.low b,λk g=>by have⟨u,i,j⟩:=f k g;exact⟨u,i,j.low b⟩⟩
theorem mh.blk(h:mh n0 w v ps){b:Nat}(a:cV v b):n0<=b/\b<w.heap.size:=by have⟨d,_,c,_⟩:=h;exact c.blk a
theorem mh.row(h:mh n0 w v ps):∃a c,v=.slice a ps.length c/\ll w a ps/\ps.length<=c:=by obtain⟨e,f,⟨r,⟨s,rfl⟩|⟨b,c,t,x,rfl,g,y,i,z,A,B⟩⟩,j⟩:=h;exact⟨none,0,cK,λk d=>cL,cL⟩;refine⟨_,c,rfl,λk d=>?_,i⟩;have⟨u,C,l⟩:=j k d;obtain⟨m,n,rfl,o,p⟩:=l.row;have⟨D,E⟩:=C2 ps e f k d;have q:=C1 ps e f;refine⟨b,0,m,n,rfl,cN g ?_,cN g ?_,o,p⟩;grind;grind
theorem Ln{k:nB}{q:Array Bool}(h:mh n0 w v ps)(m:n0<=w.heap.size){b c:Nat}{u:cJ}{p:Nat×cM}(n:eK n0 w u p.2)(r:w.heap[b]? =some (.cells [Value.int .i64 p.1,u].toArray 29))(d:ps.length+1<=1000000) (s:∀e w',mh n0 w' e (ps++[p])->(∀W,Ext W w->W.heap.size<=n0->Ext W w')->dA (cV v) w w'->(∀b,cV e b->cV v b\/w.heap.size<=b)->k e w'):y8 V.prog (builtin .append #[26,26] T q #[v,.slice (some ⟨b,0,none⟩) 1 c]) w k:=by
 have⟨t,D,j,y⟩:=h;have f:u.oneCell'=true:=by obtain⟨a,c,rfl,_⟩:=eK.row n;rfl
 refine gR Vo j m r d (λe w' E l z=>s e w' ⟨t++[u],cK,by grind [wI],λi F=>?_⟩ (λW A B=>A.iI l j B) l z) rfl (by show sD [u]=true;simp[sD,f]);obtain g|C:=gu i ps.length;have⟨x,G,o⟩:=y i g;refine⟨x,cK,?_⟩;rw[ml g];exact cZ.keep o l (gU o j cK);obtain rfl:i=ps.length:=cK;refine⟨u,cK,?_⟩;simp only[sj (dg _),lK,nQ];exact cZ.keep n l (gU n j cK)
end
def Tk(a:Nat)(L:Nat->Nat)(w:cI):Prop:=w.heap[a]? =some (.cells #[.int .u8 (L 0),.int .u8 (L 1),.int .u8 (L 2),.int .u8 (L 3),.int .u8 (L 4),.int .u8 (L 5)] 204)
def Tk.cell{a:Nat}{L:Nat->Nat}{w:cI}(h:Tk a L w){s:Nat}(b:s<6):w.cell? ⟨a,s,none⟩=some (.int .u8 (L s)):=by have:s=0\/s=1\/s=2\/s=3\/s=4\/s=5:=cL;obtain rfl|rfl|rfl|rfl|rfl|rfl:=this<;>exact cN h rfl
def VG{w:cI}{k:dB}{a:Nat}{L:Nat->Nat}(h:Tk a L w)(s v:Nat)(e:s<6)(b:∀w',dA (λx=>x=a) w w'->Tk a (I3 L s v) w'->k w'):Ed V.prog (Instr.storeAt 154 (.pointer (some ⟨a,0+s,none⟩)) (.int .u8 v)) w k:=by have:s=0\/s=1\/s=2\/s=3\/s=4\/s=5:=cL;obtain rfl|rfl|rfl|rfl|rfl|rfl:=this<;>exact dI h λw' c d=>b w' c (by unfold Tk;rw[d];rfl)
def Tl{k:nB}(L:Nat->Nat)(s:Nat)(a:s<6)(h:k (.int .u8 (L s)) w):jL V.prog (Instr.index 204 (.agg #[.int .u8 (L 0),.int .u8 (L 1),.int .u8 (L 2),.int .u8 (L 3),.int .u8 (L 4),.int .u8 (L 5)]) (.int .i64 s)) w k:=by have:s=0\/s=1\/s=2\/s=3\/s=4\/s=5:=cL;obtain rfl|rfl|rfl|rfl|rfl|rfl:=this;exact⟨_,w,Gk _ _ _ _ _ _ w,h⟩;exact⟨_,w,Gl _ _ _ _ _ _ w,h⟩;exact⟨_,w,Gm _ _ _ _ _ _ w,h⟩;exact⟨_,w,Gn _ _ _ _ _ _ w,h⟩;exact⟨_,w,Gp _ _ _ _ _ _ w,h⟩;exact⟨_,w,Gq _ _ _ _ _ _ w,h⟩
theorem A9{D:eJ}{ps:cM}(a:H.doors.length<=5)(b:∀d∈D.opn,d<H.doors.length):∀k,k<=D.opn.length->∀s,ko H (lE D ps k s)
 |0,_,s=>ko.zero H
 |k+1,e,s=>by have c:=A9 (ps:=ps) a b k cL s;simp only[lE,jM];split;exact c.ot (b _ (by unfold fI;grind)) a;grind
def ML.rows{o:Option (List cM)}(h:ML A o x D w):∃a c,x=.slice a (o.getD []).length c/\mQ A w a (o.getD []):=by
 cases o with
 |none=>exact⟨none,0,h.1,λk b=>by simp at b⟩
 |some d=>
  have⟨_,a,c,e,f,_⟩:=h;grind
def WW(a:Nat)(o:Option (List (Nat×cM)))(v:cJ)(w:cI):Prop:=match o with
 |none=>v=.tuple #[.slice none 0 0,.bool false]
 |some b=>∃u,v=.tuple #[u,.bool true]/\mh a w u b
def Tm{wp gp mk ms n0:Nat}{G:Gd}{xs:List Sx}(h:mK wp gp mk ms G xs I w)(hA:∀b,A b->b<w.heap.size)(hp:mg A mk ms G w)(ao:n0<=mk)(hn:n0<=ms)(aO:∀x∈xs,vO 100000 x)(hf:m<=fK G):
 Calls V.prog 117 #[di wp,.int .i64 m] w (vw λv t=>MA n0 mk ms G A w t/\WW w.heap.size (pi G (dM G xs m)) v t):=by
 have ap:=h.g.vN;have h5:=ap.many;have aq:=h.len;refine jb Tryz.func117 Tryz.ntmps117 ?_;refine cX (AZ h hA hp ao hn aO hf) ?_;rintro v w1 ⟨m1,pb,rfl,hP⟩;have hN:∀b,Hf w.heap.size w1 b->b<w1.heap.size:=λb z=>by have⟨_,_,_,_,z⟩:=z;grind
 refine iM (Hm hP hN) (λt h=>.inr ⟨rfl,h⟩) ?_;rintro v w2 ⟨e2,y,rfl,T⟩;have hD:∀d∈(dM G xs m).opn,d<G.doors.length:=λd hd=>by rw[<-aq];exact jI hd
 have B:=Hb ap aq m;have ae:=Hq (dM G xs m);unfold pi;have⟨D,aP⟩:=jQ (dM G xs m);rw[<-aP]at hP T hD B ae⊢;have⟨ya,yl,yc,ym,yk,yb⟩:=y;refine eS λw3 sb e3 aQ ar=>dI ar λw4 k4 C=>?_;have C:fC w4 sb #[.slice ya yl yc,i64 ym,i64 yk,.bool yb] 199:=C;have au:Ext w2 w4:=e3.cS k4 aQ;have af:Ext w1 w4:=e2.trans au;have s2:=e2.size;have bl:=af.size;cases hq:gf D with
 |none=>
  rw[hq]at T;have T:(⟨ya,yl,yc,ym,yk,yb⟩:SV)=⟨none,0,0,0,0,false⟩:=T;injection T with _ _ _ _ _ T;subst T;exact cO (cN C rfl) (eC (jX rfl (.inl ⟨_,rfl,(zg n0 mk ms G A).trans _ _ _ m1 (af.ma _ _ _ _ _),rfl⟩)))
 |some s=>
  have⟨l,mm,nn⟩:=s;rw[hq]at T ae;obtain⟨r,rfl,bm,aR⟩:=ae;have⟨y1,y2,y3,y4,y5⟩:=T;simp only at y1 y2 y3 y4 y5;subst y3;have y4:yl=r.length:=cK;subst y4;have aS:∀i (hi:i<r.length),∃b,ya=some (dq b 0)/\w1.heap.size<=b/\w2.cell? (dq b i)=some (i64 r[i]):=λi hi=>by obtain⟨h0,_⟩|⟨_,b,g1,g2,g3,_,fz,_,g4⟩:=y5;grind;refine⟨b,g2,g1,?_⟩;simp only[World.cell?,g4];grind [ie]
  clear y5;refine cO (cN C rfl) (eC (lh rfl (eS λw5 J e5 bn aa=>?_)));have aT:Tk J L0 w5:=aa;have av:=af.trans e5;have aU:=au.trans e5;have bo:=dz.lt_of_heap aa;have aV:fY (Hf w.heap.size w1) pb D w5:=hP.same λb z=>av.block b (hN b z);have⟨wk,u1,u2,fz,_,ab,aW,aw⟩:=aV.at_;have E:∀{b:Nat},Hf w.heap.size w1 b->¬b=J:=cK;have c1:∀{t},dA (λx=>x=J) w5 t->t.cell? (dq pb 1)=some u1:=λk=>k.fq (by simp only[World.cell?,ab];rfl) (E hP.lt);have c2:∀{t},dA (λx=>x=J) w5 t->t.cell? (dq pb 2)=some u2:=λk=>k.fq (by simp only[World.cell?,ab];rfl) (E hP.lt);have bp:=dz.lt_of_heap C;refine cO (cN (e5.at_ C) rfl) (dm ?_);refine ft (n:=r.length) (λi=>[(0,di wp),(6,di pb),(8,di J),(29,.slice ya r.length yc),(30,i64 r.length),(31,i64 i)]) (λi t=>dA (λx=>x=J) w5 t/\Tk J (lE D r i) t) ⟨by trivial,dA.refl _ _,aT⟩ ?_ ?_ ?_;rintro i w6 hi hJ;exact dK ⟨rfl,rfl,by trivial,hJ⟩;rintro i w6 hi ⟨k6,ag⟩;have bq:i<5:=iD B.five;obtain⟨ah,rfl,bi,ax⟩:=aS i hi;have ay:w6.cell? (dq ah i)=some (i64 r[i]):=k6.fq (aU.cell ax) (λ(e:ah=J)=>by have:=o8 ax;grind);have⟨n,aX⟩:=jQ (r[i]);have F:=aR i hi;rw[<-aX]at ay F;refine eX i hi (cO (by rw[dj];omega) ?_);have U:i<D.lists.length:=by rw[B.len];omega
  have az:i<D.opn.length:=cL;have⟨b2,br,ui,aY,aA,aZ,a0⟩:=aw.at_ i U;have a1:ef D i=D.lists[i]:=by unfold ef;grind
  rw[a1]at F;have⟨b3,bs,bt,a2,aB,a3,K⟩:=a0.at_ n F;have⟨a4,a5,ai⟩:=K.len;have⟨f,M⟩:=jQ (D.lists[i][n]);rw[<-M]at K ai;have bj:∀s∈f,s<6:=by rw[M];exact B.shift _ (eB U) _ (eB F)
  have aC:f.length<=65536:=by rw[M];exact B.long _ (eB U) _ (eB F)
  refine cO (c2 k6) ?_;rw[aY];refine eX i U (cO (by rw[dj];exact k6.fq aZ (E aA)) ?_);rw[a2];refine eX n F (cO (by rw[dj];exact k6.fq a3 (E aB)) ?_);rw[ai];have N:lE D r (i+1)=jM (fI D i) f (lE D r i):=by grind [getD_eq,lE]
  have⟨d,hd⟩:=jQ (fI D i);have a6:d=D.opn[i]:=by grind [getD_eq,fI]
  have aD:d<5:=by grind [List.getElem_mem]
  rw[<-hd]at N;have⟨b4,bu,ud,a7,aE,a8,aj⟩:=aW.at_ i az;have aj:ud=i64 d:=by rw[a6];exact aj
  subst aj;have aF:∀s,s<6->lE D r i s<32:=λs _=>(A9 h5 hD i cL s).1;refine dm<|ft (n:=f.length) (λj=>[(0,di wp),(6,di pb),(8,di J),(9,i64 i),(29,fa ah r.length yc),(30,i64 r.length),(31,i64 i),(45,.slice a4 f.length a5),(46,i64 f.length),(47,i64 j)]) (λj t=>dA (λx=>x=J) w5 t/\Tk J (jM d (f.take j) (lE D r i)) t) ⟨by trivial,k6,?_⟩ ?_ ?_ ?_;have:jM d (f.take 0) (lE D r i)=lE D r i:=by grind [jM]
  grind;rintro j w7 W hJ;exact dK ⟨rfl,rfl,by trivial,hJ⟩;rintro j w7 W ⟨k7,O⟩;have⟨b5,bv,us,X,aG,a9,al⟩:=K.at_ j W;have⟨s,hs⟩:=jQ (f[j]);have al:us=i64 s:=by rw[hs];exact al
  subst al;have P:s<6:=by grind [List.getElem_mem]
  rw[ai]at X;injection X with X _ bw;subst X;refine eX j W (cO (by rw[dj];exact k7.fq a9 (E aG)) ?_);have aH:jM d (f.take j) (lE D r i) s<32:=Eb aD aF s P;refine dD dC (rJ s 6 P (dl (by rw[dj];exact O.cell P) (dl (c1 k7) ?_)));rw[a7];refine gB i az (dl (by rw[dj];exact k7.fq a8 (E aE)) (iW dC _ (λw8 e8=>zy _ d w8 aH aD) (rJ s 6 P λw8 e8=>?_)));have ba:Tk J (jM d (f.take j) (lE D r i)) w8:=e8.at_ O;refine VG ba s _ P λw9 k9 bx=>cW ⟨by trivial,(k7.trans (e8.keep λ_=>False) (λ_ _ h=>h) cK).trans k9 cK cK,?_⟩;grind [CC];rintro w7 ⟨k7,O⟩;rw[jN,<-N]at O;exact cW ⟨by trivial,k7,O⟩;rintro w6 ⟨k6,ag⟩;have aC:(List.map Int.ofNat r).length=r.length:=dt;have aI:(List.map Int.ofNat r).map Int.toNat=r:=by simp[zJ]
  simp only[aC,aI];have⟨q,aJ⟩:=jQ (lE D r r.length);rw[<-aJ]at ag⊢;have bc:∀s,ko G (q s):=λs=>by rw[aJ];exact A9 h5 hD _ cL s
  have bd:Ext w1 w6:=av.cS k6 cL;have m6:MA n0 mk ms G A w w6:=(zg n0 mk ms G A).trans _ _ _ m1 (bd.ma _ _ _ _ _);refine ew (vs:=[.int .u8 (q 0),.int .u8 (q 1),.int .u8 (q 2),.int .u8 (q 3),.int .u8 (q 4),.int .u8 (q 5)]) (λj v W=>by rw[dj];exact cN ag cK) ?_;have be:∀b,¬cV fl b:=λb z=>by have⟨_,_,z⟩:=z;grind
  refine jG (n:=6) (λk v=>[(0,di wp),(13,v),(66,.agg #[.int .u8 (q 0),.int .u8 (q 1),.int .u8 (q 2),.int .u8 (q 3),.int .u8 (q 4),.int .u8 (q 5)]),(67,i64 k)]) (λk v t=>jH n0 w t/\mg (λx=>A x\/cV v x) mk ms G t/\mh w.heap.size t v (rT G q k)) (fl) ⟨by trivial,m6.1,(m6.2 hp).more cK,mh.nil _ _⟩ ?_ ?_ ?_;rintro k v w7 hk hJ;exact dK ⟨rfl,rfl,by trivial,hJ⟩;rintro k v w7 hk ⟨m7,Y,Z⟩;have h7:=h.iF m7;have s7:=m7.size;have⟨sa,sc,g1,g2,g3,g4⟩:=h7.at_;refine Tl q k hk (cO g1 (cX (AT h7.g (λb z=>z.elim cK λz=>(Z.blk z).2) Y ao hn (bc k)) ?_));rintro v8 w8 ⟨m8,u,b,rfl,bf⟩;have M8:=m7.trans m8.1;obtain⟨a,c,rfl,ac⟩:=bf.rows;have⟨H,aK⟩:=jQ ((fh G (q k)).getD []);rw[<-aK]at ac⊢;have bk:H.length<=5/\∀l∈H,l.length<=5:=by
   rw[aK];cases hw:fh G (q k)with
   |none=>simp
   |some bz=>exact⟨lR hw,vz hw⟩
  have bA:=vy (G:=G) (L:=q) k;refine dm (jG (n:=H.length) (λj v=>[(0,di wp),(13,v),(14,i64 k),(66,.agg #[.int .u8 (q 0),.int .u8 (q 1),.int .u8 (q 2),.int .u8 (q 3),.int .u8 (q 4),.int .u8 (q 5)]),(67,i64 k),(80,.slice a H.length c),(81,i64 H.length),(82,i64 j)]) (λj v t=>jH n0 w t/\mg (λx=>A x\/cV v x) mk ms G t/\mh w.heap.size t v (rT G q k++(H.take j).map λl=>(k,l))/\mQ (λx=>A x\/cV v x) t a H) v ⟨by trivial,M8,m8.2 Y,eV (Z.iF m8.1),ac⟩ ?_ ?_ ?_);rintro j v w9 W hJ;exact dK ⟨rfl,rfl,by trivial,hJ⟩;rintro j v w9 W ⟨m9,am,an,aL⟩;obtain⟨bb,oo,a',c',_,rfl,hc,bg,_⟩:=aL j W;refine eX j W (cO hc (cX (ng bg.n cK) λu bB hu=>?_));have⟨Q,hu⟩:=hu;obtain⟨ua,uc,rfl,_,_⟩:=hu.row;have s9:=m9.size;have bC:=Q.size;refine ez (.agg #[i64 k,.slice ua H[j].length uc]) (er [i64 k,.slice ua H[j].length uc] 29 λaM nb R bD z=>?_);have bh:jH n0 w aM:=m9.trans ((Q.trans R).iF n0);have ad:=(an.ext Q).ext R;have S:=(am.ext Q).ext R;have aN:mQ (λx=>A x\/cV v x) aM (pt bb oo) H:=aL.iF (n0:=0) ((Q.trans R).iF 0);refine Ln (p:=(k,H[j])) ad cK (cZ.ext (hu.low cL) R) z pY λv' bE g1 g2 g3 g4=>cW ⟨v',by trivial,?_,?_,?_,?_⟩;have⟨us,_,q2,_⟩:=ad;exact bh.iI g3 q2 (dg _);exact S.go cK (λb o v z hc=>g3.fq hc cK) λb o z ho=>g3.fL ho λhf=>by obtain rfl|rfl:=z;exact S.ak (.inr hf);exact S.asm (.inr hf)
  rw[iw W,oC,<-List.append_assoc];grind;exact aN.go cK λb o v z hc=>g3.fq hc cK;rintro v w9 ⟨m9,am,an,_⟩;rw[jN]at an;refine cW ⟨v,by trivial,m9,am,?_⟩;grind [yE];rintro v w7 ⟨m7,Y,Z⟩;exact .inl ⟨_,rfl,⟨m7,λ_=>Y.fewer cK⟩,_,rfl,Z⟩
def pj{b:Type}(a:b->Nat)(es:List b):Nat->List b
 |0=>es
 |j+1=>match es[j+1]?,es[j]? with
  |some x,some y=>if a x<a y then pj a ((es.set (j+1) y).set j x) j else es
  |_,_=>es
def nh{b:Type}(a:b->Nat)(es:List b):Nat->List b
 |0=>es
 |k+1=>pj a (nh a es k) (k+1)
def qY{a:Type}(b:a->Nat)(es:List a):List a:=nh b es (es.length-1)
theorem C3{b:Type}(a:b->Nat):∀(j:Nat) (es:List b),(pj a es j).length=es.length
 |0,es=>rfl
 |j+1,es=>by simp only[pj];split;split;rw[C3 a j];simp;rfl;rfl
theorem rU{b:Type}(a:b->Nat)(es:List b):∀k,(nh a es k).length=es.length
 |0=>rfl
 |k+1=>by simp only[nh];rw[C3,rU a es k]
theorem C4{d:Type}(c:d->Nat):∀(j:Nat) (es:List d) (x:d),x∈pj c es j->x∈es
 |0,es,x,h=>h
 |j+1,es,x,h=>by simp only[pj]at h;split at h;rename_i a b e f;split at h;have:=C4 c j _ x h;obtain h|rfl:=sO this;obtain h|rfl:=sO h;exact h;exact pA f;exact pA e;exact h;exact h
theorem vA{b:Type}(a:b->Nat)(es:List b):∀(k:Nat) (x:b),x∈nh a es k->x∈es
 |0,x,h=>h
 |k+1,x,h=>vA a es k x (C4 a _ _ x h)
theorem C5{c d:Type}(b:c->Nat)(a:d->Nat)(f:c->d)(e:∀x,a (f x)=b x):∀(j:Nat) (es:List c),pj a (es.map f) j=(pj b es j).map f
 |0,es=>rfl
 |j+1,es=>by
  simp only[pj,sN];cases g:es[j+1]? with
  |none=>rfl
  |some x=>
   cases h:es[j]? with
   |none=>rfl
   |some y=>
    simp only[mn,e];split;rw[<-C5 b a f e j];simp;rfl
theorem Ba{c d:Type}(b:c->Nat)(a:d->Nat)(f:c->d)(e:∀x,a (f x)=b x)(es:List c):∀k,nh a (es.map f) k=(nh b es k).map f
 |0=>rfl
 |k+1=>by simp only[nh];rw[Ba b a f e es k,C5 b a f e]
def Nm{c d:Type}(b:c->Nat)(a:d->Nat)(f:c->d)(e:∀x,a (f x)=b x)(es:List c):qY a (es.map f)=(qY b es).map f:=by unfold qY;rw[nR,Ba b a f e]
structure El where
 s:Nat
 a:Option Addr
 c:Nat
 l:List Nat
def xd(e:El):dN:=[.int .i64 e.s,.slice e.a e.l.length e.c]
structure qZ(sb:Nat)(es:List El)(w:cI):Prop where
 out:∃cs,w.heap[sb]? =some (.cells cs 29)/\es.length*2<=cs.size/\∀k (h:k<es.length) j v,(xd es[k])[j]? =some v->cs[k*2+j]? =some v
section
variable{w:cI}{sb:Nat}{es:List El}
def qZ.ext{a:cI}(h:qZ sb es w)(e:Ext w a):qZ sb es a:=by have⟨b,c,d⟩:=h.out;exact⟨b,e.at_ c,d⟩
def qZ.keep{a:cI}{F:dn}(h:qZ sb es w)(k:dA F w a)(b:¬F sb):qZ sb es a:=by have⟨c,d,e⟩:=h.out;exact⟨c,k.fL d b,e⟩
def qZ.cell(h:qZ sb es w)(k:Nat)(a:k<es.length):∀j v,(xd es[k])[j]? =some v->w.cell? ⟨sb,0+k*2+j,none⟩=some v:=λj v b=>by have⟨e,c,f,d⟩:=h.out;exact cN c (by rw[dj];exact d k a j v b)
def UI{s:dB}(h:qZ sb es w)(k:Nat)(z:k<es.length)(e:El)(n:∀a,dA (λx=>x=sb) w a->qZ sb (es.set k e) a->s a):Ed V.prog (Instr.storeAt 29 (.pointer (some ⟨sb,0+k*2,none⟩)) (.agg (xd e).toArray)) w s:=by
 have⟨o,p,q,r⟩:=h.out;have A:k*2+2<=o.size:=by have:=rm 2 (show k+1<=es.length by omega);omega
 refine jp p (by show 0+k*2+2<=_;omega) (λa t c=>n a t ⟨_,c,by rw[pO];simpa using q,λi v j u b=>?_⟩) (gK (l:=xd e) rfl);have y:j<2:=(kX.1 b).1;rw[oW _ _ _ _ (by show 0+k*2+2<=_;omega)];have d:(Value.agg (xd e).toArray).cells.toList=xd e:=rfl;rw[d];have f:(xd e).length=2:=rfl;rw[f];have g:i<es.length:=eV v;by_cases m:i=k;subst m;rw[List.getElem_set_self]at b;rw[cT cL,show i*2+j-(0+i*2)=j by omega];exact b;rw[List.getElem_set_ne cL]at b;rw[cR cL];exact r i g j u b
end
def Tn(s t:Nat)(a b:dV)(l g c h:Nat)(w:cI)(r:s<=1000000)(u:t<=1000000):Calls V.prog 157 #[.agg #[.int .i64 s,.slice a l c],.agg #[.int .i64 t,.slice b g h]] w (fM λv k=>v=.int .i64 ((s:Int)-t)/\Ext w k):=by refine jb Tryz.func157 Tryz.ntmps157 ?_;refine eH λm n o p e=>eH λq f i j d=>?_;have e:fC m n #[i64 s,.slice a l c] 29:=e;have d:fC q f #[i64 t,.slice b g h] 29:=d;exact cO (cN (i.at_ e) rfl) (cO (cN d rfl) (gC ⟨_,rfl,rfl,o.trans i⟩))
def JB:cJ:=.func (.func 157) #[] #[]
def C6{f c:Nat}{g:List El}(h:qZ f g w)(hn:0<g.length)(aa:g.length<=1000)(hs:∀e∈g,e.s<=1000000):
 Calls V.prog 200 #[.slice (some ⟨f,0,none⟩) g.length c,.int .i64 0,.int .i64 g.length,JB] w (fM λv A=>dA (λx=>x=f) w A/\qZ f (qY El.s g) A):=by
 refine jb Tryz.func200 Tryz.ntmps200 ?_;refine cW<|fA (g.length-1) (λk (_:Unit)=>[(0,fa f g.length c),(1,i64 0),(2,i64 g.length),(3,JB),(8,i64 (k+1:Nat))]) (λk _ A=>dA (λx=>x=f) w A/\qZ f (nh El.s g k) A) () ⟨by trivial,dA.refl _ _,h⟩ ?_;rintro k _ w1 hk ⟨k1,R⟩;have L:(nh El.s g k).length=g.length:=rU _ _ _;refine dK ⟨λM=>?_,λB=>?_⟩;have M:k+1<g.length:=by have:=fH M;omega
 have⟨r,u⟩:=jQ (nh El.s g k);have C:∀x∈r,x.s<=1000000:=λx K=>hs x (by rw[u]at K;exact vA _ _ _ _ K);rw[<-u]at R L;refine fA (k+1) (λt (d:List El)=>[(0,fa f g.length c),(1,i64 0),(2,i64 g.length),(3,JB),(8,i64 (k+1:Nat)),(9,i64 (k+1-t:Nat))]) (λt d A=>dA (λx=>x=f) w A/\qZ f d A/\d.length=g.length/\(∀x∈d,x.s<=1000000)/\pj El.s d (k+1-t)=pj El.s r (k+1)) r ⟨by trivial,k1,R,L,C,rfl⟩ ?_;rintro t d w2 ht ⟨k2,Q,S,D,E⟩;have⟨j,hj⟩:=jQ (k+1-t);rw[<-hj]at E⊢;have stop:∀o,Ext w2 o->pj El.s d j=d->dA (λx=>x=f) w o/\qZ f (nh El.s g (k+1)) o:=λo n T=>by refine⟨k2.trans (n.keep λ_=>False) (λ_ _ h=>h) λ_ _ h=>h.elim,?_⟩;simp only[nh];rw[<-u,<-E,T];exact Q.ext n
 refine dD dC (AE ⟨λp=>?_,λp=>?_⟩);have p:0<j:=by have:=fH p;omega
 obtain⟨i,rfl⟩:∃i,j=i+1:=⟨j-1,cL⟩;have F:i+1<d.length:=cL;have G:i<d.length:=cL;have⟨x,K⟩:=jQ (d[i+1]);have⟨y,U⟩:=jQ (d[i]);have W:=Q.cell (i+1) F;have X:=Q.cell i G;rw[<-K]at W;rw[<-U]at X;have N:x.s<=1000000:=D x (by rw[K];exact eB _);have O:y.s<=1000000:=D y (by rw[U];exact eB _);have l:pj El.s d (i+1)=if x.s<y.s then pj El.s ((d.set (i+1) y).set i x) i else d:=by simp only[pj];rw[eZ F,eZ G,<-K,<-U]
 refine jq (i+1) 2 cL (dx (.agg (xd x).toArray) (λo n=>ew (vs:=xd x) (λm v H=>n.cell (W m v H)) gd) (vo (jq i 2 cL (dx (.agg (xd y).toArray) (λo n=>ew (vs:=xd y) (λm v H=>n.cell (X m v H)) gd) (ik (i64 ((x.s:Int)-y.s)) (λo n=>Tn x.s y.s _ _ _ _ _ _ o N O) (GT λo n=>⟨λI=>?_,λI=>?_⟩))) cL)));have I:x.s<y.s:=by have:=fH I;omega
 rw[cT I]at l;have h3:=Q.ext n;have k3:dA (λx=>x=f) w o:=k2.trans (n.keep λ_=>False) (λ_ _ h=>h) λ_ _ h=>h.elim;refine gZ 15 dC (im (λx=>x=f)) (λa b h=>h.keep _)<| .exact (i64 ((i+1:Nat)-1)) (λq _=>gC gd) (.exact (i64 ((i+1:Nat)-1)) (λq _=>gC gd) (.exact (qI f (0+i*2)) (λq _=>fE i 2 cL gd cL) ?_));refine .Eg rfl (.agg (xd y).toArray) (λq J=>ew (vs:=xd y) (λm v H=>J.cell (n.cell (X m v H))) gd) (.exact (qI f (0+(i+1)*2)) (λq _=>fE (i+1) 2 cL gd) (.Eg rfl (.agg (xd x).toArray) (λq J=>ew (vs:=xd x) (λm v H=>J.cell (n.cell (W m v H))) gd) (.exact (qI f (0+(i+1)*2)) (λq _=>fE (i+1) 2 cL gd) ?_)));refine .yo (λ_ q=>qZ f (d.set (i+1) y) q) (λ_ a b h e=>h.ext e) (λq J=>UI (h3.ext J) (i+1) F y λw5 Y Z=>⟨Z,Y⟩)<| .exact (qI f (0+i*2)) (λq _=>fE i 2 cL gd cL) ?_;intro q J hJ;have hJ:qZ f (d.set (i+1) y) q:=hJ;refine UI hJ i (eV G) x λw5 Y Z=>gC ⟨cL,(d.set (i+1) y).set i x,⟨rfl,rfl,rfl,rfl,rfl,?_,trivial⟩,(k3.trans J (λ_ _ h=>h) λ_ _ h=>h).trans Y (λ_ _ h=>h) λ_ _ h=>h,Z,eV S,λz P=>?_,?_⟩;show some (Value.int .i64 (((i+1:Nat):Int)-1))=some (i64 ((k+1-(t+1):Nat)));rw[show((i+1:Nat):Int)-1=((k+1-(t+1):Nat):Int) by omega];obtain P|rfl:=sO P;obtain P|rfl:=sO P;exact D z P;exact O;exact N;rw[show k+1-(t+1)=i by omega,<-l,E];have I:¬x.s<y.s:=by have:=iP I;omega
 rw[cR I]at l;exact cW ⟨cL,(),by trivial,stop o n l⟩;have p:j=0:=by have:=iP p;omega
 subst p;exactλo n=>lh rfl (cW ⟨cL,(),by trivial,stop o n rfl⟩);have B:k=g.length-1:=by have:=iP B;omega
 subst B;exact⟨_,rfl,k1,R⟩
def vB(e:Nat)(w:cI)(v:cJ)(b:List El):Prop:=(b=[]/\∃a c,v=.slice a 0 c)\/∃d c,e<=d/\v=.slice (some ⟨d,0,none⟩) b.length c/\qZ d b w
def tK(v:cJ)(a:Nat)(w:cI)(c:a<=1000):Calls V.prog 200 #[v,.int .i64 a,.int .i64 a,JB] w (fM λv b=>b=w):=by refine jb Tryz.func200 Tryz.ntmps200 ?_;refine cW<|fA 0 (λk (_:Unit)=>[(2,i64 a),(8,i64 ((a:Int)+1))]) (λk _ b=>b=w) () ⟨by trivial,rfl⟩ ?_;rintro k _ b d rfl;exact dK (lh pY ⟨_,rfl,rfl⟩)
def JC{d:List El}(h:vB m w x d)(A:d.length<=20)(B:∀e∈d,e.s<=1000000):
 Calls V.prog 184 #[x,.int .i64 d.length,JB] w (fM λ_ b=>dA (λg=>m<=g) w b/\vB m b x (qY El.s d)):=by
 refine jb Tryz.func184 Tryz.ntmps184 ?_;have n:(qY El.s d).length=d.length:=rU _ _ _;refine fA 1 (λk (_:Unit)=>[(0,x),(1,i64 d.length),(2,JB),(6,i64 20),(7,i64 (20*k:Nat)),(8,i64 (20*k+20:Nat))]) (λk _ b=>dA (λg=>m<=g) w b/\(k=0->vB m b x d)/\(k=1->d.length=20/\vB m b x (qY El.s d))) () ⟨by trivial,dA.refl _ _,λ_=>h,λh=>cL⟩ ?_;rintro k _ r q ⟨o,C,t⟩;refine sv ⟨λf=>?_,λf=>?_⟩;have f:20*k+20<=d.length:=by have:=fH f;omega
 obtain rfl:k=0:=cL;obtain⟨rfl,_⟩|⟨p,c,u,rfl,v⟩:=C rfl;simp at f;have j:d.length=20:=cL;have D:=C6 (c:=c) v cL cL B;rw[j]at D⊢;refine cX D ?_;rintro _ i ⟨y,z⟩;refine cW ⟨cL,(),by trivial,o.trans y (λ_ _ h=>h) λg _ (E:g=p)=>cL,λh=>cL,λ_=>⟨rfl,.inr ⟨p,c,u,by rw[n,j],z⟩⟩⟩;have f:¬20*k+20<=d.length:=by have:=iP f;omega
 have F:∀{Q:QW} {G:L} {i:cI},dA (λg=>m<=g) w i/\vB m i x (qY El.s d)->(∀l b,dA (λg=>m<=g) w b/\vB m b x (qY El.s d)->Q .normal l b)->True:=λ_ _=>trivial;obtain rfl|rfl:k=0\/k=1:=cL;obtain⟨rfl,a,c,rfl⟩|⟨p,c,u,rfl,v⟩:=C rfl;refine cX (tK _ 0 r cL) ?_;rintro _ i rfl;refine fA 0 (λk (_:Unit)=>[(1,i64 0),(6,i64 20)]) (λk _ b=>b=i) () ⟨by trivial,rfl⟩ ?_;rintro k _ b q rfl;exact dK (lh rfl ⟨_,rfl,o,.inl ⟨rfl,a,c,rfl⟩⟩);obtain j|j:=mM d.length;obtain rfl:=oA j;refine cX (tK _ 0 r cL) ?_;rintro _ i rfl;refine fA 0 (λk (_:Unit)=>[(1,i64 0),(6,i64 20)]) (λk _ b=>b=i) () ⟨by trivial,rfl⟩ ?_;rintro k _ b q rfl;exact dK (lh rfl ⟨_,rfl,o,.inl ⟨rfl,_,c,rfl⟩⟩);refine cX (C6 (c:=c) v j cL B) ?_;rintro _ i ⟨y,z⟩;refine fA 0 (λk (_:Unit)=>[(1,i64 d.length),(6,i64 20)]) (λk _ b=>b=i) () ⟨by trivial,rfl⟩ ?_;rintro k _ b q rfl;exact dK (lh pY ⟨_,rfl,o.trans y (λ_ _ h=>h) λg _ (E:g=p)=>cL,.inr ⟨p,c,u,by rw[n],z⟩⟩);have⟨j,t⟩:=t rfl;rw[j];refine cX (tK _ 20 r cL) ?_;rintro _ i rfl;refine fA 0 (λk (_:Unit)=>[(1,i64 20),(6,i64 20)]) (λk _ b=>b=i) () ⟨by trivial,rfl⟩ ?_;rintro k _ b q rfl;exact dK (lh rfl ⟨_,rfl,o,t⟩)
def vB.v_{b:List El}(h:vB m w x b):∃a c,x=.slice a b.length c:=by obtain⟨rfl,a,c,rfl⟩|⟨d,c,_,rfl,_⟩:=h;exact⟨a,c,rfl⟩;exact⟨_,c,rfl⟩
def Qq{d:List El}(h:vB m w x d)(b:d.length<=20)(g:∀e∈d,e.s<=1000000):
 Calls V.prog 156 #[x,JB] w (fM λ_ f=>dA (λi=>m<=i) w f/\vB m f x (qY El.s d)):=by
 obtain⟨a,c,rfl⟩:=h.v_;refine jb Tryz.func156 Tryz.ntmps156 ?_;refine dm (cX (JC h b g) ?_);rintro _ k j;exact⟨_,rfl,j⟩
def Y1(x:Sx):cJ:=.agg (nL x).toArray
def JD{wp gp mk ms wb:Nat}{e:List Sx}(h:mK wp gp mk ms H e I w)(f:w.heap[wb]? =some (.cells #[di wp] 133))(x:Sx):Calls V.prog 160 #[Y1 x,di wb] w (fM λv i=>v=.bool (!ij H.tries x)/\Ext w i):=by have⟨p,q,k,r,s,t⟩:=h.at_;refine jb Tryz.func160 Tryz.ntmps160 ?_;refine eH λl m c n a=>?_;have a:l.heap[m]? =some (.cells (nL x).toArray 166):=a;refine dD dC (dl (cN (c.at_ f) rfl) (dl (c.cell k) (dx (Y1 x) (λd b=>ew (vs:=nL x) (λj v o=>by rw[dj];exact cN (b.at_ a) (eV o)) gd) (ik (.bool (ij H.tries x)) (λd b=>zz (h.g.ext (c.trans b)) x) (mY λd b=>⟨_,rfl,rfl,c.trans b⟩)))))
def rV(p:Sx->Bool):List Sx->Nat->Int
 |[],_=> -1
 |y::r,i=>if p y then i else rV p r (i+1)
def Hr(p:Sx->Bool)(l:List Sx)(k:Nat)(a:k<l.length):rV p (l.drop k) k=if p l[k]then(k:Int)else rV p (l.drop (k+1)) (k+1):=by rw[pz a];rfl
theorem Bb(p:Sx->Bool):∀(l:List Sx) (i:Nat),decide (0<=rV p l i)=l.any p
 |[],_=>rfl
 |y::r,i=>by simp only[rV,List.any_cons];by_cases h:p y=true;simp[h];have h:p y=false:=eV h;simpa[h]using Bb p r (i+1)
def Nn{wp gp mk ms wb:Nat}{q:List Sx}(h:mK wp gp mk ms H q I w)(r:w.heap[wb]? =some (.cells #[di wp] 133)){d:List Sx}{c:Nat}(s:vq w a d)(m:d.length<=100000):
 Calls V.prog 159 #[.slice a d.length c,.func (.func 160) #[] #[di wb]] w (fM λv g=>v=.bool (d.any λx=>!ij H.tries x)/\Ext w g):=by
 have i:Calls V.prog 185 #[.slice a d.length c,.func (.func 160) #[] #[di wb]] w (fM λv g=>v=i64 (rV (λx=>!ij H.tries x) d 0)/\Ext w g):=by refine jb Tryz.func185 Tryz.ntmps185 ?_;refine dm (ft (n:=d.length) (λk=>[(0,.slice a d.length c),(1,.func (.func 160) #[] #[di wb]),(7,i64 d.length),(8,i64 k)]) (λk g=>Ext w g/\rV (λx=>!ij H.tries x) d 0=rV (λx=>!ij H.tries x) (d.drop k) k) ⟨by trivial,Ext.refl _,rfl⟩ ?_ ?_ ?_);rintro k l j t;exact dK ⟨rfl,rfl,by trivial,t⟩;rintro k l j ⟨e,f⟩;obtain⟨b,o,rfl,u⟩:=(s.ext e) k j;rw[Hr _ _ _ j]at f;refine fE k 8 j (ew (vs:=nL d[k]) u (ek (v0:=.bool (!ij H.tries d[k])) (JD (h.ext e) (e.at_ r) d[k]) λA p=>⟨λy=>?_,λz=>?_⟩));rw[cT y]at f;exact⟨_,rfl,by rw[f];rfl,e.trans p⟩;rw[cR (by rw[z];simp)]at f;exact cW ⟨by trivial,e.trans p,f⟩;rintro l ⟨e,f⟩;exact⟨_,rfl,by rw[f];simp[rV],e⟩
 refine jb Tryz.func159 Tryz.ntmps159 ?_;exact ek i λl e=>wo ⟨_,rfl,by rw[<-Bb _ d 0];rfl,e⟩
def jw(T:Int)(b:Nat):List Sx->cM->Option (List Sx)
 |a,[]=>some a
 |a,d::r=>if py (a.getD d qV) (b/2)||ij T (a.getD d qV)then none else jw T b (a.set d (ig (a.getD d qV) b false)) r
def No(f:Nat->Int)(s:Nat)(v:Int):Nat->Int:=λx=>if x=s then v else f x
def jW(G:Gd)(b:Int):List Sx->(Nat->Int)->List (Nat×cM)->Option (List Sx)
 |c,_,[]=>some c
 |c,a,p::r=>if b<a p.1+1\/G.minutes<iA G p.2 then none else match jw G.tries p.1 c p.2 with
  |none=>none
  |some d=>jW G b d (No a p.1 (a p.1+1)) r
def uu(G:Gd)(c:List Sx)(a:Int)(d:List (Nat×cM)):Bool:=match jW G a c (λ_=>0) (qY Prod.fst d)with
 |none=>false
 |some b=>!b.any λx=>!ij G.tries x
def zj(T:Int)(b:Nat)(a:List Sx)(l:cM)(k:Nat)(c:k<l.length):jw T b a (l.drop k)=if py (a.getD l[k] qV) (b/2)||ij T (a.getD l[k] qV)then none else jw T b (a.set l[k] (ig (a.getD l[k] qV) b false)) (l.drop (k+1)):=by rw[pz c];rfl
def zk(G:Gd)(b:Int)(e:List Sx)(a:Nat->Int)(c:List (Nat×cM))(k:Nat)(f:k<c.length):jW G b e a (c.drop k)=if b<a c[k].1+1\/G.minutes<iA G c[k].2 then none else match jw G.tries c[k].1 e c[k].2 with
 |none=>none
 |some d=>jW G b d (No a c[k].1 (a c[k].1+1)) (c.drop (k+1)):=by
 rw[pz f];rfl
def vO.le{x:Sx}(h:vO k x)(d:k<=m):vO m x:=by have⟨a,b,c⟩:=h;refine⟨⟨a.1,cL⟩,⟨b.1,cL⟩,c.1,cL⟩
theorem tM{c:Type}{P:Nat->c->Prop}:∀(n:Nat),(∀k,k<n->∃x,P k x)->∃l:List c,l.length=n/\∀k (h:k<l.length),P k l[k]
 |0,_=>⟨[],rfl,λk b=>by simp at b⟩
 |n+1,h=>by
  have⟨l,d,e⟩:=tM n λk b=>h k cL;have⟨x,f⟩:=h n cL;refine⟨l++[x],by simp[d],λk b=>?_⟩;obtain a|g:=gu k l.length;rw[ml a];exact e k a;obtain rfl:k=n:=by simp at b;omega
  have:(l++[x])[k]=x:=by simp[d]
  rw[this];exact f
theorem xO:∀a:List El,(a.flatMap xd).length=a.length*2
 |[]=>rfl
 |x::r=>by have:=xO r;simp[xd,this];omega
theorem xP:∀(a:List El) (k:Nat) (b:k<a.length) (j:Nat) (v:cJ),(xd a[k])[j]? =some v->(a.flatMap xd)[k*2+j]? =some v
 |x::r,0,_,j,v,h=>by have c:j<(xd x).length:=(kX.1 h).1;simp only[oB,Nat.zero_mul,dj];rw[uJ c];exact h
 |x::r,k+1,b,j,v,h=>by have d:=xP r k (eV b) j v (eV h);have e:(xd x).length=2:=rfl;simp only[oB];rw[uK cL,e,show(k+1)*2+j-2=k*2+j by omega];exact d
def Np(e:El):Nat×cM:=(e.s,e.l)
def ll.ZM{f:List (Nat×cM)}(h:ll w a f):∃g:List El,g.map Np=f/\(∀e∈g,fN w e.a e.l/\e.l.length<=e.c)/\iR w a (g.flatMap xd):=by
 have⟨g,A,p⟩:=tM (P:=λk (e:El)=>∃(m:k<f.iN),Np e=f[k]/\fN w e.a e.l/\e.l.iN<=e.c/\∃b o,a=some (dq b o)/\∀j v,(xd e)[j]? =some v->w.cell? (dq b (o+k*2+j))=some v) f.iN λk m=>by
  have⟨b,o,B,C,q,s,D,E,F⟩:=h k m;refine⟨⟨f[k].1,B,C,f[k].2⟩,m,rfl,E,F,b,o,q,λj v d=>?_⟩;match j,d with
  |0,d=>cases d;exact s
  |1,d=>cases d;exact D
 refine⟨g,?_,λe G=>?_,?_⟩;apply List.ext_getElem;simpa using A;intro i n t;rw[List.getElem_map];exact(p i (eV n)).2.1;obtain⟨i,H,rfl⟩:=List.getElem_of_mem G;have⟨_,_,q,s,_⟩:=p i H;exact⟨q,s⟩;obtain _|⟨x,r⟩:=g;exact .inl rfl;obtain⟨_,_,_,_,b,o,rfl,_⟩:=p 0 dt;refine .inr ⟨b,o,rfl,λj u d=>?_⟩;have I:j<(x::r).iN*2:=by rw[<-xO];exact(kX.1 d).1
 have m:j/2<(x::r).iN:=cL;have⟨_,_,_,_,J,K,e,L⟩:=p (j/2) m;obtain⟨rfl,rfl⟩:b=J/\o=K:=by injection e with e;injection e with M N;exact⟨M,N⟩
 have O:j%2<(xd (x::r)[j/2]).iN:=by show j%2<2;omega
 have z:=eZ O;have n:=xP (x::r) (j/2) m (j%2) _ z;have t:=L (j%2) _ z;have y:j/2*2+j%2=j:=cL;rw[y]at n;rw[d]at n;obtain rfl:=dQ n;have:o+j/2*2+j%2=o+j:=cL;rw[this]at t;exact t
def ll.tD{a:List (Nat×cM)}(h:ll w none a):a.length=0:=by obtain _|⟨x,r⟩:=a;rfl;have⟨b,o,_,_,e,_⟩:=h 0 dt;cases e
theorem ll.iF{n0:Nat}{c:List (Nat×cM)}(h:ll w a c)(e:jH n0 w t):ll t a c:=λk d=>by have⟨b,o,f,g,i,j,l,m,n⟩:=h k d;exact⟨b,o,f,g,i,e.cell j,e.cell l,m.iF e,n⟩
def Hs{d:List El}{c:Nat}(m:iR w a (d.flatMap xd))(n:a=none->d.length=0)(f:d.length<=1000000):Calls V.prog 155 #[.slice a d.length c] w (fM λv h=>Ext w h/\vB w.heap.size h v d):=by refine(PI a d.length c (d.flatMap xd) w (xO d) n m (λu g=>?_) f).mono ?_;have⟨x,_,g⟩:=lq.1 g;simp[xd]at g;obtain rfl|rfl:=g<;>rfl;rintro e h ⟨v,rfl,i,C,⟨o,rfl⟩|⟨b,p,q,r,rfl,s,t,y,D,z,E⟩⟩;exact⟨_,rfl,i,.inl ⟨oA o,none,0,rfl⟩⟩;refine⟨_,rfl,i,.inr ⟨b,p,r,rfl,⟨q,s,?_,λk A j v B=>?_⟩⟩⟩;have:([i64 0,fl]:dN).length=2:=rfl;rw[this]at t;have:=rm 2 y;omega;have l:=xP d k A j v B;rw[z _ (kX.1 l).1];exact l
def To(a:Nat)(f:Nat->Int)(w:cI):Prop:=w.heap[a]? =some (.cells #[.int .i64 (f 0),.int .i64 (f 1),.int .i64 (f 2),.int .i64 (f 3),.int .i64 (f 4),.int .i64 (f 5)] 178)
def To.cell{f:Nat->Int}(h:To m f w)(a:s<6):w.cell? ⟨m,0+s,none⟩=some (.int .i64 (f s)):=by have:s=0\/s=1\/s=2\/s=3\/s=4\/s=5:=cL;obtain rfl|rfl|rfl|rfl|rfl|rfl:=this<;>exact cN h rfl
def VH{f:Nat->Int}(h:To m f w)(s:Nat)(v:Int)(e:s<6)(b:∀a,dA (λx=>x=m) w a->To m (No f s v) a->S a):Ed V.prog (Instr.storeAt 3 (.pointer (some ⟨m,0+s,none⟩)) (.int .i64 v)) w S:=by have:s=0\/s=1\/s=2\/s=3\/s=4\/s=5:=cL;obtain rfl|rfl|rfl|rfl|rfl|rfl:=this<;>exact dI h λa c d=>b a c (by unfold To;rw[d];rfl)
theorem vt.keep{a:List Sx}(h:vt m w x a)(k:dA A w t)(e:∀b,cV x b->¬A b):vt m t x a:=by obtain h|⟨d,c,f,rfl,g⟩:=h;exact .inl h;exact .inr ⟨d,c,f,rfl,g.keep k (e d ⟨_,_,rfl⟩)⟩
theorem vB.keep{a:List El}(h:vB m w x a)(k:dA A w t)(e:∀b,cV x b->¬A b):vB m t x a:=by obtain h|⟨d,c,f,rfl,g⟩:=h;exact .inl h;exact .inr ⟨d,c,f,rfl,g.keep k (e d ⟨_,_,rfl⟩)⟩
def vt.v_{b:List Sx}(h:vt m w x b):∃a c,x=.slice a b.length c:=by obtain⟨rfl,a,c,rfl⟩|⟨d,c,_,rfl,_⟩:=h;simp;grind
def vt.Yf{b:List Sx}(h:vt m w x b):∃a c,x=.slice a b.length c/\vq w a b:=by obtain⟨rfl,a,c,rfl⟩|⟨f,c,_,rfl,d⟩:=h;exact⟨a,c,rfl,λk e=>by simp at e⟩;exact⟨_,c,rfl,d.row⟩
theorem vt.blk{a:List Sx}(h:vt m w x a)(e:0<a.length)(b:cV x k):m<=k/\k<w.heap.size:=by obtain⟨rfl,_⟩|⟨f,c,g,rfl,d⟩:=h;grind;have⟨i,q,_⟩:=d.out;have:=dz.lt_of_heap q;rw[oh (l':=0) (c':=0) b];grind
def Nq{wp gp mk ms:Nat}{A:List Sx}{ak canv:Int}(h:mK wp gp mk ms H A ak w)(a9:∀x∈A,vO 100000 x){W:List (Nat×cM)}{pc:Nat}(hr:ll w a W)(bp:W.length<=20)(aM:∀p∈W,p.1<6/\p.2.length<=1000/\∀d∈p.2,d<A.length):
 Calls V.prog 109 #[di wp,.int .i64 canv,.slice a W.length pc] w (fM λv y=>v=.bool (uu H A canv W)/\Ext w y):=by
 have ba:=h.g.vN;have h5:=ba.many;have bt:=h.len;have⟨es,aN,bb,al⟩:=hr.ZM;have X:es.length=W.length:=cK;refine jb Tryz.func109 Tryz.ntmps109 ?_;refine eH λw1 wb e1 bu J=>?_;have J:fC w1 wb #[di wp] 133:=J;have bv:=dz.lt_of_heap J;have⟨sa,sc,g1,g2,g3,g4⟩:=h.at_;refine cO (cN J rfl) (cO (e1.cell g2) (cX (wB (g4.ext e1) cL) ?_));rintro dv w2 ⟨e2,aA⟩;refine eS λw3 mb e3 bw au=>?_;have bc:To mb (λ_=>0) w3:=au;have bx:=dz.lt_of_heap au;have s1:=e1.size;have s2:=e2.size;have aO:=(e1.trans e2).trans e3;have aP:=Hs (c:=pc) (w:=w3) (by obtain U|⟨b,o,q1,q2⟩:=al;exact .inl U;exact .inr ⟨b,o,q1,λj u hj=>aO.cell cK⟩) (λe=>by subst e;rw[X];exact hr.tD) cL;rw[X]at aP;refine cX aP ?_;rintro ev w4 ⟨e4,bd⟩;have be:∀e∈es,e.s<6:=λe he=>(aM (Np e) (by rw[<-aN];exact List.mem_map_of_mem he)).1;refine cX (Qq bd cL cK) ?_;rintro _ w5 ⟨k5,aB⟩;have⟨D,am⟩:=jQ (qY El.s es);rw[<-am]at aB;have bz:D.length=W.length:=by rw[am,<-X];exact rU _ _ _
 have bA:∀e∈D,e∈es:=λe he=>vA _ _ _ _ (by rw[am]at he;exact he);have bB:qY Prod.fst W=D.map Np:=by rw[am,<-aN];exact Nm El.s Prod.fst Np (λx=>rfl) es
 obtain⟨ea,ec,rfl⟩:=aB.v_;have an:Ext w3 w5:=e4.tG k5 cK;have E5:=aO.trans an;obtain⟨da,dc,rfl⟩:=aA.v_;have aQ:∀b,0<A.length->cV (.slice da A.length dc) b->w1.heap.size<=b/\b<w2.heap.size:=λb U hb=>aA.blk U hb
 have Y:uu H A canv W=match jW H canv A (λ_=>0) (D.map Np)with
  |none=>false
  |some bf=>!bf.any λx=>!ij H.tries x:=by grind [uu]
 have s3:=e3.size;have s4:=e4.size;have s5:=k5.size;refine dm ?_
 refine jG (n:=D.length) (λk (st:List Sx×(Nat->Int))=>[(1,i64 canv),(3,di wb),(7,.slice da A.length dc),(8,di mb),(23,.slice ea D.length ec),(24,i64 D.length),(25,i64 k)])
  (λk st y=>Ext w y/\w5.heap.size<=y.heap.size/\fC y wb #[di wp] 133/\vt w1.heap.size y (.slice da A.length dc) st.1/\To mb st.2 y/\vB w3.heap.size y (.slice ea D.length ec) D/\st.1.length=A.length/\(∀x∈st.1,vO (100000+1000*k) x)/\(∀s,0<=st.2 s/\st.2 s<=k)/\jW H canv A (λ_=>0) (D.map Np)=jW H canv st.1 st.2 ((D.map Np).drop k))
  (A,λ_=>0) ⟨by trivial,E5,dg _,((e2.trans e3).trans an).at_ J,aA.keep ((e3.trans an).keep λ_=>False) cK,an.at_ bc,aB,rfl,a9,cK,rfl⟩ ?_ ?_ ?_
 rintro k st w6 hk hJ;exact dK ⟨rfl,rfl,by trivial,hJ⟩;rintro k ⟨ys,t⟩ w6 hk ⟨E6,s6,Z,aa,aC,aR,ab,aD,M,f⟩;simp only at aa aC ab aD M f;obtain⟨h0,_⟩|⟨eb,bC,bg,K,aE⟩:=aR;rw[h0]at hk;simp at hk;injection K with K _ ac;subst K;subst ac;have⟨e,he⟩:=jQ (D[k]);have ad:e∈es:=cK;have aS:=aE.cell k hk;rw[<-he]at aS;have B:=be e ad;have⟨aT,bD⟩:=bb e ad;have⟨_,aU,aF⟩:=aM (Np e) cK;have aU:e.l.length<=1000:=aU;have aF:∀d∈e.l,d<A.length:=aF;have bh:k<(D.map Np).length:=cK;rw[zk H canv ys t _ k bh]at f;have bi:(D.map Np)[k]=(e.s,e.l):=by rw[List.getElem_map,<-he];rfl
 rw[bi]at f;simp only at f;refine fE k 2 hk (ew (vs:=xd e) aS (eS λw7 xb e7 aV aW=>dI aW λw8 k8 ao=>?_));have ao:fC w8 xb #[i64 e.s,.slice e.a e.l.length e.c] 29:=ao;have O:Ext w6 w8:=e7.cS k8 aV;have bE:eb<w6.heap.size:=by have⟨cs,q,_⟩:=aE.out;grind
 have aX:To mb t w8:=O.at_ aC;refine cO (cN ao rfl) (vm e.s 6 B (cO (aX.cell B) (cW (vm e.s 6 B (VH aX e.s (t e.s+1) B λw9 k9 aG=>?_)) cK)));have E9:Ext w w9:=(E6.trans O).cS k9 cL;have ae:fC w9 wb #[di wp] 133:=k9.fL (O.at_ Z) cL;have aH:fC w9 xb #[i64 e.s,.slice e.a e.l.length e.c] 29:=k9.fL ao cL;have bF:∀b,0<A.length->cV (.slice da A.length dc) b->¬b=mb:=cK;have bj:vt w1.heap.size w9 (.slice da A.length dc) ys:=by obtain U|U:=mM A.length;have hy:ys=[]:=cK;rw[hy,U];exact .inl ⟨rfl,_,_,rfl⟩;exact(aa.keep (O.keep λ_=>False) cK).keep k9 cK
 have bk:qZ eb D w9:=(aE.ext O).keep k9 cL;have aI:=h.ext E9;have⟨bG,bH,z1,z2,z3,z4⟩:=aI.at_;have⟨r,G⟩:=jQ (No t e.s (t e.s+1));rw[<-G]at aG f;have bl:r e.s=t e.s+1:=by rw[G];unfold No;grind
 have aY:∀s,0<=r s/\r s<=(k+1:Nat):=λs=>by rw[G];unfold No;have:=M s;have:=M e.s;omega
 have s9:=O.size;have bI:=k9.size;have aZ:∀y,Ext w9 y->jW H canv A (λ_=>0) (D.map Np)=none->∃v,Ending.returned (one [.bool false])=.returned v/\v=.bool (uu H A canv W)/\Ext w y:=λy e' hn=>⟨_,rfl,by rw[Y,hn];rfl,E9.trans e'⟩;have a0:=aG.cell B;rw[bl]at a0;refine dD dC (dl (cN aH rfl) (rJ e.s 6 B (dl a0 (AE ⟨λP=>?_,λP=>?_⟩))));have P:canv<t e.s+1:=fH P;exactλaf z=>jX rfl (aZ af z (by rw[f,cT (.inl P)]));have P:¬canv<t e.s+1:=iP P;refine dl (cN ae rfl) (dl z1 (dl (cN aH rfl) (ik (i64 (iA H e.l)) (λaf z=>Em (aI.g.ext z) cK cL ((aT.ext E9).ext z)) (dl (cN ae rfl) (dl z1 (dl aI.g.c3 (AE λaf z=>⟨λF=>?_,λF=>?_⟩)))))));have F:H.minutes<iA H e.l:=fH F;exact aZ af z (by rw[f,cT (.inr F)]);have F:¬H.minutes<iA H e.l:=iP F;rw[cR cL]at f;have av:=z.at_ aH;have bJ:=z.size;refine cO (cN av rfl) (dm ?_)
 refine jG (n:=e.l.length) (λj (m:List Sx)=>[(1,i64 canv),(3,di wb),(7,.slice da A.length dc),(8,di mb),(11,di xb),(23,fa eb D.length ec),(24,i64 D.length),(25,i64 k),(60,.slice e.a e.l.length e.c),(61,i64 e.l.length),(62,i64 j)])
  (λj m y=>Ext w y/\af.heap.size<=y.heap.size/\fC y wb #[di wp] 133/\vt w1.heap.size y (.slice da A.length dc) m/\To mb r y/\qZ eb D y/\fC y xb #[i64 e.s,.slice e.a e.l.length e.c] 29/\m.length=A.length/\(∀x∈m,vO (100000+1000*k+j) x)/\jw H.tries e.s ys e.l=jw H.tries e.s m (e.l.drop j)) ys ⟨by trivial,E9.trans z,dg _,z.at_ ae,bj.keep (z.keep λ_=>False) cK,z.at_ aG,bk.ext z,av,ab,aD,rfl⟩ ?_ ?_ ?_
 rintro j m ap hj hJ;exact dK ⟨rfl,rfl,by trivial,hJ⟩;rintro j m ap hj ⟨Q,bm,I,ag,ah,ai,N,R,aq,C⟩;have⟨lb,lo,a1,a2⟩:=(aT.ext Q) j hj;have⟨d,hd⟩:=jQ (e.l[j]);rw[<-hd]at a2;have ar:d<A.length:=by rw[hd];exact aF _ (eB hj)
 rw[a1];refine eX j hj (cO a2 ?_);rw[<-a1];obtain⟨h0,_⟩|⟨sb,c',a3,K,hS⟩:=ag;rw[h0]at R;simp at R;omega;injection K with K _ ac;subst K;subst ac;have aJ:d<m.length:=cL;have bK:sb<w2.heap.size:=(aQ sb cL ⟨_,_,rfl⟩).2;have bq:w1.heap.size<=sb:=a3;have aw:=h.ext Q;have⟨br,bs,t1,t2,t3,t4⟩:=aw.at_;have C:=C;rw[zj _ _ _ _ j hj,<-hd,getD_eq aJ]at C;have aK:∀{y},oY sb m y->∀i v,(nL m[d])[i]? =some v->y.cell? (dq sb (0+d*8+i))=some v:=λhS i v hi=>by have⟨cs,y1,y2,y3⟩:=hS.out;exact cN y1 (by rw[dj];exact cK)
 have a4:ap.cell? (dq sb (0+d*8+4+e.s/2))=some (.bool (py m[d] (e.s/2))):=by
  have:(nL m[d])[4+e.s/2]? =some (.bool (py m[d] (e.s/2))):=by obtain h0|h0|h0:e.s/2=0\/e.s/2=1\/e.s/2=2:=cL;all_goals rw[h0];rfl
  have:=aK hS _ _ this;grind
 have ax:∀y,Ext ap y->jw H.tries e.s ys e.l=none->∃v,Ending.returned (one [.bool false])=.returned v/\v=.bool (uu H A canv W)/\Ext w y:=λy e' hn=>⟨_,rfl,by rw[hn]at f;rw[Y,f];rfl,Q.trans e'⟩;refine dD dC (dl (cN N rfl) (dx (i64 (e.s/2:Nat)) (λL _=>li (n:=2) dt cL gd) (jq d 8 ar (dx (qI sb (0+d*8+4+e.s/2)) (λL _=>zA 3 cL gd) (dl a4 ⟨λh1=>?_,λh1=>?_⟩)))));exactλL E=>jX rfl (ax L E (by rw[C,cT (by rw[h1];rfl)]));refine dl (cN I rfl) (dl t1 (jq d 8 ar (dx (.agg (nL m[d]).toArray) (λL E=>ew (vs:=nL m[d]) (aK (hS.ext E)) gd) (ik (.bool (ij H.tries m[d])) (λL E=>zz (aw.g.ext E) m[d]) λL E=>⟨λh2=>?_,λh2=>?_⟩))));exact ax L E (by rw[C,cT (by rw[h2];simp)]);rw[cR cK]at C;have a5:=aq _ (eB aJ);have bn:(0<=m[d].tries/\m[d].tries<=1000000)/\(0<=m[d].mornings/\m[d].mornings<=1000000)/\0<=m[d].evenings/\m[d].evenings<=1000000:=by have⟨z1,z2,z3⟩:=a5;omega
 have ay:=hS.ext E;have a7:=E.at_ N;refine dD dC (jq d 8 ar (dx (.agg (nL m[d]).toArray) (λaL aj=>ew (vs:=nL m[d]) (aK (ay.ext aj)) gd) (dl (cN a7 rfl) (ik (.agg (nL (ig m[d] e.s false)).toArray) (λaL aj=>CN m[d] e.s false aL B bn) (jq d 8 ar λaL aj=>?_)))));have S:=E.trans aj;refine PO (ay.ext aj) d 0 aJ dt (ig m[d] e.s false) (qH rfl) (λi u hi=>?_) λbL T a8=>?_;have bo:i<8:=(kX.1 hi).1;rw[cT ⟨gi _,bo⟩];exact hi;have bM:=S.size;refine cW ⟨m.set d (ig m[d] e.s false),by trivial,(Q.trans S).cS T cL,iD T.size,T.fL (S.at_ I) cL,.inr ⟨sb,dc,a3,by rw[qG,R],a8⟩,T.fL (S.at_ ah) cL,(ai.ext S).keep T cL,T.fL (S.at_ N) cL,eV R,λx U=>?_,C⟩;obtain U|rfl:=sO U;exact(aq x U).le dt;exact(a5.UA e.s false).le cL;rintro m ap ⟨Q,bm,I,ag,ah,ai,N,R,aq,C⟩;have C:jw H.tries e.s ys e.l=some m:=by rw[C];simp[jw]
 rw[C]at f;simp only at f;refine cW ⟨(m,r),by trivial,Q,cL,I,ag,ah,.inr ⟨eb,ec,bg,rfl,ai⟩,R,λx U=>(aq x U).le cL,aY,f⟩;rintro⟨ys,t⟩ w6 ⟨E6,s6,Z,aa,aC,aR,ab,aD,M,f⟩;simp only at aa ab f;have f:jW H canv A (λ_=>0) (D.map Np)=some ys:=by rw[f,List.drop_of_length_le dt];rfl
 have⟨a6,c6,q1,q2⟩:=aa.Yf;injection q1 with q1 _ q3;subst q1;subst q3;have az:=Nn (h.ext E6) Z q2 (c:=dc) cL;rw[ab]at az;refine ek az λw7 e7=>eC ⟨_,rfl,?_,E6.trans e7⟩;rw[Y,f];rfl
def zf.WX{w b:cI}{gp mk ms:Nat}{G:Gd}(h:zf w gp mk ms G b):mg (λ_=>False) mk ms G b:=
 ⟨⟨#[],0,h.sm,λe a=>by cases a⟩,⟨#[],0,h.km,λe a=>by cases a⟩,λh=>h,λh=>h⟩
def dG(G:Gd)(l:List Tq)(a b:Int):Int:=if nM G l=0 then(if qT G (eO l) a=0 then(if l5 b 0 5 then 0 else 1)else qT G (eO l) a)else nM G l
def Qr(w:cI)(G:Gd)(l:List Tq)(e:Int)(v:cJ)(b:cI):Prop:=
 (e≠0/\v=.tuple #[.pointer none,.int .i64 e])\/(e=0/\∃a c mk d,v=.tuple #[di a,.int .i64 0]/\Ha w a c mk d G (fw G l).2 (eO l) b/\∀x∈(fw G l).2,vO 100000 x)
section
variable{G:Gd}{da:Option Addr}{dc:Nat}{w:cI}{l:List Tq}{la:Option Addr}{lc:Nat}
def mC(o:gX w da G.doors)(g:G.doors.length<=100000)(p:kq w la l)(h:l.length<=100000)(a b:Int):
 Calls V.prog 105 #[gV G da dc,.slice la l.length lc,.int .i64 a,.int .i64 b] w (fM λv m=>Ext w m/\Qr w G l (dG G l a b) v m):=by
 refine jb Tryz.func105 Tryz.ntmps105 ?_;refine eH λz A f q r=>eI r (cX (MS (dc:=dc) (o.ext f) g (p.ext f) h) ?_);rintro v B ⟨i,⟨d,rfl⟩|⟨d,s,t,mk,u,rfl,n,y⟩⟩;exact gQ (jX (eV d) ⟨_,rfl,f.trans i,.inl ⟨by unfold dG;rw[cR d];exact d,by unfold dG;rw[cR d];rfl⟩⟩);refine gQ (lh dt (dH (SQ n.k a) (gQ ⟨λc=>?_,λc=>?_⟩)));have c:¬qT G (eO l) a=0:=fH c;exact⟨_,rfl,f.trans i,.inl ⟨by unfold dG;rw[cT d,cR c];exact c,by unfold dG;rw[cT d,cR c];rfl⟩⟩;have c:qT G (eO l) a=0:=eV c;refine dH (fT _ _ _ _) (eC ⟨λe=>?_,λe=>?_⟩);have e:l5 b 0 5=false:=eV e;exact⟨_,rfl,f.trans i,.inl ⟨by unfold dG;rw[cT d,cT c,e];decide,by unfold dG;rw[cT d,cT c,e];rfl⟩⟩;have e:l5 b 0 5=true:=eV e;exact⟨_,rfl,f.trans i,.inr ⟨by unfold dG;rw[cT d,cT c,e];rfl,s,t,mk,u,rfl,n.low f,λx j=>(y x j).le h⟩⟩
def lF(b:G.Ok)(h:dG G l I J=0):∃f:Nat,I=f/\f<=fK G/\f<2*G.days:=by unfold dG at h;split at h;split at h;rename_i a;unfold qT at a;split at a;rename_i c;simp only[l5,eU,j9]at c;have:=b.days;exact⟨I.toNat,cL,by unfold fK;omega,cL⟩;omega;rename_i a;exact absurd h a;rename_i d;exact absurd h d
def VI(a:Nat)(o:Option (List cM))(v:cJ)(w:cI):Prop:=match o with
 |none=>v=.tuple #[.slice none 0 0,.int .i64 11]
 |some b=>∃u,v=.tuple #[u,.int .i64 0]/\fe a w u b
def Ht(y:gX w da G.doors)(k:G.doors.length<=100000){ds:eY}{a:dV}{c:Nat}(D:kD w a ds)(m:ds.length<=100000)(H:ds.length<=c):
 Calls V.prog 69 #[gV G da dc,.slice a ds.length c] w (fM λv E=>Ext w E/\((nU G ds≠0/\v=.tuple #[.slice none 0 0,.int .i64 (nU G ds)])\/(nU G ds=0/\VI w.heap.size (fh G (eo (ds.map Int.toNat))) v E))):=by
 refine jb Tryz.func69 Tryz.ntmps69 ?_;refine eH λT U i I z=>eI z (cX (AL (dc:=dc) (y.ext i) k (D.ext i) m H) ?_);rintro v J ⟨t,⟨n,rfl⟩|⟨n,W,mk,X,rfl,o⟩⟩;have e:nU G ds=em G:=by simp[nU,n]
 exact gQ (jX (eV n) ⟨_,rfl,i.trans t,.inl ⟨by rw[e];exact n,by rw[e];rfl⟩⟩);have e:nU G ds=iZ G.doors.length ds:=by simp[nU,n]
 refine gQ ⟨λf=>?_,λf=>?_⟩;have f:¬iZ G.doors.length ds=0:=fH f;exact⟨_,rfl,i.trans t,.inl ⟨by rw[e];exact f,by rw[e];rfl⟩⟩;have f:iZ G.doors.length ds=0:=eV f;obtain⟨j,rfl,p⟩:=pQ f;have A:=o.g.vN;have K:=A.many;have L:(qo j).length=j.length:=by simp[qo]
 have q:(qo j).map Int.toNat=j:=by simp[qo,zJ]
 have B:=(D.ext (i.trans t)).GZ;rw[L]at m⊢;rw[q];have r:=ko.eo (G:=G) K (l:=j) p;refine dH (uo j a c J B (λd y=>iD (p d y)) m) (cX (AT (n0:=w.heap.size) o.g (λb z=>z.elim) o.WX (zp o.lo i.size) (zp o.lo i.size) r) ?_);rintro v F ⟨M,u,b,rfl,h⟩;have C:Ext w F:=M.1.from (i.trans t) (dg _);cases x:fh G (eo j)with
 |none=>
  rw[x]at h;obtain⟨rfl,rfl⟩:=h;exact eC (jX rfl ⟨_,rfl,C,.inr ⟨by rw[e];exact f,rfl⟩⟩)
 |some N=>
  rw[x]at h;obtain⟨rfl,O,P,rfl,s,_⟩:=h;have Q:=lR x;refine eC (lh rfl (cX (Jj N O P F s.rows cL λl m=>iD (vz x l m)) ?_));rintro v Y ⟨R,S⟩;exact⟨_,rfl,C.trans R,.inr ⟨by rw[e];exact f,_,rfl,S.low C.size⟩⟩
end
def nG(G:Gd)(b:List Sx)(a:Nat)(d:Nat):Bool:=(ju G (b.getD d qV) a).isEmpty||!l8 G (eo [d])
def Qs(G:Gd)(b:List Sx)(a:Nat):cM:=(dU G.tries b).filter (nG G b a)
def wJ(a:Nat)(o:Option (List (Nat×cM)))(v:cJ)(w:cI):Prop:=match o with
 |none=>v=.tuple #[.slice none 0 0,.int .i64 11]
 |some b=>∃u,v=.tuple #[u,.int .i64 0]/\mh a w u b
section
variable{G:Gd}{da:Option Addr}{dc:Nat}{w:cI}{l:List Tq}{la:Option Addr}{lc:Nat}
def Bc(r:gX w da G.doors)(d:G.doors.length<=100000)(s:kq w la l)(j:l.length<=100000)(a:Int):
 Calls V.prog 48 #[gV G da dc,.slice la l.length lc,.int .i64 a] w (vw λv m=>Ext w m/\((dG G l a 0≠0/\v=.tuple #[.slice none 0 0,.int .i64 (dG G l a 0)])\/(dG G l a 0=0/\wJ w.heap.size (pi G (dM G (fw G l).2 a.toNat)) v m))):=by
 refine jb Tryz.func48 Tryz.ntmps48 ?_;refine eH λD E b t x=>eI x (cX (mC (dc:=dc) (r.ext b) d (s.ext b) j a 0) ?_);rintro v F ⟨n,⟨e,rfl⟩|⟨e,H,I,mk,J,rfl,i,y⟩⟩;exact gQ (jX cK (.inl ⟨_,rfl,b.trans n,.inl ⟨e,rfl⟩⟩));have z:=i.g.lo;have K:=b.size;obtain⟨f,rfl,o,_⟩:=lF i.k.g.vN e;refine gQ (lh dt (iM (Tm (n0:=w.heap.size) i.k cK i.g.WX cL cL y o) (λm h=>.inr ⟨rfl,h⟩) ?_));rintro v A ⟨B,c⟩;have p:Ext w A:=B.1.from (b.trans n) (dg _);rw[ny];cases q:pi G (dM G (fw G l).2 f)with
 |none=>
  rw[q]at c;have c:v=.tuple #[fl,.bool false]:=c;subst c;exact eC (jX rfl (.inl ⟨_,rfl,p,.inr ⟨e,rfl⟩⟩))
 |some L=>
  rw[q]at c;obtain⟨u,rfl,C⟩:=c;exact eC (lh rfl (.inl ⟨_,rfl,p,.inr ⟨e,u,rfl,C.low (iD ((b.trans n).size))⟩⟩))
def Hu(q:gX w da G.doors)(d:G.doors.length<=100000)(r:kq w la l)(m:l.length<=100000)(b canv:Int):
 Calls V.prog 55 #[gV G da dc,.slice la l.length lc,.int .i64 b,.int .i64 canv] w (vw λv n=>Ext w n/\((dG G l b canv≠0/\v=.tuple #[.slice none 0 0,.int .i64 (dG G l b canv)])\/(dG G l b canv=0/\∃a c,v=.tuple #[.slice a (qx (vx G (fw G l).2 b.toNat canv) (dU G.tries (fw G l).2)).length c,.int .i64 0]/\fN n a (qx (vx G (fw G l).2 b.toNat canv) (dU G.tries (fw G l).2))/\(qx (vx G (fw G l).2 b.toNat canv) (dU G.tries (fw G l).2)).length<=c))):=by
 refine jb Tryz.func55 Tryz.ntmps55 ?_;refine eH λB C e s t=>eI t (cX (mC (dc:=dc) (q.ext e) d (r.ext e) m b canv) ?_);rintro v D ⟨p,⟨i,rfl⟩|⟨i,E,F,mk,H,rfl,j,u⟩⟩;exact gQ (jX cK (.inl ⟨_,rfl,e.trans p,.inl ⟨i,rfl⟩⟩));have x:=j.g.lo;have I:=e.size;obtain⟨f,rfl,o,_⟩:=lF j.k.g.vN i;refine gQ (lh dt (iM (Qo (n0:=w.heap.size) (canv:=canv) j.k cK j.g.WX cL cL u o) (λn h=>.inr ⟨rfl,h⟩) ?_));rintro v J ⟨y,a,c,rfl,z,A⟩;rw[ny];exact .inl ⟨_,rfl,y.1.from (e.trans p) (dg _),.inr ⟨i,a,c,rfl,z,A⟩⟩
def JE(hd:gX w da G.doors)(R:G.doors.length<=100000)(hr:kq w la l)(ab:l.length<=100000)(h:Int):
 Calls V.prog 53 #[gV G da dc,.slice la l.length lc,.int .i64 h] w (fM λv Q=>Ext w Q/\((dG G l h 0≠0/\v=.tuple #[.slice none 0 0,.int .i64 (dG G l h 0)])\/(dG G l h 0=0/\∃u,v=.tuple #[u,.int .i64 0]/\eK w.heap.size Q u (Qs G (fw G l).2 h.toNat)))):=by
 refine jb Tryz.func53 Tryz.ntmps53 ?_;refine eH λw1 gb S ap m=>eI m (cX (mC (dc:=dc) (hd.ext S) R (hr.ext S) ab h 0) ?_);rintro v w2 ⟨e2,⟨y,rfl⟩|⟨y,wp,gp,mk,I,rfl,T,hx⟩⟩;exact gQ (jX cK ⟨_,rfl,S.trans e2,.inl ⟨y,rfl⟩⟩);have aq:=T.g.lo;have s1:=S.size;have U:=T.k.g.vN;have h5:=U.many;have ac:=T.k.len;obtain⟨f,rfl,ad,_⟩:=lF U y;have⟨c,ae⟩:=jQ ((fw G l).2);have hk:=T.k;rw[<-ae]at hk hx ac⊢;have ao:=ur G.tries c;refine gQ (lh dt (cX (Ep hk) ?_));rintro ov J ⟨e3,af⟩;obtain⟨oa,oc,rfl,ag,ar⟩:=af.row;have E2:=S.trans e2;have E3:=E2.trans e3;have s2:=E2.size;rw[ny];have ah:∀b,¬cV fl b:=λb m=>by have⟨_,_,m⟩:=m;grind
 refine dm<|jG (n:=(dU G.tries c).length) (λk v=>[(2,i64 f),(8,di wp),(10,v),(24,.slice oa (dU G.tries c).length oc),(25,i64 (dU G.tries c).length),(26,i64 k)]) (λk v Q=>jH w.heap.size J Q/\mg (cV v) mk I G Q/\eK J.heap.size Q v (((dU G.tries c).take k).filter (nG G c f))) (fl) ⟨by trivial,jH.refl _ _,(T.g.WX.ext e3).more cK,cZ.nil _ _ _ _⟩ ?_ ?_ ?_;rintro k v F W hJ;exact dK ⟨rfl,rfl,by trivial,hJ⟩;rintro k v F z ⟨K,A,s⟩;obtain⟨b,o,rfl,hc⟩:=(ag.iF K) k z;have⟨d,L⟩:=jQ ((dU G.tries c)[k]);have ai:d<c.length:=by rw[L];exact jI (eB z)
 rw[<-L]at hc;have M:=hk.iF ((e3.iF w.heap.size).trans K);have H:=ko.eo (G:=G) h5 (l:=[d]) cK;have⟨sa,sc,g1,g2,g3,g4⟩:=M.at_;have N:=zg w.heap.size mk I G (cV v);have aj:∀b,cV v b->b<F.heap.size:=λb m=>(cZ.blk s m).2;have al:(dU G.tries c).take (k+1)=(dU G.tries c).take k++[d]:=by rw[iw z,L]
 have au:(((dU G.tries c).take k).filter (nG G c f)).length<=5:=by grind
 have av:nG G c f d=((ju G c[d] f).isEmpty||!l8 G (eo [d])):=by unfold nG;grind
 have same:∀j,MA w.heap.size mk I G (cV v) F j->nG G c f d=false->jH w.heap.size J j/\mg (cV v) mk I G j/\eK J.heap.size j v (((dU G.tries c).take (k+1)).filter (nG G c f)):=λj X hf=>by
  refine⟨K.trans X.1,X.2 A,?_⟩;have e:((dU G.tries c).take (k+1)).filter (nG G c f)=((dU G.tries c).take k).filter (nG G c f):=by grind
  rw[e];exact cZ.iF s X.1
 have Y:∀j,MA w.heap.size mk I G (cV v) F j->nG G c f d=true->∀k':nB,(∀B p,jH w.heap.size J p->mg (cV B) mk I G p->eK J.heap.size p B (((dU G.tries c).take (k+1)).filter (nG G c f))->k' B p)->∀(q:Nat) (p:cI),Ext j p->p.heap[q]? =some (.cells [i64 d].toArray 3)->∀(t:cQ) (cb:Array Bool),y8 V.prog (builtin .append #[27,27] t cb #[v,fa q 1 1]) p k':=λj X ht k' W q p C m t cb=>by
  have D:MA w.heap.size mk I G (cV v) F p:=N.trans _ _ _ X (C.ma _ _ _ _ _);have Z:eK J.heap.size p v (((dU G.tries c).take k).filter (nG G c f)):=cZ.iF s D.1;have O:=D.2 A;refine gR n8 Z (zp K.size D.1.size) m cL λB w7 y x h3=>W B w7 ((K.trans D.1).iI x Z (dg _)) ?_ ?_;exact O.go cK (λb o v m hc=>x.fq hc m) λb o m ho=>x.fL ho λhf=>by obtain rfl|rfl:=m;exact O.ak hf;exact O.asm hf
  have e:((dU G.tries c).take (k+1)).filter (nG G c f)=((dU G.tries c).take k).filter (nG G c f)++[d]:=by grind
  rw[e];simpa[eK,gm]using y
 refine eX k z (cO hc ?_);refine dD N<| .rel (λu j=>fe F.heap.size j u (ju G c[d] f)) (λu a b hu e=>hu.iF e.1) (λj r=>cX (He (M.iF r.1) ai cK ad) λu p ⟨C,hu⟩=>⟨hu.low r.1.size,C.ma _ _ _ _ _⟩)<| .exact (i64 (ju G c[d] f).length) (λj r P am=>?_) ?_;obtain⟨a3,c3,rfl,_⟩:=fe.row (show fe F.heap.size j P (ju G c[d] f)from am);exact dm ⟨rfl,N.refl _⟩;refine KV ⟨λx=>?_,λx=>?_⟩ N;have x:(ju G c[d] f).length=0:=by grind
 have hl:nG G c f d=true:=cK;exactλj r P _=>jX rfl (er [i64 d] 3 λp q C E m=>Y j r hl _ (λB w7 q1 q2 q3=>cW ⟨B,by trivial,q1,q2,q3⟩) q p C m _ _);have x:¬(ju G c[d] f).length=0:=cK;have aw:(ju G c[d] f).isEmpty=false:=by grind
 refine .exact (di gp) (λj r=>cO (r.1.cell g1) ⟨rfl,N.refl _⟩)<| .rel (λu j=>∃q,u=fa q 1 1/\j.heap[q]? =some (.cells [Value.int .i64 d].toArray 3)) (λu a b ⟨q,y,x⟩ e=>⟨q,y,e.1.at_ x⟩) (λj r=>er [i64 d] 3 λp q C E m=>⟨cK,C.ma _ _ _ _ _⟩) ?_;refine .exact (.int .u8 (eo [d])) (λj r aa an=>?_) ?_;obtain⟨q,rfl,E⟩:∃q,aa=fa q 1 1/\j.heap[q]? =some (.cells [Value.int .i64 d].toArray 3):=an;exact dH (uo [d] _ 1 j (λi hi=>⟨q,0,rfl,cN E (by have:i=0:=cK;grind)⟩) cK dt) ⟨rfl,N.refl _⟩;refine .exact (.bool (l8 G (eo [d]))) (λj r=>cX (Ez (M.g.iF r.1) (λb m=>ep (aj b m) r.1.size) (r.2 A) cL H.1 H.2) λu p ⟨y,x⟩=>⟨y,x⟩)<|mY ?_ N;intro j r aa _ P _;refine⟨λh3=>?_,λh3=>?_⟩;have hl:nG G c f d=true:=cK;exact er [i64 d] 3 λp q C E m=>Y j r hl _ (λB w7 q1 q2 q3=>cW ⟨B,by trivial,q1,q2,q3⟩) q p C m _ _;have hl:nG G c f d=false:=cK;exact cW ⟨v,by trivial,cK⟩;rintro v F ⟨K,A,s⟩;rw[jN]at s;exact⟨_,rfl,K.from E3 (dg _),.inr ⟨y,v,rfl,s.low E3.size⟩⟩
end
def Bd(w:cI)(a:dV)(c:List (Int×eY)):Prop:=∀k (h:k<c.length),∃b o d e,a=some ⟨b,o,none⟩/\w.cell? ⟨b,o+k*2,none⟩=some (.int .i64 c[k].1)/\w.cell? ⟨b,o+k*2+1,none⟩=some (.slice d c[k].2.length e)/\kD w d c[k].2/\c[k].2.length<=e
theorem Bd.ext{w c:cI}{a:dV}{d:List (Int×eY)}(h:Bd w a d)(e:Ext w c):Bd c a d:=λk f=>by have⟨b,o,g,i,j,l,m,n,p⟩:=h k f;exact⟨b,o,g,i,j,e.cell l,e.cell m,n.ext e,p⟩
def lJ(n:Int)(a last:Int):List (Int×eY)->Int
 |[]=>0
 |p::r=>if l5 p.1 a last then(if iZ n p.2=0 then lJ n a last r else iZ n p.2)else 3
def EL(n a last:Int)(b:List (Int×eY))(k:Nat)(c:k<b.length):lJ n a last (b.drop k)=if l5 b[k].1 a last then(if iZ n b[k].2=0 then lJ n a last (b.drop (k+1))else iZ n b[k].2)else 3:=by rw[pz c];rfl
def Tr(p:Int×eY):Nat×cM:=(p.1.toNat,p.2.map Int.toNat)
theorem Be{n:Nat}{a last:Int}:∀{c:List (Int×eY)},lJ n a last c=0->∀p∈c,l5 p.1 a last=true/\iZ n p.2=0
 |p::r,h,q,b=>by simp only[lJ]at h;split at h;rename_i d;split at h;rename_i e;obtain rfl|b:=eW.1 b;grind;exact Be h q b;grind;grind
theorem Bd.GZ{n:Nat}{c last:Int}{w:cI}{a:dV}{e:List (Int×eY)}(h:Bd w a e)(F:0<=c)(v:lJ n c last e=0):ll w a (e.map Tr)/\∀p∈e.map Tr,(p.1:Int)<=last/\∀d∈p.2,d<n:=by
 have s:=Be v;refine⟨λk G=>?_,λp x=>?_⟩;have g:k<e.length:=cK;have⟨b,o,y,z,A,H,j,t,l⟩:=h k g;have⟨m,r⟩:=s _ (eB g);have⟨f,u,B⟩:=pQ r;have i:(qo f).map Int.toNat=f:=by simp[qo,zJ]
 have C:((e.map Tr)[k]).2=f:=by grind [Tr]
 have I:(((e.map Tr)[k]).1:Int)=e[k].1:=by simp only[l5,eU,j9]at m;simp only[List.getElem_map,Tr];omega
 rw[C];rw[u]at j t l;have D:(qo f).length=f.length:=cK;rw[D]at j l;exact⟨b,o,y,z,A,cK,j,t.GZ,l⟩;obtain⟨q,E,rfl⟩:=kF.1 x;have⟨m,r⟩:=s q E;have⟨f,u,B⟩:=pQ r;have i:(qo f).map Int.toNat=f:=by simp[qo,zJ]
 simp only[l5,eU,j9]at m;grind [Tr]
def pT(G:Gd)(l:List Tq)(a b:Int)(c:List (Int×eY)):Bool×Int:=
 if dG G l a b=0 then(if lJ G.doors.length a (2*G.days-1) c=0 then(uu G (fw G l).2 b (c.map Tr),0)else(false,lJ G.doors.length a (2*G.days-1) c))else(false,dG G l a b)
section
variable{G:Gd}{da:Option Addr}{dc:Nat}{w:cI}{l:List Tq}{la:Option Addr}{lc:Nat}
def EM(S:gX w da G.doors)(C:G.doors.length<=100000)(hr:kq w la l)(T:l.length<=100000)(h canv:Int){ps:List (Int×eY)}{O:dV}{pc:Nat}(hp:Bd w O ps)(U:ps.length<=20)(D:∀p∈ps,p.2.length<=1000):
 Calls V.prog 38 #[gV G da dc,.slice la l.length lc,.int .i64 h,.int .i64 canv,.slice O ps.length pc] w (fM λv u=>Ext w u/\v=.tuple #[.bool (pT G l h canv ps).1,.int .i64 (pT G l h canv ps).2]):=by
 refine jb Tryz.func38 Tryz.ntmps38 ?_;refine eH λw1 gb P ae hb=>eI hb (cX (mC (dc:=dc) (S.ext P) C (hr.ext P) T h canv) ?_);rintro v w2 ⟨e2,⟨A,rfl⟩|⟨A,wp,gp,mk,ms,rfl,hg,hx⟩⟩;exact gQ (jX (eV A) ⟨_,rfl,P.trans e2,by unfold pT;rw[cR A];rfl⟩);have E:=hg.k;have x:=E.g.vN;have h5:=x.many;have W:=E.len;obtain⟨f,rfl,af,ag⟩:=lF x A;have Q:=P.trans e2;have⟨sa,sc,g1,g2,g3,g4⟩:=E.at_;refine gQ (lh dt (dm ?_));refine ft (n:=ps.length) (λk=>[(2,i64 f),(3,i64 canv),(4,.slice O ps.length pc),(12,di wp),(28,.slice O ps.length pc),(29,i64 ps.length),(30,i64 k)]) (λk u=>Ext w2 u/\lJ G.doors.length f (2*G.days-1) ps=lJ G.doors.length f (2*G.days-1) (ps.drop k)) ⟨by trivial,Ext.refl _,rfl⟩ ?_ ?_ ?_;rintro k X ah hJ;exact dK ⟨rfl,rfl,by trivial,hJ⟩;rintro k X s ⟨B,a⟩;obtain⟨b,o,a',c',rfl,q1,q2,q3,q4⟩:=(hp.ext (Q.trans B)) k s;rw[EL _ _ _ _ _ s]at a;have y:=D _ (eB s);have⟨p,Y⟩:=jQ (ps[k]);rw[<-Y]at q1 q2 q3 q4 a y;refine fE k 2 s (ew (vs:=[i64 p.1,.slice a' p.2.length c']) (λj v F=>?_) (eS λw4 xb Z aa H=>dI H λw5 k5 t=>?_));match j,F with
 |0,F=>cases F;exact q1
 |1,F=>cases F;exact q2
 have t:fC w5 xb #[i64 p.1,.slice a' p.2.length c'] 29:=t;have I:Ext X w5:=Z.cS k5 aa;have m:=B.trans I;have J:=E.ext m;have K:∀u (c:Int),Ext w5 u->lJ G.doors.length f (2*G.days-1) ps=c->c≠0->∃v,Ending.returned (one [.bool false,i64 c])=.returned v/\Ext w u/\v=.tuple #[.bool (pT G l f canv ps).1,i64 (pT G l f canv ps).2]:=λu c e hc h0=>⟨_,rfl,(Q.trans m).trans e,by unfold pT;rw[cT A,hc,cR h0];rfl⟩;refine dD dC (dl (cN t rfl) (dl (m.cell g1) (iW dC _ (λR r=>last_at (J.g.ext r)) (iW dC _ (λR r=>fT _ _ _ R) (mY λR r=>⟨λz=>?_,λz=>?_⟩)))));have z:l5 p.1 f (2*G.days-1)=false:=eV z;exact K R 3 r (by rw[a,cR (by rw[z];simp)]) cL;have z:l5 p.1 f (2*G.days-1)=true:=eV z;rw[cT z]at a;have ab:=J.ext r;refine dD dC (dl (r.cell (m.cell g1)) (dl (cN (r.at_ t) rfl) (iW dC _ (λw7 L=>CM (ab.g.ext L) ((q3.ext (I.trans r)).ext L) cL q4) λw7 L=>gQ ⟨λi=>?_,λi=>?_⟩)));have i:¬iZ G.doors.length p.2=0:=fH i;exact K w7 _ (r.trans L) (by rw[a,cR i]) i;have i:iZ G.doors.length p.2=0:=eV i;rw[cT i]at a;exact cW ⟨by trivial,(m.trans r).trans L,a⟩;rintro X ⟨B,a⟩;have a:lJ G.doors.length f (2*G.days-1) ps=0:=by rw[a,List.drop_of_length_le (dg _)];rfl
 have⟨ac,M⟩:=(hp.ext (Q.trans B)).GZ cL a;have ai:=x.days;have N:=Nq (canv:=canv) (pc:=pc) (E.ext B) hx ac (eV U) λq hq=>⟨iD ((M q hq).1),by obtain⟨q',ad,rfl⟩:=kF.1 hq;have:=D q' ad;simpa[Tr]using this,λd S=>by rw[W];exact(M q hq).2 d S⟩;rw[nR]at N;refine ek N λw4 Z=>⟨_,rfl,(Q.trans B).trans Z,?_⟩;unfold pT;rw[cT A,cT a];rfl
end
def yF(l a:List (Nat×cM))(la j:dV)(lc n:Nat)(w:cI)(B:ll w la l)(r:ll w j a)(A:l.length<=100000)(C:∀x∈l,x.2.length<=100000):
 Calls V.prog 42 #[.slice la l.length lc,.slice j a.length n] w (fM λv q=>v=.bool (decide (l=a))/\Ext w q):=by
 refine jb Tryz.func42 Tryz.ntmps42 ?_;refine dm (dm (gQ ⟨λh=>?_,λh=>?_⟩));have h:¬l=a:=cK;exact⟨_,rfl,by simp[h],Ext.refl _⟩;have h:l.length=a.length:=cK;refine fA l.length (λk (_:Unit)=>[(0,.slice la l.length lc),(1,.slice j a.length n),(5,i64 k)]) (λk _ q=>Ext w q/\l.take k=a.take k) () ⟨by trivial,Ext.refl _,dt⟩ ?_;rintro k _ q I ⟨e,D⟩;refine dm (dK ⟨λf=>?_,λs=>?_⟩);have f:k<l.length:=cK;have d:k<a.length:=cL;obtain⟨b,o,x,c,rfl,E,t,F,_⟩:=(B.iF (e.iF 0)) k f;obtain⟨J,K,G,H,rfl,u,p,y,_⟩:=(r.iF (e.iF 0)) k d;refine dD dC (jq k 2 f (dl E (jq k 2 d (dl u (Ut ⟨λg=>?_,λg=>?_⟩)))));have g:¬l[k].1=a[k].1:=cK;have:¬l=a:=cK;exactλz m=>jX rfl ⟨_,rfl,by simp[this],e.trans m⟩;have g:l[k].1=a[k].1:=by grind
 refine jq k 2 f (dl t (jq k 2 d (dl p (ik (.bool (decide (l[k].2=a[k].2))) (λz m=>rN l[k].2 a[k].2 x G c H z (F.ext m) (y.ext m) cK) (mY λz m=>⟨λi=>?_,λi=>?_⟩)))));have i:¬l[k].2=a[k].2:=cK;have:¬l=a:=cK;exact⟨_,rfl,by simp[this],e.trans m⟩;have i:l[k].2=a[k].2:=cK;refine cW ⟨f,(),by trivial,e.trans m,?_⟩;rw[iw f,iw d,D,Prod.ext g i];have s:¬k<l.length:=cK;have:l=a:=by grind
 exact⟨_,rfl,by simp[this],e⟩
def pk:List Tq:=[⟨0,0,false⟩,⟨1,0,true⟩,⟨2,1,false⟩]
theorem Hv:je gM [0,1,2,3]=38/\iA gM [0,1,2,3]=55/\nU gM [0,1,2,3]=0:=by decide+kernel
def Hw:nU gM [3,2,1,0]=0/\fh gM (eo [3,2,1,0])=some [[0,1],[2,3]]:=by decide+kernel
def EN:List Sx:=[⟨1,1,0,false,true,false,false,false⟩,⟨1,1,0,true,true,false,false,false⟩,⟨1,0,1,false,true,false,false,false⟩,qV]
def Qt:fw gM pk=(0,EN):=by rfl
theorem Bf:dG gM pk 5 0=0/\dG gM pk 2 0=0/\dG gM pk 2 1=0/\dG gM [] 3 1=0:=by decide+kernel
def Ts:Qs gM EN 5=[2,3]:=by decide+kernel
def Yg:eJ:=⟨[0,2,3],[[[3],[5]],[[2],[4]],[[2,5],[3,4]]],[0,1,-1,-1,1,1,-1,-1,1,1,-1,-1,1,2,-1,-1,0,0,0,0,0,0,0,0,0,0,0,0,0,0,0,0]⟩
def Qu:dM gM EN 2=Yg:=by unfold dM Yg;rw[eJ.mk.injEq];exact⟨by decide+kernel,by decide+kernel,by decide+kernel⟩
def Tt:gf Yg=some ([0,1,1],1,2):=by decide+kernel
def Tu:pi gM (dM gM EN 2)=some [(3,[0,3]),(4,[2,3])]:=by rw[Qu];unfold pi;rw[Tt];decide+kernel
def Nr:pT gM pk 2 1 [(3,[0,3]),(4,[2,3])]=(true,0):=by decide+kernel
def JF:List Sx:=[qV,qV,qV,qV]
def Tv:fw gM []=(0,JF):=by rfl
def Qv:qx (vx gM JF 3 1) (dU gM.tries JF)=[0,1]:=by decide+kernel
def nj{l:eY}(h:w.heap[m]? =some (.cells (l.map (Value.int .i64)).toArray T)):kD w (some ⟨m,0,none⟩) l:=λk a=>⟨m,0,rfl,cN h (by grind)⟩
def ow(h:w.heap[m]? =some (.cells (gm l).toArray T)):fN w (some ⟨m,0,none⟩) l:=λk a=>⟨m,0,rfl,cN h (by rw[dj];simp[gm,eZ a])⟩
theorem C7:∀(l:List Tq) (k:Nat) (a:k<l.length) (j:Nat) (v:cJ),(uS l[k])[j]? =some v->(l.flatMap uS)[k*3+j]? =some v
 |x::r,0,_,j,v,h=>by grind
 |x::r,k+1,a,j,v,h=>by have b:=C7 r k cK j v cK;have c:(uS x).length=3:=rfl;grind
def Ns{l:List Tq}(h:w.heap[m]? =some (.cells (l.flatMap uS).toArray T)):kq w (some ⟨m,0,none⟩) l:=λk a=>⟨m,0,rfl,λj v b=>cN h (by rw[dj];grind [C7])⟩
def Qw(w:cI):kq w none []:=λk a=>by simp at a
def uw{k:nB}{c:List PanicEntry->dB}(d:∀a b,Ext w a->gX a (some ⟨b,0,none⟩) gM.doors->k (gV gM (some ⟨b,0,none⟩) 4) a):SA V.prog 95 [] w k c:=
 cX (PM w) λv a ⟨e,b,_,f,g⟩=>by subst f;exact d a b e (MH g)
def Bg{k:nB}{c:List PanicEntry->dB}(d:∀a b,Ext w a->kq a (some ⟨b,0,none⟩) pk->k (.slice (some ⟨b,0,none⟩) 3 3) a):SA V.prog 96 [] w k c:=
 cX (MI w) λv a ⟨e,b,_,f,g⟩=>by subst f;exact d a b e (Ns g)
def Qx:gM.doors.length<=100000/\ -1000000<=gM.streets/\gM.streets<=1000000:=kA
def Nt:xA gM [0,1,2,3]=.tuple #[.agg (oX 38 55).toArray,.int .i64 0]:=by unfold xA;rw[cT Hv.2.2];grind [Hv]
def Ry{a:Func}{c:Code}{R:Ending->dB}(d:V.prog.funcs[K]? =some a)(e:a.ntmps=m)(h:dP V.prog m c (W.toList.zipIdx.map λp=>(p.2,p.1)) w (QR V.prog a.results.toList R))
 (f:a.body=some c:=by rfl)(b:Nat.ble W.toList.length m=true:=by rfl):Calls V.prog K W w R:=by
 have:=Un (args:=W.toList) m d f e (qH b) h;simpa using this
def Tw{a:Func}{c:Code}{R:Ending->dB}(d:Tryz.prog.funcs[K]? =some a)(e:a.ntmps=m)(h:dP V.prog m c (W.toList.zipIdx.map λp=>(p.2,p.1)) w (QR V.prog a.results.toList R))
 (f:a.body=some c:=by rfl)(b:Nat.ble W.toList.length m=true:=by rfl)(g:K≠163:=by decide):Calls V.prog K W w R:=Ry (V.fn d g) e h f b
def tN(w:cI):Calls V.prog 26 #[] w (vw λv w'=>v=.bool true/\Ext w w'):=by
 have⟨c,bm⟩:=Qx;refine Tw Tryz.func26 Tryz.ntmps26 (dP.seq dr ?_);refine dP.seq dr<|uw λw1 b1 e1 aB=>er [i64 0,i64 1,i64 2,i64 3] 3 λw2 bs e2 bn aC=>ek (MG (l:=[0,1,2,3]) (aB.ext e2) c (nj aC) cK cK) λw3 e3=>?_;rw[Nt];refine eS λw4 G e4 aD R=>dI R λw5 k5 H=>?_;have H:w5.heap[G]? =some (.cells (oX 38 55).toArray 56):=H;have E5:Ext w w5:=((e1.trans e2).trans e3).trans (e4.cS k5 aD);refine dP.jj (l0:=[(1,di G),(2,i64 0)]) (by trivial) (dP.seq dr ?_);refine uw λw6 b6 e6 aE=>er [i64 3,i64 2,i64 1,i64 0] 3 λw7 bt e7 bo aF=>cX (Ht (ds:=[3,2,1,0]) (aE.ext e7) c (nj aF) cK cK) ?_;rintro v w8 ⟨e8,⟨h,_⟩|⟨_,S⟩⟩;exact absurd Hw.1 h;have aG:fh gM (eo (([3,2,1,0]:eY).map Int.toNat))=some [[0,1],[2,3]]:=Hw.2;rw[aG]at S;obtain⟨T,rfl,aH⟩:=S;have E8:=((E5.trans e6).trans e7).trans e8;have aI:=((e6.trans e7).trans e8).at_ H;refine dP.jj (l0:=[(1,di G),(2,i64 0),(3,T),(4,i64 0)]) (by trivial) (dP.seq dr ?_);refine uw λw9 b9 e9 aJ=>Bg λbu bv I U=>cX (JE (l:=pk) (aJ.ext I) c U kA 5) ?_;rintro v bw ⟨W,⟨h,_⟩|⟨_,lv,rfl,X⟩⟩;exact absurd Bf.1 h;have aK:Qs gM (fw gM pk).2 (5:Int).toNat=[2,3]:=by rw[Qt];exact Ts
 rw[aK]at X;have aL:=((E8.trans e9).trans I).trans W;have y:=(e9.trans I).trans W;refine dP.jj (l0:=[(1,di G),(2,i64 0),(3,T),(4,i64 0),(5,lv),(6,i64 0)]) (by trivial) (dP.seq dr ?_);refine uw λbx bz Y Z=>Bg λbA bB J aa=>iM (Bc (l:=pk) (Z.ext J) c aa kA 2) (λw' h=>.inr ⟨rfl,h⟩) ?_;rintro v bC ⟨ab,⟨h,_⟩|⟨_,S⟩⟩;exact absurd Bf.2.1 h;have aM:pi gM (dM gM (fw gM pk).2 (2:Int).toNat)=some [(3,[0,3]),(4,[2,3])]:=by rw[Qt];exact Tu
 rw[aM]at S;obtain⟨pv,rfl,aN⟩:=S;have aO:=((aL.trans Y).trans J).trans ab;have d:=(Y.trans J).trans ab;refine dP.jj (l0:=[(1,di G),(2,i64 0),(3,T),(4,i64 0),(5,lv),(6,i64 0),(7,pv),(8,i64 0)]) (by trivial) (dP.seq dr ?_);refine uw λbD bE aP ac=>iM (Hu (l:=[]) (la:=none) (lc:=0) ac c (Qw _) cK 3 1) (λw' h=>.inr ⟨rfl,h⟩) ?_;rintro v bF ⟨aQ,⟨h,_⟩|⟨_,va,vc,rfl,ad,_⟩⟩;grind [Bf];have aR:qx (vx gM (fw gM []).2 (3:Int).toNat 1) (dU gM.tries (fw gM []).2)=[0,1]:=by rw[Tv];exact Qv
 rw[aR]at ad⊢;have b:=aP.trans aQ;have ae:=aO.trans b;refine dP.jj (l0:=[(1,di G),(2,i64 0),(3,T),(4,i64 0),(5,lv),(6,i64 0),(7,pv),(8,i64 0),(9,.slice va 2 vc),(10,i64 0)]) (by trivial) (dP.seq dr ?_);refine uw λbG bH aS af=>Bg λbI bJ ag ah=>er [i64 0,i64 3] 3 λbK z aT aU ai=>ek (Et 3 _ 2 2 _) λbL aV=>er [i64 2,i64 3] 3 λbM A aW aX aj=>ek (Et 4 _ 2 2 _) λbN ak=>er [i64 3,fa z 2 2,i64 4,fa A 2 2] 29 λaY m al aZ f=>?_;have n:=(aV.trans aW).trans (ak.trans al);have K:Bd aY (pt m 0) [(3,[0,3]),(4,[2,3])]:=λk hk=>by have am:k<2:=hk;obtain rfl|rfl:k=0\/k=1:=cL;exact⟨m,0,some (dq z 0),2,rfl,cN f rfl,cN f rfl,nj (n.at_ ai),dg _⟩;exact⟨m,0,some (dq A 0),2,rfl,cN f rfl,cN f rfl,nj ((ak.trans al).at_ aj),dg _⟩
 have e:=aT.trans n;refine cX (EM (l:=pk) (ps:=[(3,[0,3]),(4,[2,3])]) ((af.ext ag).ext e) c (ah.ext e) kA 2 1 K cK cK) ?_;rintro v bO ⟨a0,rfl⟩;rw[Nr];have a:=((aS.trans ag).trans e).trans a0;have bP:=ae.trans a;refine dP.jj (l0:=[(1,di G),(2,i64 0),(3,T),(4,i64 0),(5,lv),(6,i64 0),(7,pv),(8,i64 0),(9,.slice va 2 vc),(10,i64 0),(11,.bool true),(12,i64 0)]) (by trivial) (dP.seq dr ?_);have bp:=(((y.trans d).trans b).trans a).at_ aI;refine fc (jX rfl ?_);refine fc (jX rfl ?_);refine fc (jX rfl ?_);refine fc (jX rfl ?_);refine fc (jX rfl ?_);refine fc (jX rfl ?_);refine jX rfl ?_;refine ew (vs:=oX 38 55) (λj v hj=>by rw[dj];grind [cN]) ?_;refine ez (.agg (oX 38 55).toArray)<|ez (.bool true)<|jX rfl<|er [i64 0,i64 1] 3 λbQ B u a1 an=>er [i64 2,i64 3] 3 λbR C o a2 ao=>er [fa B 2 2,fa C 2 2] 27 λap p i a3 D=>?_;obtain⟨wa,wc,rfl,a4,_⟩:=aH.row;have aq:=((((y.trans d).trans b).trans a).trans u).trans (o.trans i);have x:wA ap (pt p 0) [[0,1],[2,3]]:=λk hk=>by have am:k<2:=hk;obtain rfl|rfl:k=0\/k=1:=cL;exact⟨p,0,some (dq B 0),2,rfl,cN D rfl,ow (l:=[0,1]) ((o.trans i).at_ an),dg _⟩;exact⟨p,0,some (dq C 0),2,rfl,cN D rfl,ow (l:=[2,3]) (i.at_ ao),dg _⟩
 refine ek (GY [[0,1],[2,3]] [[0,1],[2,3]] wa _ wc 2 ap (a4.ext aq) x cK cK) λbS L=>jX cK<|er [i64 2,i64 3] 3 λa5 bq M a6 ar=>?_;obtain⟨a7,a8,rfl,a9,_⟩:=X.row;have N:=(((((d.trans b).trans a).trans u).trans (o.trans i)).trans L).trans M;refine ek (rN [2,3] [2,3] a7 _ a8 2 a5 (a9.ext N) (ow ar) cK) λbT au=>jX cK<|er [i64 0,i64 3] 3 λbU E ba bb av=>ek (Et 3 _ 2 2 _) λbV aw=>er [i64 2,i64 3] 3 λbW F ax bc ay=>ek (Et 4 _ 2 2 _) λbX O=>er [i64 3,fa E 2 2,i64 4,fa F 2 2] 29 λaz q P bd g=>?_;obtain⟨be,bf,rfl,bg,_⟩:=aN.row;have r:=((ba.trans aw).trans (ax.trans O)).trans P;have Q:=((((((b.trans a).trans u).trans (o.trans i)).trans L).trans M).trans au).trans r;have s:ll az (pt q 0) [(3,[0,3]),(4,[2,3])]:=λk hk=>by have am:k<2:=hk;obtain rfl|rfl:k=0\/k=1:=cL;exact⟨q,0,some (dq E 0),2,rfl,cN g rfl,cN g rfl,ow (l:=[0,3]) (((aw.trans (ax.trans O)).trans P).at_ av),dg _⟩;exact⟨q,0,some (dq F 0),2,rfl,cN g rfl,cN g rfl,ow (l:=[2,3]) ((O.trans P).at_ ay),dg _⟩
 refine ek (yF [(3,[0,3]),(4,[2,3])] [(3,[0,3]),(4,[2,3])] be _ bf 2 az (bg.iF (Q.iF 0)) s cK cK) λbY bh=>jX cK<|er [i64 0,i64 1] 3 λbi br bj bk aA=>?_;have t:=((((((a.trans u).trans (o.trans i)).trans L).trans M).trans au).trans r).trans (bh.trans bj);refine ek (rN [0,1] [0,1] va _ vc 2 bi (ad.ext t) (ow aA) cK) λbZ bl=>dP.of dr (.inl ⟨_,rfl,?_,(ae.trans t).trans bl⟩);simp
def u64(n:Int):Int:=IntKind.wrap .u64 n
def Lo(n:Int):0<=u64 n:=by unfold u64 IntKind.wrap;simp only[IntKind.signed,Bool.false_and,iH,fj];omega
def VJ(a b:Int):Int:=u64 (BitVec.ofInt 64 a^^^BitVec.ofInt 64 b).toNat
section
variable{w:cI}{t:cQ}{x y:dW}{a b:Int}
def rW:Sem.run V.prog (do eqGuard .xor t x y (.int .u64 a) (.int .u64 b);binOp .xor t (.int .u64 a) (.int .u64 b)) w=.ok (.int .u64 (VJ a b)) w:=rfl
def Bh:Sem.run V.prog (do eqGuard .mul t x y (.int .u64 a) (.int .u64 b);binOp .mul t (.int .u64 a) (.int .u64 b)) w=.ok (.int .u64 (u64 (a*b))) w:=rfl
def Qy:Sem.run V.prog (do eqGuard .add t x y (.int .u64 a) (.int .u64 b);binOp .add t (.int .u64 a) (.int .u64 b)) w=.ok (.int .u64 (u64 (a+b))) w:=rfl
def Lp(n:Nat)(d:n<=64)(c:b=n:=by rfl):Sem.run V.prog (do eqGuard .shl t x y (.int .u64 a) (.int .u64 b);binOp .shl t (.int .u64 a) (.int .u64 b)) w=.ok (.int .u64 (u64 (a*2^n))) w:=by
 subst c;show Sem.run jS (Op.shift .shl .u64 a .u64 n) w=_;unfold Op.shift;rw[cR dt];have:min (n:Int).toNat IntKind.u64.bits=n:=by simp[IntKind.bits];omega
 rw[this];rfl
def ux(n:Nat)(d:n<=64)(c:b=n:=by rfl):Sem.run V.prog (do eqGuard .shr t x y (.int .u64 a) (.int .u64 b);binOp .shr t (.int .u64 a) (.int .u64 b)) w=.ok (.int .u64 (a.fdiv (2^n))) w:=by
 subst c;show Sem.run jS (Op.shift .shr .u64 a .u64 n) w=_;unfold Op.shift;rw[cR dt];have:min (n:Int).toNat IntKind.u64.bits=n:=by simp[IntKind.bits];omega
 rw[this];rfl
def Qz(h:b≠0):Sem.run V.prog (do eqGuard .rem t x y (.int .u64 a) (.int .u64 b);binOp .rem t (.int .u64 a) (.int .u64 b)) w=.ok (.int .u64 (a.tmod b)) w:=by show Sem.run jS (Op.intDiv .rem .u64 a b) w=_;unfold Op.intDiv;rw[cR h];rfl
def LW:Tryz.prog.underlying 3=some (.int .i64):=dt
def QA:Tryz.prog.underlying 119=some (.int .u64):=dt
def Lq:Sem.run V.prog (convert 3 119 (.int .i64 a)) w=.ok (.int .u64 (u64 a)) w:=by unfold convert;simp only[Sem.run_bind,iz LW,iz QA,Result.andThen_ok];rfl
def Tx:Sem.run V.prog (convert 119 3 (.int .u64 a)) w=.ok (.int .i64 (IntKind.wrap .i64 a)) w:=by unfold convert;simp only[Sem.run_bind,iz LW,iz QA,Result.andThen_ok];rfl
end
section
variable{E:cI->cI->Prop}{w:cI}{kx:cJ->Prop}{kr kp kl:io->Prop}{lb ea:Bool}
def rX{s:Sem cJ}(v:cJ)(b:gJ E)(c:∀w,Sem.run V.prog s w=.ok v w)(k:kx v):xv E E w (λa d=>jL V.prog s a d) kx kr kp lb kl ea:=.exact v (λa _=>⟨v,a,c a,rfl,b.refl _⟩) k
end
structure jK(db:Nat)(w:cI):Prop where
 at_:∃(la:Option Addr) (ns:List Int) (lc i:Nat) (s:Int),w.heap[db]? =some (.cells #[.slice la ns.length lc,.int .i64 i,.int .u64 s] 121)/\kD w la ns/\(∀b o,ns≠[]->la=some ⟨b,o,none⟩->b<db)/\i<=ns.length/\ns.length<=9223372036854775807
def kD.keep{w c:cI}{a:dV}{l:eY}{F:dn}(h:kD w a l)(k:dA F w c)(g:∀b o,l≠[]->a=some ⟨b,o,none⟩->¬F b):kD c a l:=λi d=>by have⟨b,o,e,f⟩:=h i d;exact⟨b,o,e,k.fq f cK⟩
def jK.lt{w:cI}(h:jK m w):m<w.heap.size:=by have⟨a,b,c,i,s,d,_⟩:=h.at_;grind
theorem jK.keep{w a:cI}{F:dn}(h:jK m w)(k:dA F w a)(c:∀b,F b->m<b):jK m a:=by have⟨f,g,j,i,s,l,n,d,p⟩:=h.at_;refine⟨f,g,j,i,s,k.fL l λx=>Nat.lt_irrefl _ (c _ x),n.keep k λb o q e r=>?_,d,p⟩;have:=d b o q e;have:=c b r;omega
def jK.ext{w a:cI}(h:jK m w)(e:Ext w a):jK m a:=h.keep (e.keep λ_=>False) cK
def DE(c:Nat)(a b:cI):Prop:=dA (λx=>x=c) a b/\(jK c a->jK c b)
def Ext.de{a b:cI}(h:Ext a b)(c:Nat):DE c a b:=⟨h.keep _,λk=>k.ext h⟩
theorem DE.trans{a b c:cI}(h:DE m a b)(k:DE m b c):DE m a c:=⟨h.1.trans k.1 cK cK,λx=>k.2 (h.2 x)⟩
def xQ(d:Nat):gJ (DE d):=⟨λw=>(Ext.refl w).de d,λa b c h k=>h.trans k,λw=>(Ext.drew w).de d⟩
def Tz{w:cI}(h:jK m w):Calls V.prog 104 #[di m] w (fM λv p=>(∃z:Int,v=.int .u64 z/\0<=z)/\DE m w p):=by
 have⟨r,g,l,i,s,B,J,R,g4,S⟩:=h.at_
 have C:∀p (D:Int) (t:Nat),dA (λx=>x=m) w p->fC p m #[.slice r g.length l,i64 t,.int .u64 D] 121->t<=g.length->DE m w p:=λp D t k T U=>
  ⟨k,λ_=>⟨r,g,l,t,D,T,J.keep k cK,R,U,S⟩⟩
 refine jb Tryz.func104 Tryz.ntmps104 ?_;refine dD dC (dl (cN B rfl) (dl (cN B rfl) (rX _ dC (λ_=>Lp 13 cK) (rX _ dC (λ_=>rW) λw1 K=>dI (K.at_ B) λW E d=>?_))));replace d:fC W m #[.slice r g.length l,i64 i,.int .u64 (VJ s (u64 (s*2^13)))] 121:=d;generalize VJ s (u64 (s*2^13))=u at d;replace E:=(K.keep (λx=>x=m)).trans E (λ_ _ h=>h) cK;refine dD dC (dl (cN d rfl) (dl (cN d rfl) (rX _ dC (λ_=>ux 7 cK) (rX _ dC (λ_=>rW) λw3 L=>dI (L.at_ d) λX F e=>?_))));replace e:fC X m #[.slice r g.length l,i64 i,.int .u64 (VJ u (u.fdiv (2^7)))] 121:=e;generalize VJ u (u.fdiv (2^7))=y at e;replace F:=(E.trans (L.keep (λx=>x=m)) (λ_ _ h=>h) cK).trans F (λ_ _ h=>h) cK;refine dD dC (dl (cN e rfl) (dl (cN e rfl) (rX _ dC (λ_=>Lp 17 cK) (rX _ dC (λ_=>rW) λw5 M=>dI (M.at_ e) λY j a=>?_))));replace a:fC Y m #[.slice r g.length l,i64 i,.int .u64 (VJ y (u64 (y*2^17)))] 121:=a;generalize VJ y (u64 (y*2^17))=N at a;replace j:=(F.trans (M.keep (λx=>x=m)) (λ_ _ h=>h) cK).trans j (λ_ _ h=>h) cK;refine dD dC (dl (cN a rfl) (dl (cN a rfl) (mz (GT λw7 A=>⟨λn=>?_,λZ=>?_⟩))));have n:i<g.length:=cK;replace a:=A.at_ a;replace j:=j.trans (A.keep (λx=>x=m)) (λ_ _ h=>h) cK;have⟨b,o,G,O⟩:=J.keep j cK i n;subst G;generalize g[i]=q at O;refine dD dC (dl (cN a rfl) (dl (cN a rfl) (dl (cN a rfl) (gB i n (dl O ?_)))));refine rX (.int .u64 (u64 q)) dC (λ_=>Lq)<|rX (.int .u64 (u64 (u64 q*13787848793156543929))) dC (λ_=>Bh)<|rX (.int .u64 (u64 (N+u64 (u64 q*13787848793156543929)))) dC (λ_=>Qy)<|λw8 P=>dI (P.at_ a) λw9 k9 f=>?_;generalize u64 (N+u64 (u64 q*13787848793156543929))=Q at f;replace f:fC w9 m #[Fu b o g.length l,i64 i,.int .u64 Q] 121:=f;refine cO (cN f rfl) (cW (dI f λH I c=>?_));replace c:fC H m #[Fu b o g.length l,i64 ((i+1:Nat):Int),.int .u64 Q] 121:=c;refine cO (cN c rfl)<|ez _ (ez _ (ez _ (ez _ (ez _ ⟨_,rfl,⟨_,rfl,Lo _⟩,?_⟩ λ_=>rW) λ_=>ux 31 cK) λ_=>Bh) λ_=>rW) λ_=>ux 30 cK;exact C _ _ _ (((j.trans (P.keep (λx=>x=m)) (λ_ _ h=>h) cK).trans k9 (λ_ _ h=>h) cK).trans I cK cK) c cL;replace a:=A.at_ a;replace j:=j.trans (A.keep (λx=>x=m)) (λ_ _ h=>h) cK;refine cO (cN a rfl)<|ez _ (ez _ (ez _ (ez _ (ez _ ⟨_,rfl,⟨_,rfl,Lo _⟩,?_⟩ λ_=>rW) λ_=>ux 31 cK) λ_=>Bh) λ_=>rW) λ_=>ux 30 cK;grind
def qy{w:cI}(h:jK m w)(n:Int)(f:n<=1000000):Calls V.prog 35 #[di m,.int .i64 n] w (fM λv b=>(∃z:Int,v=.int .i64 z/\0<=z/\(z<=n\/z=0))/\DE m w b):=by refine jb Tryz.func35 Tryz.ntmps35 ?_;refine dK ⟨λ_=>⟨_,rfl,⟨0,rfl,dt,.inr rfl⟩,(xQ m).refl _⟩,λa=>?_⟩;have a:1<=n:=cK;refine cX (Tz h) ?_;rintro v g ⟨⟨z,rfl,i⟩,c⟩;refine ez _ (cW (ez _ (ez _ (ez _ ⟨_,rfl,⟨_,rfl,?_⟩,c⟩ λ_=>Tx) λ_=>Qz ?_) λ_=>Lq)) λ_=>ux 16 cK;have e:u64 (n+1)=n+1:=IntWalk.u64_in _ cL;rw[e];have d:0<=z.fdiv (2^16):=cK;have j:=Int.tmod_nonneg (n+1) d;have k:(z.fdiv (2^16)).tmod (n+1)<n+1:=Int.tmod_lt_of_pos _ cL;grind [IntWalk.i64_in];grind [IntWalk.u64_in,u64]
def mD{w:cI}(h:jK m w)(a b:Int)(g: -1000000<=a/\a<=1000000)(i: -1000000<=b/\b<=1000000)(c:b-a<=1000000):Calls V.prog 30 #[di m,.int .i64 a,.int .i64 b] w (fM λv d=>(∃z:Int,v=.int .i64 z/\a<=z/\(z<=b\/z=a))/\DE m w d):=by refine jb Tryz.func30 Tryz.ntmps30 ?_;refine gC (cX (qy h _ c) ?_);rintro v j ⟨⟨z,rfl,k,e⟩,f⟩;exact cW ⟨_,rfl,⟨a+z,rfl,cL,cL⟩,f⟩
def EO{w:cI}(h:jK m w){l:eY}{c:dV}(f:kD w c l)(p:0<l.length)(g:l.length<=1000)(q:∀b o,c=some ⟨b,o,none⟩->b≠m):Calls V.prog 59 #[di m,.slice c l.length k] w (fM λv i=>(∃z∈l,v=.int .i64 z)/\DE m w i):=by refine jb Tryz.func59 Tryz.ntmps59 ?_;refine dm (gC (cX (qy h _ cL) ?_));rintro v r ⟨⟨z,rfl,s,j⟩,e⟩;obtain⟨a,rfl⟩:∃a:Nat,z=a:=⟨z.toNat,cL⟩;have d:a<l.length:=cL;obtain⟨b,o,rfl,n⟩:=f.keep e.1 cK a d;exact eX a d (cO n ⟨_,rfl,⟨_,eB d,rfl⟩,e⟩)
def Hx{w:cI}{l:eY}{a:dV}(h:kD w a l)(j:l.length<=9223372036854775807):Calls V.prog 27 #[.slice a l.length m] w (fM λv i=>Ext w i/\∃d,v=di d/\w.heap.size<=d/\jK d i):=by refine jb Tryz.func27 Tryz.ntmps27 ?_;refine ez (.agg #[.slice a l.iN m,i64 0,.int .u64 11400714819323198485]) (eH λr k f g n=>?_);refine⟨_,rfl,f,k,rfl,g,a,l,m,0,11400714819323198485,n,h.ext f,λb o s e=>?_,gi _,j⟩;have p:0<l.iN:=cK;have⟨t,u,c,q⟩:=h 0 p;rw[e]at c;injection c with c;injection c with f x;have:=vh q;grind
def eK.at_(h:eK m w x l)(d:0<l.length):∃b c,x=.slice (some ⟨b,0,none⟩) l.length c/\m<=b/\∀k (a:k<l.length),w.cell? ⟨b,0+k,none⟩=some (.int .i64 l[k]):=by have⟨b,c,e,f,g⟩:=cZ.cell h d;exact⟨b,c,e,f,λk a=>by rw[dj];exact g k _ (by simp[gm,eZ a])⟩
def fN.keep(h:fN w a l)(k:dA A w t)(d:∀b o,a=some ⟨b,o,none⟩->¬A b):fN t a l:=λi e=>by have⟨b,o,c,f⟩:=h i e;exact⟨b,o,c,k.fq f (d b o c)⟩
def mE(b:Nat)(w:cI)(v:cJ)(a:List Dr):Prop:=cZ b 81 [.int .i64 0,.int .i64 0,.int .i64 0] w v a.length (a.flatMap dL)
theorem re:∀a:List Dr,(a.flatMap dL).length=a.length*3
 |[]=>rfl
 |d::r=>by have:=re r;simp[dL,this];omega
def mE.row{d:List Dr}(h:mE m w x d):∃a c,x=.slice a d.length c/\gX w a d/\d.length<=c:=by obtain⟨j,⟨g,rfl⟩|⟨b,c,l,n,rfl,e,o,i,p,q,r⟩⟩:=h;exact⟨none,0,cK,λk f=>cL,cL⟩;refine⟨_,c,rfl,λk f=>?_,i⟩;have⟨s,t,u⟩:=wu d k f;have g:=re d;refine⟨b,0,rfl,cN e ?_,cN e ?_,cN e ?_⟩;grind;grind;grind
def mE.VK{b:List Dr}(h:mE m w (.slice a b.length k) b):gX w a b:=by have⟨c,d,e,h,_⟩:=h.row;grind
structure C8(n:Int)(d:Dr):Prop where
 st:0<=d.st/\d.st<=n-1
 at_:0<=d.at_/\d.at_<=20
 talk:1<=d.talk/\d.talk<=9
theorem yG:∀{f:List Dr},(∀d∈f,C8 I d)->nd I f=0
 |[],_=>rfl
 |d::r,h=>by
  have e:=h d fF;have:oU I d=0:=by have a:=e.st;have b:=e.at_;have c:=e.talk;grind [oU,l5]
  simp only[nd,this,ej];exact yG cK
def GE(c:Nat)(v:cJ)(a b:cI):Prop:=dA (λx=>x=c\/cV v x) a b/\(jK c a->jK c b)
def DE.ge(h:DE m w t):GE m x w t:=⟨h.1.trans (dA.refl (λ_=>False) _) cK cK,h.2⟩
def Yh(d:Nat)(v:cJ):gJ (GE d v):=⟨λw=>((Ext.refl w).de d).ge,λa b c h k=>⟨h.1.trans k.1 cK cK,λx=>k.2 (h.2 x)⟩,λw=>((Ext.drew w).de d).ge⟩
structure ZN(n0 gb:Nat)(st co kn mi da tr:Int)(ds:List Dr)(v:cJ)(w:cI):Prop where
 g:w.heap[gb]? =some (.cells #[.int .i64 st,.int .i64 co,.int .i64 kn,.int .i64 mi,.int .i64 da,.int .i64 tr,v] 24)
 r:mE n0 w v ds
 ok:∀d∈ds,C8 st d
def Nu(p:Int->Prop)(v:cJ):Prop:=∃z:Int,v=.int .i64 z/\p z
def mE.low{a:List Dr}(h:mE m w x a)(g:k<=m):mE k w x a:=by obtain⟨d,h|⟨b,c,e,i,f⟩⟩:=h;exact⟨d,.inl h⟩;exact⟨d,.inr ⟨b,c,e,cL,f⟩⟩
def EP(h:jK m w)(n:Nat)(hn:n<=5):Calls V.prog 28 #[di m,.int .i64 n] w (fM λv Z=>DE m w Z/\∃G a c,v=gV G a c/\mE w.heap.size Z (.slice a G.doors.length c) G.doors/\gX Z a G.doors/\em G=0/\G.doors.length<=n):=by
 have aE:=h.lt;refine jb Tryz.func28 Tryz.ntmps28 ?_;refine eS λw1 rb e1 aF hr=>?_;have f:=h.ext e1;have aD:=dz.lt_of_heap hr;have ar:=e1.size;refine cX (mD f 1 3 cL cL cL) ?_;rintro _ w2 ⟨⟨F,rfl,s1,s2⟩,O⟩;refine cX (mD (O.2 f) 1 5 cL cL cL) ?_;rintro _ t ⟨⟨co,rfl,c1,c2⟩,d3⟩;replace d3:=O.trans d3;refine cX (mD (d3.2 f) 1 3 cL cL cL) ?_;rintro _ B ⟨⟨kn,rfl,k1,k2⟩,d4⟩;replace d4:=d3.trans d4;refine cX (mD (d4.2 f) 20 45 cL cL cL) ?_;rintro _ w5 ⟨⟨a1,rfl,a2,a3⟩,d5⟩;replace d5:=d4.trans d5;refine cX (mD (d5.2 f) 30 60 cL cL cL) ?_;rintro _ w6 ⟨⟨b1,rfl,b2,b3⟩,d6⟩;replace d6:=d5.trans d6;refine cX (mD (d6.2 f) 1 90 cL cL cL) ?_;rintro _ w7 ⟨⟨x1,rfl,x2,x3⟩,d7⟩;replace d7:=d6.trans d7;refine er [i64 a1,i64 b1,i64 x1] 3 λw8 mb e8 aG D=>?_;have d8:=d7.trans (e8.de m);have s7:=d7.1.size;refine cX (EO (l:=[a1,b1,x1]) (d8.2 f) (nj D) dt dt (λb o e=>by injection e with e;injection e with e;omega)) ?_;rintro _ w9 ⟨⟨S,ad,rfl⟩,d9⟩;replace d9:=d8.trans d9;have ad:1<=S/\S<=90:=by simp only[eW,pB,mo]at ad;omega
 refine er [i64 1,i64 2,i64 2,i64 3,i64 3] 3 λaH yb au aI hy=>?_;have aa:=d9.trans (au.de m);have s9:=d9.1.size;refine cX (EO (l:=[1,2,2,3,3]) (aa.2 f) (nj hy) dt dt (λb o e=>by injection e with e;injection e with e;omega)) ?_;rintro _ aJ ⟨⟨P,ae,rfl⟩,J⟩;replace J:=aa.trans J;have ae:1<=P/\P<=3:=by simp only[eW,pB,mo]at ae;omega
 refine ez (.agg #[i64 F,i64 co,i64 kn,i64 S,i64 P,i64 0,fl]) (eS λaK Q av aw hg=>dI hg λaf ax H=>?_);replace H:fC af Q #[i64 F,i64 co,i64 kn,i64 S,i64 P,i64 0,fl] 24:=H;have aL:=J.1.size;have T:DE m w1 af:=J.trans ((Ext.cS av ax aw).de m);refine cO (cN H rfl) (cX (mD (T.2 f) 1 P cL cL cL) ?_);rintro _ aM ⟨⟨tr,rfl,t1,t2⟩,U⟩;have ag:=U.1.fL H (show¬Q=m by omega);refine dI ag λah ai K=>?_;replace K:fC ah Q #[i64 F,i64 co,i64 kn,i64 S,i64 P,i64 tr,fl] 24:=K;have aj:DE m w1 ah:=⟨(T.trans U).1.trans ai (λ_ _ h=>h) (λx A e=>cL),λx=>((T.trans U).2 x).keep ai λb e=>cL⟩;refine cX (qy (aj.2 f) n cL) ?_;rintro _ aN ⟨⟨z,rfl,z1,z2⟩,L⟩;have ak:=L.1.fL K (show¬Q=m by omega);replace L:=aj.trans L;have al:=L.1.fL hr (show¬rb=m by omega);clear U T J aa d9 d8 d7 d6 d5 d4 d3 O;refine fA z.toNat (λ_ (s:(List Dr×cJ)×Int)=>[(0,di m),(4,di rb),(5,di Q),(6,i64 s.2)]) (λk s Z=>DE m w1 Z/\ZN w1.heap.size Q F co kn S P tr s.1.1 s.1.2 Z/\Z.heap[rb]? =some (.cells (pK 24).toArray 24)/\s.1.1.length=k/\s.2=z-k) (([],fl),z) ⟨by trivial,L,⟨ak,cZ.nil _ _ _ _,λd M=>by cases M⟩,al,rfl,dt⟩ ?_;rintro k ⟨⟨R,v⟩,i⟩ w2 hk ⟨O,D,X,am,hi⟩;simp only at D am hi;refine mP ⟨λan=>?_,λab=>?_⟩;have an:0<i:=eV an;have W:∀b,cV v b->w1.heap.size<=b/\b<w2.heap.size:=λb E=>cZ.blk D.r E;have ay:¬(Q=m\/cV v Q):=by rintro(e|E);omega;have⟨cs,q⟩:=cZ.c_ D.r E;exact kS q D.g kA
 have hg:∀t,GE m v w2 t->fC t Q #[i64 F,i64 co,i64 kn,i64 S,i64 P,i64 tr,v] 24:=λt p=>p.1.fL D.g ay;have hD:=O.2 f;have s2:=O.1.size;have fresh:∀{a b:cI} {x:Nat} {o:Obj},a.heap[x]? =some o->GE m v a b->w2.heap.size<=x->b.heap[x]? =some o:=λA e ab=>e.1.fL A (by rintro(e|E);omega;have:=(W _ E).2;omega);refine gZ 20 (xQ m) (Yh m v) (λa b h=>h.ge)<| .exact v (λt p=>cO (cN (hg t p) rfl) ⟨rfl,(xQ m).refl _⟩)<| .exact (i64 F) (λt p=>cO (cN (hg t p) rfl) ⟨rfl,(xQ m).refl _⟩)<| .exact (i64 (F-1)) (λt p=>gC ⟨rfl,(xQ m).refl _⟩)<| .rel (λu _=>Nu (λx=>0<=x/\x<=F-1) u) (λ_ _ _ h _=>h) (λt p=>cX (qy (p.2 hD) _ cL) λu B ⟨⟨x,e,f,I⟩,d⟩=>⟨⟨x,e,cL⟩,d⟩)<| .rel (λu _=>Nu (λx=>0<=x/\x<=20) u) (λ_ _ _ h _=>h) (λt p _ _=>cX (qy (p.2 hD) 9 cL) λu B ⟨⟨x,e,f,I⟩,d⟩=>⟨⟨x,e,cL⟩,d⟩)<| .rel (λu _=>Nu (λx=>0<=x/\x<=20) u) (λ_ _ _ h _=>h) (λt p _ _=>cX (qy (p.2 hD) 9 cL) λu B ⟨⟨x,e,f,I⟩,d⟩=>⟨⟨x,e,cL⟩,d⟩)<| .rel (λu _=>Nu (λx=>0<=x/\x<=20) u) (λ_ _ _ h _=>h) (λt p _ _=>cX (qy (p.2 hD) 20 cL) λu B ⟨⟨x,e,f,I⟩,d⟩=>⟨⟨x,e,cL⟩,d⟩)<| .rel (λu B=>∃b x y z:Int,∃C:Nat,u=fa C 3 3/\w2.heap.size<=C/\B.heap[C]? =some (.cells ([x,y,z].map (Value.int .i64)).toArray 3)/\∀j∈[x,y,z],0<=j/\j<=20) (λu a b ⟨_,x,y,z,C,f,I,Y,h4⟩ e=>⟨0,x,y,z,C,f,I,fresh Y e I,h4⟩) (λt p u1 f u2 I u3 Y=>?_) ?_;obtain⟨x,rfl,A⟩:=f;obtain⟨y,rfl,hy⟩:=I;obtain⟨z,rfl,hz⟩:=Y;have:=p.1.size;refine er [i64 z,i64 y,i64 x] 3 λB C N ao E=>⟨⟨0,z,y,x,C,rfl,cL,E,?_⟩,N.de m⟩;intro j hj;simp only[eW,pB,mo]at hj;omega;refine .rel (λu _=>Nu (λx=>0<=x/\x<=20) u) (λ_ _ _ h _=>h) (λt p u1 f _ _=>?_) ?_;obtain⟨_,x,y,z,C,rfl,g1,g2,g3⟩:=f;refine cX (EO (l:=[x,y,z]) (p.2 hD) (nj g2) dt dt (λb o e=>by injection e with e;injection e with e;omega)) λu B ⟨⟨j,hj,e⟩,d⟩=>⟨⟨j,e,g3 j hj⟩,d⟩;refine .rel (λu _=>Nu (λx=>1<=x/\x<=9) u) (λ_ _ _ h _=>h) (λt p _ _=>cX (mD (p.2 hD) 1 6 cL cL cL) λu B ⟨⟨x,e,f,I⟩,d⟩=>⟨⟨x,e,cL⟩,d⟩)<| .rel (λu _=>∃d,C8 F d/\u=.agg (dL d).toArray) (λ_ _ _ h _=>h) (λt p u1 f u2 I u3 Y=>?_) ?_;obtain⟨x,rfl,A⟩:=f;obtain⟨y,rfl,hy⟩:=I;obtain⟨z,rfl,hz⟩:=Y;exact ez (.agg (dL ⟨z,y,x⟩).toArray) ⟨⟨⟨z,y,x⟩,⟨hz,hy,A⟩,rfl⟩,(xQ m).refl _⟩;refine .rel (λu B=>∃(d:Dr) (C:Nat),C8 F d/\u=fa C 1 1/\w2.heap.size<=C/\B.heap[C]? =some (.cells (dL d).toArray 81)) (λu a b ⟨d,C,f,I,Y,h4⟩ e=>⟨d,C,f,I,Y,fresh h4 e Y⟩) (λt p u1 f=>?_) ?_;obtain⟨d,M,rfl⟩:=f;have:=p.1.size;exact er (dL d) 81 λB C N ao E=>⟨⟨d,C,M,rfl,cL,E⟩,N.de m⟩;refine .spec (λu B=>∃d,C8 F d/\mE w1.heap.size B u (R++[d])) (λu a b ⟨d,M,hu⟩ e=>⟨d,M,cZ.keep hu e.1 λx A e=>zp ((cZ.blk hu A).1) f.lt⟩) (λB N u1 f _ _=>?_) ?_;obtain⟨d,C,M,rfl,ao,E⟩:=f;have az:mE w1.heap.size B v R:=cZ.keep D.r N.1 λx A e=>zp ((cZ.blk D.r A).1) h.lt;have:=N.1.size;refine gR SJ az cL E cL λv' w5 g1 g2 g3=>⟨⟨d,M,by simpa[mE]using g1⟩,g2.trans (dA.refl (λ_=>False) _) (λ_ _ h=>.inr h) (λ_ _ h=>h.elim),λx=>x.keep g2 λb E=>?_⟩;have:=(W b E).1;omega;rintro B N u1 ⟨d,M,hu⟩ _ _ _ _ _ _ _ _ _ _ _ _ _ _ _ _ _ _;obtain⟨a9,c9,rfl,_⟩:=mE.row hu;have q4:=hg B N;refine dI q4 λw5 k5 aA=>gC ⟨cL,((R++[d],.slice a9 (R++[d]).length c9),i-1),by trivial,⟨(O.1.trans N.1 (λ_ _ h=>h) λx A e=>?_).trans k5 (λ_ _ h=>h) λx A e=>cL,λx=>(N.2 (O.2 x)).keep k5 λb e=>cL⟩,⟨aA,cZ.keep hu k5 λx A e=>?_,λx A=>?_⟩,?_,pY,by simp only;omega⟩;obtain e|e:=e;exact e;have:=(W x e).1;omega;subst e;have⟨cs,q⟩:=cZ.c_ hu A;exact kS q q4 kA;obtain A|A:=jy.1 A;exact D.ok x A;obtain rfl:=iv.1 A;exact M;refine k5.fL (N.1.fL X ?_) cL;rintro(e|E);omega;have:=(W _ E).1;omega;have ab:i<=0:=eV ab;obtain⟨a,c,rfl,aO,hc⟩:=mE.row D.r;have⟨G,hG⟩:=jQ (⟨F,co,kn,S,P,tr,R⟩:Gd);have ac:R=G.doors:=by rw[hG]
 have hg:w2.heap[Q]? =some (.cells (gL G a c).toArray 24):=by rw[hG];exact D.g
 refine eI hg (dI X λt k3 ap=>?_);have aB:t.heap[rb]? =some (.cells (gL G a c).toArray 24):=ap.trans (dE (λa=>some (Obj.cells a 24)) (ee (pK 24).toArray (gL G a c) rfl));have hl:Sem.run V.prog (loadVar 24 (dq rb 0)) t=.ok (gV G a c) t:=jr (gL G a c) aB λj v hj=>by rw[dj];simpa using hj
 clear ap;have aq:∀x,cV (.slice a R.length c) x->¬x=rb:=λx A e=>by have:=(cZ.blk D.r A).1;omega
 refine⟨gV G a c,hl,_,rfl,⟨((e1.keep _).trans O.1 (λ_ _ h=>h) λ_ _ h=>h).trans k3 (λ_ _ h=>h) λx A e=>cL,λx=>(O.2 (x.ext e1)).keep k3 λb e=>cL⟩,G,a,c,rfl,?_,?_,?_,by rw[<-ac];omega⟩;rw[<-ac];exact mE.low (cZ.keep D.r k3 aq) ar;rw[<-ac];exact mE.VK (cZ.keep D.r k3 aq);have aC:∀d∈R,C8 F d:=D.ok;rw[hG];have M:=yG aC;have hh:kZ ⟨F,co,kn,S,P,tr,R⟩=true:=by simp only[kZ,l5,eU,j9];omega
 have h5:¬(5:Int)<R.length:=cL;simp only[em,hh,ej,h5,fj];exact M
def tO(W:Nat->Nat->Int)(a:Nat):cM->Nat->Int
 |[],z=>W a z
 |d::r,z=>W a (d+1)+tO W (d+1) r z
def tP(W:Nat->Nat->Int)(l:cM):pN W l=tO W 0 l 0:=by
 have b:∀k,k<=l.iN->vp W l k+tO W (wZ l k) (l.drop k) 0=tO W 0 l 0:=by
  intro k;induction k with
  |zero=>intro _;simp[vp,wZ]
  |succ k c=>
   intro d;have a:k<l.iN:=d;rw[<-c cL,pz a];have:wZ l (k+1)=l[k]+1:=by simp[wZ,eZ a]
   simp only[vp,tO,getD_eq a,this];omega
 rw[<-b l.iN (dg _),List.drop_length];rfl
theorem C9{W:Nat->Nat->Int}(b:∀i j,W i j<=W i (d+1)+W (d+1) j)(y:cM):∀(x:cM) (a z:Nat),tO W a (x++y) z<=tO W a (x++d::y) z
 |[],a,z=>by
  cases y with
  |nil=>exact b a z
  |cons e r=>
   have:=b a (e+1);simp only[oD,tO];omega
 |e::r,a,z=>by have:=C9 b y r (e+1) z;simp only[nP,tO];omega
def QB(f:0<=I){a b x:Dr}(j:0<=a.at_)(k:0<=b.at_)(l:0<=x.at_):xz I a b<=xz I a x+xz I x b:=by
 have h:∀p q,0<=mZ p q:=λp q=>by unfold mZ;omega
 have i:mZ a.st b.st<=mZ a.st x.st+mZ x.st b.st:=by unfold mZ;omega
 have m:=Int.mul_le_mul_of_nonneg_left i f;rw[Int.mul_add]at m;have n:=zK f (h a.st x.st);have o:=zK f (h x.st b.st);unfold xz;by_cases d:a.st=b.st;by_cases c:a.st=x.st;rw[cT d,cT c,cT (c.symm.trans d)];unfold mZ;omega;rw[cT d,cR c,cR (λe=>c (d.trans e.symm))];unfold mZ at*;omega;by_cases c:a.st=x.st;rw[cR d,cT c,cR (λe=>d (c.trans e)),<-c];have:a.at_<=mZ a.at_ x.at_+x.at_:=by unfold mZ;omega
 omega;by_cases g:x.st=b.st;rw[cR d,cR c,cT g,g];have:b.at_<=x.at_+mZ x.at_ b.at_:=by unfold mZ;omega
 omega;rw[cR d,cR c,cR g];omega
def QC(h:H.Ok)(m:d<H.doors.length)(i j:Nat):lz H i j<=lz H i (d+1)+lz H (d+1) j:=by
 have e:=(n9 h i (d+1)).1;have f:=(n9 h (d+1) j).1;have g:∀x∈eA H,0<=x.at_:=λx c=>by obtain rfl|c:=eW.1 c;simp;exact(h.door x c).2.1.1
 have⟨x,c⟩:∃x,(eA H)[d+1]? =some x:=⟨H.doors[d],by simp[eA,eZ m]⟩;unfold lz at e f⊢;rw[c]at e f⊢;cases k:(eA H)[i]? with
 |none=>rw[k]at e;simpa using f
 |some a=>
  cases l:(eA H)[j]? with
  |none=>
   rw[k]at e;rw[l]at f;simpa using e
  |some b=>exact QB (iD h.corner) (g a (pA k)) (g b (pA l)) (g x (pA c))
theorem Hy:∀(l m:eY),(l++m).sum=l.sum+m.sum
 |[],m=>dt
 |a::r,m=>by have:=Hy r m;simp only[nP,List.sum_cons];omega
def kU(G:Gd)(l m:cM):jP G (l++m)=jP G l+jP G m:=by unfold jP;rw[oC,Hy]
def Nv(h:H.Ok)(d:Nat):0<=jP H [d]:=by
 have e:jP H [d]=((H.doors[d]?).map (·.talk)).getD 0:=by simp[jP]
 rw[e];cases a:H.doors[d]? with
 |none=>simp
 |some x=>
  have:=(h.door x (pA a)).2.2;simp only[mn,kG];omega
def Hz(h:H.Ok)(a:d<H.doors.length)(x y:cM):je H (x++y)<=je H (x++d::y):=by have b:=C9 (QC h a) y x 0 0;have c:=h.knock;unfold je xy;rw[tP,tP];have e:(((x++d::y).length:Nat):Int)=((x++y).length:Nat)+1:=pY;rw[e,Int.add_mul];omega
def JG(h:H.Ok)(a:d<H.doors.length)(x y:cM):iA H (x++y)<=iA H (x++d::y):=by have b:=Hz h a x y;have c:=Nv h d;have e:=kU H x y;have f:=kU H x (d::y);have g:jP H (d::y)=jP H [d]+jP H y:=kU H [d] y;unfold iA;omega
theorem Lr:∀{l:eY} (i:Nat),I∉l->sE I l i= -1
 |[],_,_=>rfl
 |y::r,i,h=>by have a:¬I=y:=λe=>h (by rw[e];exact fF);simp only[sE,cR a];exact Lr (i+1) λb=>h (ii _ b)
def HB(h:jK m w)(n:Int)(c: -1000000<=n/\n<=1000000):Calls V.prog 93 #[di m,.int .i64 n] w (fM λv a=>(∃b,v=.bool b)/\DE m w a):=by refine jb Tryz.func93 Tryz.ntmps93 ?_;refine gC (cX (qy h (n-1) cL) ?_);rintro _ e ⟨⟨z,rfl,_⟩,d⟩;exact fc ⟨_,rfl,⟨_,rfl⟩,d⟩
theorem Bi{a b:Type}{f g:a->List b}:∀{l:List a},(∀x∈l,f x=g x)->l.flatMap f=l.flatMap g
 |[],_=>rfl
 |x::r,h=>by rw[oB,oB,h x fF,Bi λy c=>h y (ii _ c)]
def gP:Nat->cM->List cM
 |0,_=>[[]]
 |n+1,l=>(List.range l.length).flatMap λi=>(gP n (l.eraseIdx i)).map (l.getD i 0::·)
def yH(l:cM):List cM:=gP l.length l
def getD_map{f:Nat->Nat}(h:i<l.length):(l.map f).getD i 0=f (l.getD i 0):=by rw[gD,gD,sN,eZ h];rfl
theorem Da(f:Nat->Nat):∀(l:cM) (i:Nat),(l.map f).eraseIdx i=(l.eraseIdx i).map f
 |[],_=>rfl
 |x::r,0=>rfl
 |x::r,i+1=>by simp only[kY,List.eraseIdx_cons_succ,Da f r i]
theorem Db(f:Nat->Nat):∀(n:Nat) (l:cM),gP n (l.map f)=(gP n l).map (·.map f)
 |0,l=>rfl
 |n+1,l=>by simp only[gP,List.map_flatMap,nR];refine Bi λi a=>?_;rw[getD_map (fP.1 a),Da,Db f n,List.map_map,List.map_map];rfl
theorem Dc(d:l.length=m)(f:Nat->Nat)(g:∀i,i<m->l.getD i 0=f i):∀(n:Nat) (b:cM) (a:List Bool),oZ l n (b.map f) a=(oZ (List.range m) n b a).map (·.map f)
 |0,b,a=>rfl
 |n+1,b,a=>by
  simp only[oZ,List.map_flatMap,List.length_range,d];refine Bi λi c=>?_;have c:=fP.1 c;split;rfl;have e:(List.range m).getD i 0=i:=by rw[gD,eZ (eV c)];simp
  rw[g i c,e,<-Dc d f g n,oC];rfl
def EQ:∀m:Nat,m<=5->gP m (List.range m)=oZ (List.range m) m [] (List.replicate m false):=by decide+kernel
def wK(h:l.length<=5):yH l=oe l:=by
 have e:l=(List.range l.iN).map λi=>l.getD i 0:=by refine List.ext_getElem dt λi a b=>?_;simp[gD,eZ a]
 have a:=Dc (l:=l) rfl (λi=>l.getD i 0) (λ_ _=>rfl) l.iN [] (List.replicate l.iN false);unfold yH oe;rw[uL]at a;rw[a,<-EQ _ h,<-Db,<-e]
theorem QD:∀{a b:cM},a.Pairwise (·<·)->b.Pairwise (·<·)->(∀x,x∈a↔x∈b)->a=b
 |[],[],_,_,_=>rfl
 |[],y::b,_,_,h=>absurd ((h y).2 fF) dt
 |x::a,[],_,_,h=>absurd ((h x).1 fF) dt
 |x::a,y::b,j,k,h=>by
  have d:=List.pairwise_cons.1 j;have e:=List.pairwise_cons.1 k;have g:x=y:=by obtain c|c:=eW.1 ((h x).1 fF);exact c;obtain i|i:=eW.1 ((h y).2 fF);exact i.symm;have:=d.1 _ i;have:=e.1 _ c;omega
  subst g;rw[QD d.2 e.2 λz=>?_];constructor;intro f;obtain c|c:=eW.1 ((h z).1 (ii _ f));have:=d.1 _ f;omega;exact c;intro f;obtain c|c:=eW.1 ((h z).2 (ii _ f));have:=e.1 _ f;omega;exact c
def QE:∀a b c d e:Bool,eh (eo (([(0,a),(1,b),(2,c),(3,d),(4,e)].filter (·.2)).map (·.1)))=([(0,a),(1,b),(2,c),(3,d),(4,e)].filter (·.2)).map (·.1):=by decide+kernel
def Bj(h:l.Pairwise (·<·))(b:∀d∈l,d<5):eh (eo l)=l:=by
 have e:l=([(0,decide (0∈l)),(1,decide (1∈l)),(2,decide (2∈l)),(3,decide (3∈l)),(4,decide (4∈l))].filter (·.2)).map (·.1):=by
  have c:(List.range 5).filter (λx=>decide (x∈l))=([(0,decide (0∈l)),(1,decide (1∈l)),(2,decide (2∈l)),(3,decide (3∈l)),(4,decide (4∈l))].filter (·.2)).map (·.1):=by show [0,1,2,3,4].filter _=_;simp only[List.filter];cases decide (0∈l)<;>cases decide (1∈l)<;>cases decide (2∈l)<;>cases decide (3∈l)<;>cases decide (4∈l)<;>rfl
  rw[<-c];refine QD h (List.Pairwise.filter _ List.pairwise_lt_range) λx=>?_;simp only[nA,fP,j9];exact⟨λa=>⟨b x a,a⟩,λa=>a.2⟩
 rw[e];exact QE ..
theorem vC:∀{l:cM} {i:Nat} (a:i<l.length),(l[i]::l.eraseIdx i).Perm l
 |x::r,0,_=>List.Perm.refl _
 |x::r,i+1,a=>by have b:i<r.iN:=eV a;exact(List.Perm.swap x r[i] _).trans ((vC b).cons x)
theorem qz:∀(n:Nat) (l:cM),l.length=n->∀r∈gP n l,r.Perm l
 |0,l,h,r,a=>by obtain rfl:=oA h;rw[show r=[] by simpa[gP]using a]
 |n+1,l,h,r,a=>by simp only[gP,lq,fP,kF]at a;obtain⟨i,b,y,c,rfl⟩:=a;have d:=qz n _ (by rw[List.length_eraseIdx_of_lt b];omega) y c;rw[getD_eq b];exact(d.cons _).trans (vC b)
theorem qA:∀(n:Nat) (l:cM),l.length=n->∀r,r.Perm l->r∈gP n l
 |0,l,h,r,a=>by obtain rfl:=oA h;rw[a.eq_nil];simp[gP]
 |n+1,l,h,r,a=>by
  have b:=a.length_eq;match r,a,b with
  |[],_,b=>rw[h]at b;cases b
  |x::r,a,_=>
   obtain⟨i,c,rfl⟩:=List.getElem_of_mem (a.mem_iff.1 fF);have d:=List.Perm.cons_inv (a.trans (vC c).symm);simp only[gP,lq,fP,kF];exact⟨i,c,r,qA n _ (by rw[List.length_eraseIdx_of_lt c];omega) r d,by rw[getD_eq c]⟩
def vD(h:l.length<=5)(r:cM):r∈oe l↔r.Perm l:=by rw[<-wK h];exact⟨qz _ _ rfl r,qA _ _ rfl r⟩
theorem yI{W:Nat->Nat->Int}(b:∀i j,0<=W i j):∀(l:cM) (a z:Nat),0<=tO W a l z
 |[],a,z=>b a z
 |d::r,a,z=>by have:=yI b r (d+1) z;have:=b a (d+1);simp only[tO];omega
def yJ(h:H.Ok)(l:cM):0<=mJ H l:=by unfold mJ;rw[tP];exact yI (λi j=>(n9 h i j).1) l 0 0
theorem vE(G:Gd)(g:G.Ok):∀(rows:List cM) (a:cM×Int),0<=a.2->a.2=mJ G a.1->((rows.foldl (fD G) a).1=a.1\/(rows.foldl (fD G) a).1∈rows)/\(rows.foldl (fD G) a).2=mJ G (rows.foldl (fD G) a).1/\(rows.foldl (fD G) a).2<=a.2/\∀r∈rows,(rows.foldl (fD G) a).2<=mJ G r
 |[],a,m,h=>⟨.inl rfl,h,Int.le_refl _,λr c=>by cases c⟩
 |x::rows,a,m,h=>by have n:=yJ g x;simp only[mj];have⟨d,b⟩:=jQ (fD G a x);rw[<-b];unfold fD at b;split at b;rename_i i;subst b;have⟨j,k,f,l⟩:=vE G g rows (x,mJ G x) n rfl;refine⟨.inr (j.elim (λe=>by rw[e];exact fF) (ii _)),k,?_,λr c=>?_⟩;simp only at f;omega;obtain rfl|c:=eW.1 c;exact f;exact l r c;rename_i i;subst b;have⟨j,k,f,l⟩:=vE G g rows d m h;refine⟨j.imp id (ii _),k,f,λr c=>?_⟩;obtain rfl|c:=eW.1 c;omega;exact l r c
theorem oi(g:H.Ok)(s:Nat):(dF H s).Perm (eh s)/\∀r,r.Perm (eh s)->mJ H (dF H s)<=mJ H r:=by
 have f:=xH s;have b:eh s∈oe (eh s):=(vD f _).2 (List.Perm.refl _);have⟨rows,a⟩:=jQ (oe (eh s));have c:(it H rows).1∈rows/\∀r∈rows,mJ H (it H rows).1<=mJ H r:=by
  rw[<-a]at b;match rows,b with
  |x::rows,_=>
   have h:=yJ g x;have e:it H (x::rows)=rows.foldl (fD H) (x,mJ H x):=by unfold it;rw[mj];congr 1
   have⟨i,j,k,l⟩:=vE H g rows (x,mJ H x) h rfl;rw[e];refine⟨i.elim (λq=>by rw[q];exact fF) (ii _),λr d=>?_⟩;rw[<-j];obtain rfl|d:=eW.1 d;exact k;exact l r d
 unfold dF;rw[<-a];refine⟨(vD f _).1 (by rw[<-a];exact c.1),λr d=>c.2 r ?_⟩;rw[a];exact(vD f _).2 d
def JH(G:Gd)(h:l.Perm f):jP G l=jP G f:=by
 induction h with
 |nil=>rfl
 | @cons x e g _ i=>
  have a:=kU G [x] e;have b:=kU G [x] g;simp only[List.singleton_append]at a b;omega
 |swap x y l=>
  have a:=kU G [y] (x::l);have b:=kU G [x] (y::l);have c:=kU G [x] l;have d:=kU G [y] l;simp only[List.singleton_append]at a b c d;omega
 |trans _ _ a b=>exact a.trans b
def JI(h:l.Perm f)(a:mJ H l<=mJ H f):iA H l<=iA H f:=by have b:=JH H h;have c:=h.length_eq;unfold mJ at a;unfold iA je xy;rw[b,c];omega
theorem rY(a:H.Ok)(q:Nat->Bool):∀(y x:cM),(∀d∈y,d<H.doors.length)->iA H (x++y.filter q)<=iA H (x++y)
 |[],x,_=>Int.le_refl _
 |d::y,x,h=>by have c:=h d fF;have b:∀d∈y,d<H.doors.iN:=λe f=>h e (ii _ f);rw[List.filter_cons];split;have:=rY a q y (x++[d]) b;simpa using this;exact Int.le_trans (rY a q y x b) (JG a c x y)
def QF(a:H.Ok)(h:l.Perm (eh s)):iA H (dF H s)<=iA H l:=
 JI ((oi a s).1.trans h.symm) ((oi a s).2 l h)
def HD(h:∀d,d<5->s.testBit d=true->m.testBit d=true):(eh m).filter (s.testBit ·)=eh s:=by unfold eh nt;rw[List.filter_filter];refine List.filter_congr λd a=>?_;have:=h d (fP.1 a);cases b:s.testBit d<;>simp_all
def Nw(a:H.Ok)(c:∀d∈eh m,d<H.doors.length)(h:∀d,d<5->s.testBit d=true->m.testBit d=true):iA H (dF H s)<=iA H (dF H m):=by
 have b:=(oi a m).1;have e:((dF H m).filter (s.testBit ·)).Perm (eh s):=by rw[<-HD h];exact b.filter _
 have f:=rY a (s.testBit ·) (dF H m) [] λd g=>c d (b.mem_iff.1 g);exact Int.le_trans (QF a e) (eV f)
def uy(b:H.Ok)(c:∀d∈eh m,d<H.doors.length)(h:∀d,d<5->s.testBit d=true->m.testBit d=true)(a:l8 H m=true):l8 H s=true:=by unfold l8 at a⊢;have:=fH a;exact decide_eq_true (Int.le_trans (Nw b c h) this)
def gh(a:List cM)(d i:Nat):List cM:=if i<a.length then a.set i (a.getD i []++[d])else a++[[d]]
def iu:cM->List cM->List (List cM)
 |[],a=>[a]
 |d::r,a=>(List.range (a.length+1)).flatMap λi=>iu r (gh a d i)
def yK(G:Gd)(g:cM):Bool:=l8 G (eo g)
def lG(G:Gd)(D:List cM):Bool:=D.all (yK G)
theorem wL(d:Nat):∀(l:cM) (s:Nat),setFrom s (l++[d])=ot (setFrom s l) d
 |[],s=>rfl
 |x::r,s=>wL d r (ot s x)
def Dd(g:cM)(d:Nat):eo (g++[d])=ot (eo g) d:=wL d g 0
def TA:∀s:Nat,s<32->∀d:Nat,d<5->∀x:Nat,x<5->s.testBit x=true->(ot s d).testBit x=true:=by decide+kernel
def Sb(a b:cM):Prop:=∀x,x<5->(eo a).testBit x=true->(eo b).testBit x=true
theorem TB(h:∀d∈l,d<5):eo l<32:=nf l 0 cL h
def Sb.snoc(h:∀x∈l,x<5)(a:d<5):Sb l (l++[d]):=λx b c=>by rw[Dd];exact TA _ (TB h) d a x b c
theorem oy(a:List cM)(d i:Nat):(gh a d i).length=if i<a.length then a.length else a.length+1:=by unfold gh;split<;>simp
def rh{c:List cM}(h:∀g∈c,∀x∈g,x<m)(e:d<m):∀g∈gh c d i,∀x∈g,x<m:=by unfold gh;split;rename_i f;intro g b x a;obtain b|rfl:=sO b;exact h g b x a;rw[getD_eq f]at a;obtain a|a:=jy.1 a;exact h _ (eB f) x a;rw[iv.1 a];exact e;intro g b x a;obtain b|b:=jy.1 b;exact h g b x a;rw[iv.1 b]at a;rw[iv.1 a];exact e
theorem ri(n:m<=5):∀(l:cM) (a:List cM),(∀d∈l,d<m)->(∀g∈a,∀x∈g,x<m)->∀D∈iu l a,a.length<=D.length/\(∀g∈D,∀x∈g,x<m)/\∀i (b:i<a.length),∃h:i<D.length,Sb a[i] D[i]
 |[],a,_,k,D,c=>by
  obtain rfl:D=a:=by simpa[iu]using c
  exact⟨dg _,k,λi b=>⟨b,λx _ h=>h⟩⟩
 |d::r,a,s,k,D,c=>by
  simp only[iu,lq,fP]at c;have⟨j,C,c⟩:=c;have t:=s d fF;have⟨u,v,w⟩:=ri n r (gh a d j) (λx f=>s x (ii _ f)) (rh k t) D c;have y:=oy a d j;have o:a.length<=(gh a d j).length:=by rw[y];split<;>omega
  refine⟨dw o u,v,λi b=>?_⟩;have⟨z,A⟩:=w i cL;refine⟨z,λx f p=>A x f ?_⟩;have q:=k _ (eB b);simp only[gh];split;rename_i B;rw[List.getElem_set];split;rename_i e;subst e;rw[getD_eq b];exact Sb.snoc (λx f=>iD (q x f)) cL x f p;exact p;rw[ml b];exact p
def mF{D:List cM}:lG H D=true↔∀g∈D,yK H g=true:=nz
def kV{a:Type}{p:a->Bool}{l:List a}(h:∀x∈l,p x=false):l.find? p=none:=by rw[List.find?_eq_none];intro x b;rw[h x b];decide
def pU(G:Gd)(most:Nat)(D:List cM):Bool:=decide (D.length<=most)&&lG G D
def De(b:H.Ok){most:Nat}{a:List cM}(j:∀d∈l,d<H.doors.length)(k:∀g∈a,∀x∈g,x<H.doors.length)(m:i<a.length)(h:yK H a[i]=false):(iu l a).find? (pU H most)=none:=by
 refine kV λD n=>?_;have⟨s,o,p⟩:=ri b.many l a j k D n;have⟨c,q⟩:=p i m;cases e:lG H D with
 |false=>unfold pU;rw[e,Bool.and_false]
 |true=>
  have r:=mF.1 e _ (eB c);have f:=uy b (ko.eo b.many (o _ (eB c))).2 q r;unfold yK at h;rw[h]at f;cases f
def Ny{a:List cM}(h:lG H a=true)(e:i<a.length)(c:yK H (a[i]++[d])=true):lG H (a.set i (a[i]++[d]))=true:=mF.2 λg b=>by obtain b|rfl:=sO b;exact mF.1 h g b;exact c
theorem pm{a b:Type}{f g:a->Option b}:∀{l:List a},(∀x∈l,f x=g x)->l.findSome? f=l.findSome? g
 |[],_=>rfl
 |x::r,h=>by simp only[List.findSome?_cons,h x fF,pm λy c=>h y (ii _ c)]
theorem yL(o:H.Ok)(most:Nat):∀(l:cM) (a:List cM),(∀d∈l,d<H.doors.length)->(∀g∈a,∀x∈g,x<H.doors.length)->lG H a=true->a.length<=most->fB H most l (a.map eo)=((iu l a).find? (pU H most)).map (·.map eo)
 |[],a,_,_,f,p=>by simp only[fB,iu,List.find?_cons,pU,decide_eq_true p,f,Bool.true_and,mn]
 |d::r,a,s,t,f,p=>by
  have u:=s d fF;have m:∀x∈r,x<H.doors.length:=λx y=>s x (ii _ y);have v:=yL o most r
  have z:((List.range a.length).findSome? λi=>if l8 H (ot ((a.map eo).getD i 0) d)then fB H most r ((a.map eo).set i (ot ((a.map eo).getD i 0) d))else none)=((List.range a.length).findSome? λi=>(iu r (gh a d i)).find? (pU H most)).map (·.map eo):=by
   rw[List.map_findSome?];refine pm λi j=>?_;have j:=fP.1 j;have e:(a.map eo).getD i 0=eo a[i]:=by rw[gD,sN,eZ j];rfl
   have n:gh a d i=a.set i (a[i]++[d]):=by rw[gh,cT j,getD_eq j]
   have b:∀g∈a.set i (a[i]++[d]),∀x∈g,x<H.doors.length:=by rw[<-n];exact rh t u
   simp only[Function.comp];rw[e,<-Dd,<-List.map_set,n];split;rename_i k;exact v _ m b (Ny f j k) (by rw[qG];exact p);rename_i k;rw[De o m b (i:=i) (by rw[qG];exact j) (by rw[List.getElem_set_self];unfold yK;simpa using k)];rfl
  have w:(if(a.map eo).length<most/\l8 H (eo [d])=true then fB H most r (a.map eo++[eo [d]])else none)=((iu r (gh a d a.length)).find? (pU H most)).map (·.map eo):=by
   have n:gh a d a.length=a++[[d]]:=by rw[gh,cR cL]
   have b:∀g∈a++[[d]],∀x∈g,x<H.doors.length:=by rw[<-n];exact rh t u
   rw[n,nR];split;rename_i k;have:=v (a++[[d]]) m b (mF.2 λg c=>by obtain c|c:=jy.1 c;exact mF.1 f g c;rw[iv.1 c];exact k.2) pY;rw[<-this];simp;rename_i k;by_cases q:a.length<most
   rw[De o m b (i:=a.length) dt (by simp only[sj (dg _),lK,nQ];unfold yK;cases h:l8 H (eo [d])with
    |false=>rfl
    |true=>exact absurd ⟨q,h⟩ k)]
   rfl;rw[kV λD A=>?_];rfl;have:=(ri o.many r _ m b D A).1;simp only[lU,fi,fO]at this;unfold pU;rw[lL cL,Bool.false_and]
  simp only[fB,iu];rw[nR]at w⊢;rw[z,w,List.find?_flatMap,mL,List.findSome?_append];cases((List.range a.length).findSome? λi=>(iu r (gh a d i)).find? (pU H most))with
  |some x=>rfl
  |none=>simp
def HE(p:List cM->Bool)(a:Option (List cM))(D:List cM):Option (List cM):=match a with
 |some b=>if b.length<=D.length then some b else if p D then some D else some b
 |none=>if p D then some D else none
def uV(p:List cM->Bool)(a:List (List cM)):Option (List cM):=a.foldl (HE p) none
def JJ(p:List cM->Bool)(a:List (List cM))(D:List cM):uV p (a++[D])=HE p (uV p a) D:=by simp only[uV,si,mj,List.foldl_nil]
def xR{a:Type}(p:a->Bool)(l:List a)(x:a):(l++[x]).find? p=(l.find? p).or (if p x then some x else none):=by rw[List.find?_append];congr 1;simp only[List.find?_cons,List.find?_nil];cases p x<;>rfl
def QG(p:List cM->Bool)(a:List (List cM)):Option (List cM)->Prop
 |none=>∀D∈a,p D=false
 |some b=>b∈a/\(∀D∈a,p D=true->b.length<=D.length)/\a.find? (λD=>decide (D.length<=b.length)&&p D)=some b
theorem tQ(p:List cM->Bool)(d:List (List cM)):∀k,k<=d.length->QG p (d.take k) (uV p (d.take k))
 |0,_=>λD i=>by simp at i
 |k+1,v=>by
  have e:=tQ p d k cL;have⟨D,i⟩:=jQ (d[k]);rw[iw cL,<-i,JJ];have⟨l,r⟩:=jQ (d.take k);rw[<-r]at e⊢;cases q:uV p l with
  |none=>
   rw[q]at e;have e:∀D∈l,p D=false:=e;cases g:p D with
   |false=>
    simp only[HE,g,iH,fj];intro E a;obtain a|a:=jy.1 a;exact e E a;rw[iv.1 a];exact g
   |true=>
    simp only[HE,g,ej];refine⟨dt,λE a c=>?_,?_⟩;obtain a|a:=jy.1 a;rw[e E a]at c;cases c;rw[iv.1 a];exact dg _;rw[xR,kV λx j=>by rw[e x j,Bool.and_false]];simp[g]
  |some b=>
   rw[q]at e;have⟨s,m,t⟩:b∈l/\(∀D∈l,p D=true->b.length<=D.length)/\l.find? (λD=>decide (D.length<=b.length)&&p D)=some b:=e;have f:(b.length<=D.length\/p D=false)->QG p (l++[D]) (some b):=λh=>by refine⟨List.mem_append_left _ s,λE a c=>?_,?_⟩;obtain a|a:=jy.1 a;exact m E a c;rw[iv.1 a]at c⊢;obtain h|h:=h;exact h;rw[h]at c;cases c;rw[xR,t];rfl
   simp only[HE];split;rename_i n;exact f (.inl n);rename_i u;cases g:p D with
   |false=>simpa using f (.inr g)
   |true=>
    simp only[ej];refine⟨dt,λE a c=>?_,?_⟩;obtain a|a:=jy.1 a;have:=m E a c;omega;rw[iv.1 a];exact dg _;rw[xR,kV λx j=>?_];simp[g];cases o:p x with
    |false=>rw[Bool.and_false]
    |true=>
     have:=m x j o;rw[lL cL,Bool.false_and]
theorem Bl:∀(l:cM) (a:List cM),∀D∈iu l a,D.length<=a.length+l.length
 |[],a,D,b=>by
  obtain rfl:D=a:=by simpa[iu]using b
  exact dg _
 |d::r,a,D,b=>by simp only[iu,lq,fP]at b;have⟨j,e,b⟩:=b;have f:=Bl r _ D b;have c:=oy a d j;rw[fi];split at c<;>omega
def QH:∀s:Nat,s<32->s≠0->0<(eh s).length:=by decide+kernel
def vF(v:H.Ok)(w:ko H s):fh H s=(uV (lG H) (iu (eh s) [])).map λD=>D.map λg=>dF H (eo g):=by
 have z:=v.many;unfold fh;split;rename_i h;subst h;rfl;rename_i h;have⟨l,n⟩:=jQ (eh s);have o:0<l.length:=by rw[n];exact QH s w.1 h
 have a:∀d∈l,d<H.doors.length:=by rw[n];exact w.2
 rw[<-n];have A:((List.range l.length).findSome? λm=>fB H (m+1) l [])=(List.range l.length).findSome? λm=>((iu l []).find? (pU H (m+1))).map (·.map eo):=pm λm _=>yL v (m+1) l [] a (λg p=>by cases p) rfl (gi _);rw[A];have f:∀D∈iu l [],1<=D.length:=by
  match l,o,a with
  |d::r,_,a=>
   intro D c;simp only[iu,lq,fP]at c;have⟨j,G,c⟩:=c;have q:=(ri z r (gh [] d j) (λx B=>a x (ii _ B)) (rh (λg p=>by cases p) (a d fF)) D c).1;have t:=oy [] d j;simp at t;omega
 have e:=tQ (lG H) (iu l []) _ (dg _);rw[jN]at e;cases y:uV (lG H) (iu l [])with
 |none=>
  rw[y]at e;have e:∀D∈iu l [],lG H D=false:=e;have:((List.range l.length).findSome? λm=>((iu l []).find? (pU H (m+1))).map (·.map eo))=none:=by rw[List.findSome?_eq_none_iff];intro m _;rw[kV λD c=>by unfold pU;rw[e D c,Bool.and_false]];rfl
  rw[this];rfl
 |some b=>
  rw[y]at e;have⟨q,t,C⟩:b∈iu l []/\(∀D∈iu l [],lG H D=true->b.length<=D.length)/\(iu l []).find? (λD=>decide (D.length<=b.length)&&lG H D)=some b:=e;have u:=Bl l [] b q;have E:=f b q;simp only[fO,dj]at u
  have:((List.range l.length).findSome? λm=>((iu l []).find? (pU H (m+1))).map (·.map eo))=some (b.map eo):=by
   refine l9 (k:=b.length-1) cL (λi I=>?_) ?_;rw[kV λD c=>?_];rfl;unfold pU;cases F:lG H D with
   |false=>rw[Bool.and_false]
   |true=>
    have:=t D c F;rw[lL cL,Bool.false_and]
   rw[show b.length-1+1=b.length by omega,show pU H b.length=λD=>decide (D.length<=b.length)&&lG H D from rfl,C];rfl
  rw[this];simp[zJ]
def Bm(G:Gd)(m:Nat)(D:List cM):Bool:=decide (D.length=m)&&lG G D
def vG(G:Gd)(D:List cM):List cM:=D.map λg=>dF G (eo g)
def lS(G:Gd)(m:Nat)(l:cM)(a:List cM):Option (List cM):=((iu l a).find? (Bm G m)).map (vG G)
theorem find_congr{a:Type}{p q:a->Bool}:∀{l:List a},(∀x∈l,p x=q x)->l.find? p=l.find? q
 |[],_=>rfl
 |x::r,h=>by rw[List.find?_cons,List.find?_cons,h x fF,find_congr λy b=>h y (ii _ b)]
theorem Ls:∀(l:cM) (a:List cM),∀D∈iu l a,a.length<=D.length
 |[],a,D,b=>by
  obtain rfl:D=a:=by simpa[iu]using b
  exact dg _
 |d::r,a,D,b=>by simp only[iu,lq,fP]at b;have⟨j,e,b⟩:=b;have f:=Ls r _ D b;have c:=oy a d j;split at c<;>omega
def Bn(G:Gd)(m:Nat)(a:List cM):lS G m [] a=if a.length=m/\lG G a=true then some (vG G a)else none:=by unfold lS;simp only[iu,List.find?_cons,List.find?_nil,Bm];by_cases h:a.iN=m;cases b:lG G a<;>simp[h,b];simp[h]
theorem Df(G:Gd)(m d:Nat)(r:cM)(a:List cM)(h:a.length<=m):lS G m (d::r) a=(List.range (min (a.length+1) m)).findSome? λi=>lS G m r (gh a d i):=by
 have c:a.length=m->lS G m r (gh a d m)=none:=λe=>by unfold lS;rw[kV λD f=>?_];rfl;have k:=Ls r _ D f;have g:=oy a d m;rw[cR cL]at g;unfold Bm;rw[lL cL,Bool.false_and]
 have j:lS G m (d::r) a=(List.range (a.length+1)).findSome? λi=>lS G m r (gh a d i):=by unfold lS;rw[iu,List.find?_flatMap,List.map_findSome?];rfl
 rw[j];by_cases e:a.length<m;rw[Nat.min_eq_left cL];have b:a.length=m:=cL;rw[Nat.min_eq_right cL,mL,List.findSome?_append,b];cases(List.range m).findSome? λi=>lS G m r (gh a d i)with
 |some x=>rfl
 |none=>simp[c b]
def Nz(h:H.Ok)(j:ko H s):((List.range ((eh s).length+1)).findSome? λm=>lS H m (eh s) [])=fh H s:=by
 rw[vF h j];have⟨l,n⟩:=jQ (eh s);rw[<-n];have a:=tQ (lG H) (iu l []) _ (dg _);rw[jN]at a;cases f:uV (lG H) (iu l [])with
 |none=>
  rw[f]at a;have a:∀D∈iu l [],lG H D=false:=a;rw[Option.map_none,List.findSome?_eq_none_iff];intro m _;unfold lS;rw[kV λD c=>by unfold Bm;rw[a D c,Bool.and_false]];rfl
 |some b=>
  rw[f]at a;have⟨o,g,p⟩:b∈iu l []/\(∀D∈iu l [],lG H D=true->b.length<=D.length)/\(iu l []).find? (λD=>decide (D.length<=b.length)&&lG H D)=some b:=a;have d:=Bl l [] b o;simp only[fO,dj]at d;refine l9 (k:=b.length) cL (λi q=>?_) ?_;unfold lS;rw[kV λD c=>?_];rfl;unfold Bm;cases e:lG H D with
  |false=>rw[Bool.and_false]
  |true=>
   have:=g D c e;rw[lL cL,Bool.false_and]
  unfold lS
  have:(iu l []).find? (Bm H b.length)=(iu l []).find? (λD=>decide (D.length<=b.length)&&lG H D):=by
   refine find_congr λD c=>?_;unfold Bm;cases e:lG H D with
   |false=>rw[Bool.and_false,Bool.and_false]
   |true=>
    have:=g D c e;rw[Bool.and_true,Bool.and_true,decide_eq_decide];omega
  rw[this,p];rfl
def JK{n:nB}{r:Array Bool}(h:eK k w x l)(g:k<=w.heap.size)(s:m=f.length)(t:fN w a f)(c:l.length+f.length<=1000000) (p:∀e d,eK k d e (l++f)->dA (cV x) w d->n e d):y8 V.prog (builtin .append #[27,27] T r #[x,.slice a m i]) w n:=by
 subst s;obtain v|y:=mM f.iN;obtain rfl:f=[]:=oA v;obtain⟨A,B,rfl,_,q⟩:=h.row;exact wq n8 q (p _ _ cK (dA.refl _ _));obtain C|⟨b,o,rfl,q⟩:=t.cells;have:(gm f).iN=0:=cK;have D:(gm f).iN=f.iN:=by simp[gm]
 omega;exact Ej n8 h g (m:=f.iN) (news:=gm f) (by simp[gm]) y (λj u E=>by grind [iq]) (wz f) c λe d F z _=>p e d (by grind [eK,gm]) z
def xS{x:nB}{F:Array Bool}(c:dN)(p:w.heap[k]? =some (.cells c.toArray 3))(G:c.length<=1000)(q:m<=k)(H:i=l.length)(r:fN w a l)(y:l.length<=100000) (A:∀B s,cZ m 3 [.int .i64 0] s B (c.length+l.length) (c++gm l)->Ext w s->x B s):y8 V.prog (builtin .append #[27,27] T F #[.slice (some ⟨k,0,none⟩) c.length c.length,.slice a i j]) w x:=by
 subst H;obtain I|O:=mM l.length;obtain rfl:l=[]:=oA I;exact wq n8 (dg _) (A _ _ ⟨by simp[gm],.inr ⟨k,c.length,_,q,rfl,p,dt,dg _,cL,λh _=>by simp[gm],λh e g=>by simp[gm]at e g;omega⟩⟩ (Ext.refl _));obtain J|⟨b,o,rfl,K⟩:=r.cells;have:(gm l).length=0:=by rw[J];rfl
 have C:(gm l).length=l.length:=by simp[gm]
 omega;have⟨L,D,z,C,M,E,n,N,Q⟩:=n8;have f:z.cells.size=1:=by rw[E];rfl
 have n:D.size=1:=n;have d:(gm l).length=l.length:=by simp[gm]
 have r:=run_append_grow (P:=V.prog) w 27 T 3 D z L C M (dq k 0) c.length c.length c (by rw[n,pW]) (λh u e=>by rw[iq,dj];exact cN p (eV e)) (dq b o) l.length j (gm l) (by rw[n,d,pW]) (λh u e=>by rw[iq];exact K h u e) cL cL (growslice_fits cL (dw (Nat.mul_le_mul (show c.length+l.length<=1000000 by omega) N) kA));have t:=grownCap_ge w (c.length+l.length) c.length 3;have v:=grownCap_le_maxLen w (c.length+l.length) c.length 3 (by simp only[maxLen];omega);simp only[maxLen]at v;refine⟨_,_,(by unfold builtin;simp only[Sem.run_bind,r,Result.andThen_ok,Sem.run_pure];rfl),A _ _ ⟨by simp[d],.inr ⟨w.heap.size,grownCap w (c.length+l.length) c.length 3,_,iD (dz.lt_of_heap p),rfl,fX w.drew _,?_,t,cL,λh e=>?_,λh e g=>?_⟩⟩ ((Ext.drew w).trans (Ext.alloc _ _))⟩;simp only[xZ,il,size_zeroCells,f,d,lU,fi,fO];omega;rw[Dy (eV e)];simp;simp only[lU,d]at e;rw[Dz (by simp[d];omega)];simp only[xZ,il,size_zeroCells,f,d,lU]at g⊢;rw[qk _ _ _ cL (by rw[f];omega),f,E];simp[Nat.mod_one]
def JL{f:nB}{h:Array Bool}{n0 c:Nat}(i:w.heap[c]? =some (.cells [x].toArray 3))(p:x.oneCell'=true)(d:n0<=c)(j:m=l.length)(n:fN w a l)(b:l.length<=100000) (o:∀g e,cZ n0 3 [.int .i64 0] e g (1+l.length) (x::gm l)->Ext w e->f g e):y8 V.prog (builtin .append #[27,27] T h #[.slice (some ⟨c,0,none⟩) 1 1,.slice a m k]) w f:=xS [x] i dt d j n b o
def wM{r:nB}{t:Array Bool}{b:List cM}(h:fe m w x b)(j:m<=w.heap.size)(n:eK m w y l)(u:w.heap[k]? =some (.cells [y].toArray 27))(c:b.length+1<=1000000) (v:∀d e,fe m e d (b++[l])->dA (cV x) w e->(∀k,cV d k->cV x k\/w.heap.size<=k)->r d e):y8 V.prog (builtin .append #[66,66] T t #[x,.slice (some ⟨k,0,none⟩) 1 i]) w r:=by
 have⟨z,o,E,A⟩:=h;have f:y.oneCell'=true:=by obtain⟨a,i,rfl,_⟩:=n.row;rfl
 refine gR Jh o j u c (λd e F p B=>v d e ⟨z++[y],cK,cK,λq G=>?_⟩ p B) rfl (by simp[sD,f]);obtain g|C:=gu q b.length;have⟨D,H,s⟩:=A q g;refine⟨D,cK,?_⟩;rw[ml g];exact s.keep p (gU s o cK);obtain rfl:q=b.length:=cK;refine⟨y,cK,?_⟩;simp only[sj (dg _),lK,nQ];exact n.keep p (gU n o cK)
theorem fe.blk{a:List cM}(h:fe m w x a)(b:cV x k):m<=k/\k<w.heap.size:=by have⟨d,c,_⟩:=h;exact c.blk b
def fe.UJ{e:List cM}(h:fe m w x e)(k:dA A w t)(f:∀b,m<=b->b<w.heap.size->¬A b):fe m t x e:=by have⟨g,c,j,l⟩:=h;refine⟨g,cZ.keep c k λb a=>f b (c.blk a).1 (c.blk a).2,j,λi n=>?_⟩;have⟨u,o,d⟩:=l i n;exact⟨u,o,cZ.keep d k λb a=>f b (cZ.blk d a).1 (cZ.blk d a).2⟩
def fe.Yi{s:Option Nat}{a:List cM}(h:fe m w (.slice (some ⟨k,o,s⟩) i j) a):m<=k/\k<w.heap.size:=by obtain⟨b,⟨c,⟨d,e⟩|⟨f,g,l,n,e,p,q⟩⟩,r⟩:=h;grind;grind
theorem xT:∀(n:Nat) (l:cM),l.length=n->∀x∈gP n l,x.length=n
 |0,l,_,x,a=>by obtain rfl:x=[]:=by grind [gP]
                rfl
 |n+1,l,h,x,a=>by simp only[gP,lq,fP,kF]at a;obtain⟨i,c,y,b,rfl⟩:=a;have:=xT n _ cK y b;grind
theorem uz:∀(n:Nat) (l:cM),l.length<=5->(gP n l).length<=5^n
 |0,l,_=>by simp[gP]
 |n+1,l,h=>by
  have a:∀(r:cM),(r.flatMap λi=>(gP n (l.eraseIdx i)).map (l.getD i 0::·)).length<=r.length*5^n:=λr=>by
   induction r with
   |nil=>simp
   |cons x r b=>
    have c:=uz n (l.eraseIdx x) cK;rw[oB,lU,nR,fi,Nat.add_mul,Nat.one_mul];omega
  have:=a (List.range l.length);rw[List.length_range]at this;have d:=rm (5^n) h;grind [Nat.pow_succ,gP]
def sB(n:Nat)(l:cM)(i:Nat):List cM:=(List.range i).flatMap λi=>(gP n (l.eraseIdx i)).map (l.getD i 0::·)
def Bo(n:Nat)(l:cM)(i:Nat):sB n l (i+1)=sB n l i++(gP n (l.eraseIdx i)).map (l.getD i 0::·):=by simp only[sB,mL,List.flatMap_append,oB,List.flatMap_nil,List.append_nil]
theorem Dg(n:Nat)(l:cM)(h:l.length<=5):∀i,(sB n l i).length<=i*5^n
 |0=>by simp[sB]
 |i+1=>by have a:=uz n (l.eraseIdx i) cK;have:=Dg n l h i;rw[Bo,lU,nR,Nat.add_mul,Nat.one_mul];omega
def NA:∀(n:Nat) (l:cM),l.length=n->0<(gP n l).length:=λn l h=>by have:=qA n l h l (List.Perm.refl l);exact List.length_pos_of_mem this
def uW(G:Gd)(a:List cM)(i b:Nat):Prop:=∃h:b<a.length,it G (a.take i)=(a[b],mJ G a[b])
def uW.init{a:List cM}(h:0<a.length):uW H a 1 0:=by refine⟨h,?_⟩;rw[iw h];rfl
theorem uW.step{G:Gd}{a:List cM}{i b:Nat}(h:uW G a i b)(f:i<a.length)(j:∀r∈a,0<=mJ G r):uW G a (i+1) (if mJ G a[i]<mJ G (a.getD b [])then i else b):=by
 have⟨d,h⟩:=h;have e:a.getD b []=a[b]:=by rw[gD,eZ d];rfl
 have k:=j _ (eB d);have g:it G (a.take (i+1))=fD G (a[b],mJ G a[b]) a[i]:=by rw[<-h,iw f,it,si];rfl
 rw[e];split;rename_i c;refine⟨f,?_⟩;rw[g,fD,cT (.inr c)];rename_i c;refine⟨d,?_⟩;rw[g,fD,cR (by rintro(h|h)<;>simp only at h<;>omega)]
def uW.fin{b:Nat}(h:uW H (yH l) (yH l).length b)(a:l.Pairwise (·<·))(c:∀d∈l,d<5)(e:l.length<=5):(yH l).getD b []=dF H (eo l):=by have⟨f,h⟩:=h;rw[jN]at h;rw[gD,eZ f];show(yH l)[b]=_;unfold dF;rw[Bj a c,<-wK e,h]
def HF(h:∀d∈l,d<m):∀r∈yH l,∀d∈r,d<m:=λr a d b=>h d ((qz _ l rfl r a).mem_iff.1 b)
def dP.gN{x y:Code}{l:L}{Q:QW}(h:dP P m x l w (Pf (λc d=>dP P m y c d Q) Q)):dP P m (.seq x y) l w Q:=⟨λa g=>by
 refine lf (lM (h.out a g) ?_);rintro e i d ⟨c,b,f⟩;cases e with
 |normal=>exact f.out i b
 |_=>exact⟨c,b,f⟩⟩
def UK{Q:QW}{e:Exit}{a:Act}(h:∃g,Fr k g a/\jT m Q e g w):Exit.inBlock m (lift k Q) e a w:=by
 have⟨f,b,d⟩:=h;cases e with
 |exit j=>
  simp only[Exit.inBlock];by_cases c:j=m;subst c;rw[cT rfl];simp only[jT,Cg]at d;exact⟨f,b,d⟩;rw[cR c];have:Nat.beq j m=false:=by
   cases i:Nat.beq j m with
   |false=>rfl
   |true=>exact absurd (nS i) c
  simp only[jT,this]at d;exact⟨f,b,d⟩
 |_=>exact⟨f,b,d⟩
theorem dP.block{c:Code}{l:L}{Q:QW}(h:dP P m c l w (jT k Q)):dP P m (.block k c) l w Q:=⟨λa b=>by refine wp_block (lM (h.out a b) ?_);intro e f g d;exact UK d⟩
def nu{i:Type}(n:Nat){c:Code}{l:L}{Q:QW}(g:Nat->i->L)(J:Nat->i->dB)(o:i)(r:Sub (g 0 o) l/\J 0 o w)
 (d:∀b s w,b<=n->J b s w->dP V.prog m c (g b s) w (λe t u=>match e with
  | .normal=>b<n/\∃h,Sub (g (b+1) h) t/\J (b+1) h u
  |e=>jT k Q e t u)):dP V.prog m (Code.block k (Code.loop c)) l w Q:=by
 refine⟨λa p=>?_⟩;refine wp_block<|n6 (λj a w=>∃b s,b<=n/\j=n-b/\Fr m (g b s) a/\J b s w) n ⟨0,o,gi _,cL,p.sub r.1,r.2⟩ ?_;rintro j a w ⟨b,s,x,rfl,p,y⟩;refine lM ((d b s w x y).out a p) ?_;rintro e C D ⟨v,f,q⟩;cases e with
 |normal=>
  have⟨z,h,A,B⟩:=q;exact⟨n-(b+1),cL,b+1,h,cL,rfl,f.sub A,B⟩
 |exit j=>
  simp only[Exit.then];exact UK (e:=.exit j) ⟨v,f,q⟩
 |_=>exact⟨v,f,q⟩
theorem uA{T:y9}{Q:Exit->Act->dB}{r0:Option Nat}{ds:List Deferred}(F:mO P T)(z:cM){K:L->dB}{q:L->List PanicEntry->dB}{e:Array Oper}(G:∀l a w,px ds m l a->K l w->wpOpsIn (wd r0) 0 P e Q z a w)(H:∀l c a w,px ds m l a->q l c w->Q (.panic c) a w):∀(r:List Oper) (i:Nat) (f:cM) (l:L) (a:Act) (w:cI),(∀j,j<r.length->r[j]? =e[i+j]?)->px ds m l a->n7 P T m K q e.toList r f l w->wpOpsIn (wd r0) 0 P e Q (List.range' i r.length++z) a w
 |[],i,f,l,a,w,_,k,h=>by rw[fO,List.range'_zero,oD];exact G l a w k h
 |o::r,i,f,l,a,w,N,k,h=>by
  have O:e[i]? =some o:=(N 0 dt).symm;have A:∀j,j<r.length->r[j]? =e[i+1+j]? :=λj S=>by have:=N (j+1) (eV S);simpa[Ke,Nat.add_comm 1 j]using this
  have⟨h,J⟩:=wm h
  have t:∀f l,px ds m l a->Region.wanted o (yielded e a.tmps)=true->vj P T f l w o (λv y=>n7 P T m K q e.toList r f (ins m o.dst v l) y) (λy=>n7 P T m K q e.toList r f (ins m o.dst undef l) y) (q l)->
   wpOpsIn (wd r0) 0 P e Q (List.range' i (o::r).length++z) a w:=by
   intro f l k s h;rw[fi,Cf,nP];simp only[wpOpsIn,O,s,ej];refine(vk F k.b h (λv y B=>?_) (λy B=>?_) λc y B=>H l c a y k B);exact uA F z G H r (i+1) f _ _ y A (k.put o.dst v J) B;exact uA F z G H r (i+1) f _ _ y A (k.put o.dst undef J) B
  have skip:∀f l,px ds m l a->Region.wanted o (yielded e a.tmps)=false->n7 P T m K q e.toList r f (ins m o.dst undef l) w->wpOpsIn (wd r0) 0 P e Q (List.range' i (o::r).length++z) a w:=by intro f l k s h;rw[fi,Cf,nP];simp only[wpOpsIn,O,s,iH,fj];refine⟨λ_ _=>trivial,?_⟩;exact uA F z G H r (i+1) f _ _ w A (k.put o.dst undef J) h
  split at h;rename_i I;exact t f l k (by simp[Region.wanted,I]) h;rename_i g p I;split at h;exact h.elim;rename_i d C;rw[mW]at C;have D:(e[g]?).bind (·.dst)=some d:=eV C;split at h;rename_i b E;have n:a.eval (.tmp d)=.bool b:=k.b.at_ d _ E;have M:yielded e a.tmps g=some b:=by
   rw[kN]at n;unfold yielded;rw[D];simp only[xe];cases R:a.tmps[d]? with
   |none=>rw[R]at n;simp[undef]at n
   |some x=>rw[R]at n;simp at n;subst n;rfl
  have s:Region.wanted o (yielded e a.tmps)=(b==p):=by simp[Region.wanted,I,M]
  split at h;cases b<;>cases p<;>simp only at h;exact t f l k (by rw[s];rfl) h;exact skip f l k (by rw[s];rfl) h;exact skip f l k (by rw[s];rfl) h;exact t f l k (by rw[s];rfl) h;cases b with
  |true=>
   have h:=h.1 rfl;have u:=k.vi E;cases p with
   |true=>simp only at h;exact t (d::f) ((d,.bool true)::l) u (by rw[s];rfl) h
   |false=>exact skip (d::f) ((d,.bool true)::l) u (by rw[s];rfl) h
  |false=>
   have h:=h.2 rfl;have u:=k.vi E;cases p with
   |true=>exact skip (d::f) ((d,.bool false)::l) u (by rw[s];rfl) h
   |false=>simp only at h;exact t (d::f) ((d,.bool false)::l) u (by rw[s];rfl) h
  rename_i U E;have n:a.eval (.tmp d)=.tuple U:=k.b.at_ d _ E;have M:yielded e a.tmps g=none:=pJ D n;exact skip f l k (by simp[Region.wanted,I,M]) h;exact h.elim
structure mR(P:cU)(N:Nat)(ops:Array Oper)(i:Nat)(l:L)(w:cI)(Q:QW):Prop where
 out:∀a,Fr N l a->wpOpsIn (wd none) 0 P ops (lift N Q) (List.range' i (ops.size-i)) a w
def mR.start{N id:Nat}{b:Array Oper}{l:L}{Q:QW}(h:mR P N b 0 l w Q):dP P N (.region id b false) l w Q:=⟨λa c=>by refine wpIn_wide.1 (wpIn_region (n:=0) ?_);have:=h.out a c;rw[Nat.sub_zero,<-List.range_eq_range']at this;exact this⟩
def mR.cut{T:y9}(n:Nat)(g:mO P T){b:Array Oper}{l:L}{Q:QW}(h:n7 P T m (λl w=>mR P m b (i+n) l w Q) (λl c w=>Q (.panic c) l w) b.toList ((b.toList.drop i).take n) [] l w)(f:Nat.ble (i+n) b.size=true:=by rfl):mR P m b i l w Q:=⟨λa d=>by
 have f:=qH f;have k:((b.toList.drop i).take n).length=n:=by rw[Kd,List.length_drop,Array.length_toList];omega
 have:=uA (r0:=none) (ds:=[]) g (List.range' (i+n) (b.size-(i+n))) (Q:=lift m Q) (λl a w d e=>e.out a d.fr) (λl c a w d e=>⟨l,d.fr,e⟩) ((b.toList.drop i).take n) i [] l a w (λj o=>by rw[List.getElem?_take_of_lt cL,List.getElem?_drop,Array.getElem?_toList]) d.XS h;rw[k,List.range'_append_1,show n+(b.size-(i+n))=b.size-i by omega]at this;exact this⟩
def mR.fin{b:Array Oper}{l:L}{Q:QW}(h:Q .normal l w)(c:Nat.ble b.size i=true:=by rfl):mR P m b i l w Q:=⟨λa d=>by have c:=qH c;rw[show b.size-i=0 by omega];exact⟨l,d,h⟩⟩
def mR.jj{b:Array Oper}{l l0:L}{Q:QW}(c:Sub l0 l)(h:mR P m b i l0 w Q):mR P m b i l w Q:=⟨λa d=>h.out a (d.sub c)⟩
def Yj(a:cM):dW->Bool
 | .const _=>true
 | .tmp t=>mem t a
 |_=>false
def V5(l:L)(a:cM)(o:Oper):Option Nat:=match o.op with
 | .move x=>(match Yj a x with
  |true=>o.dst
  |false=>none)
 | .pick (.tmp c) x y=>(match mem c a with
  |true=>(match lk l c with
   |some (.bool true)=>(match Yj a x with
    |true=>o.dst
    |false=>none)
   |some (.bool false)=>(match Yj a y with
    |true=>o.dst
    |false=>none)
   |_=>none)
  |false=>none)
 |_=>none
variable{N:Nat}
def nN(P:cU)(T:y9)(N:Nat)(K:L->dB)(a:L->List PanicEntry->dB)(c:List Oper):List Oper->cM->L->dB
 |[],_,l,w=>K l w
 |o::r,f,l,w=>V1 N o.dst (match o.guard with
  |none=>vj P T f l w o (λv h=>match V5 l f o with
         |some e=>nN P T N K a c r (e::f) (ins N o.dst v l) h
         |none=>nN P T N K a c r f (ins N o.dst v l) h) (λh=>nN P T N K a c r f (ins N o.dst undef l) h) (a l)
  |some (g,i)=>match As c g with
   |none=>False
   |some d=>match lk l d with
    |some (.bool b)=>(match mem d f with
     |true=>(match b,i with
      |true,true=>vj P T f l w o (λv h=>match V5 l f o with
       |some e=>nN P T N K a c r (e::f) (ins N o.dst v l) h
       |none=>nN P T N K a c r f (ins N o.dst v l) h) (λh=>nN P T N K a c r f (ins N o.dst undef l) h) (a l)
      |false,false=>vj P T f l w o (λv h=>match V5 l f o with
       |some e=>nN P T N K a c r (e::f) (ins N o.dst v l) h
       |none=>nN P T N K a c r f (ins N o.dst v l) h) (λh=>nN P T N K a c r f (ins N o.dst undef l) h) (a l)
      |_,_=>nN P T N K a c r f (ins N o.dst undef l) w)
     |false=>(b=true->match i with
      |true=>vj P T (d::f) ((d,.bool true)::l) w o (λv h=>match V5 ((d,.bool true)::l) (d::f) o with
       |some e=>nN P T N K a c r (e::d::f) (ins N o.dst v ((d,.bool true)::l)) h
       |none=>nN P T N K a c r (d::f) (ins N o.dst v ((d,.bool true)::l)) h) (λh=>nN P T N K a c r (d::f) (ins N o.dst undef ((d,.bool true)::l)) h) (a ((d,.bool true)::l))
      |false=>nN P T N K a c r (d::f) (ins N o.dst undef ((d,.bool true)::l)) w)/\
      (b=false->match i with
       |false=>vj P T (d::f) ((d,.bool false)::l) w o (λv h=>match V5 ((d,.bool false)::l) (d::f) o with
        |some e=>nN P T N K a c r (e::d::f) (ins N o.dst v ((d,.bool false)::l)) h
        |none=>nN P T N K a c r (d::f) (ins N o.dst v ((d,.bool false)::l)) h) (λh=>nN P T N K a c r (d::f) (ins N o.dst undef ((d,.bool false)::l)) h) (a ((d,.bool false)::l))
       |true=>nN P T N K a c r (d::f) (ins N o.dst undef ((d,.bool false)::l)) w))
    |some (.tuple _)=>nN P T N K a c r f (ins N o.dst undef l) w
    |_=>False)
theorem uB{T:y9}{N:Nat}{Q:Exit->Act->dB}{r0:Option Nat}{ds:List Deferred}(F:mO P T)(z:cM){K:L->dB}{p:L->List PanicEntry->dB}{f:Array Oper}(G:∀l a w,px ds N l a->K l w->wpOpsIn (wd r0) 0 P f Q z a w)(H:∀l c a w,px ds N l a->p l c w->Q (.panic c) a w):∀(r:List Oper) (i:Nat) (k:cM) (l:L) (a:Act) (w:cI),(∀j,j<r.length->r[j]? =f[i+j]?)->px ds N l a->nN P T N K p f.toList r k l w->wpOpsIn (wd r0) 0 P f Q (List.range' i r.length++z) a w
 |[],i,k,l,a,w,_,m,h=>by rw[fO,List.range'_zero,oD];exact G l a w m h
 |o::r,i,k,l,a,w,O,m,h=>by
  have R:f[i]? =some o:=(O 0 dt).symm;have A:∀j,j<r.length->r[j]? =f[i+1+j]? :=λj U=>by have:=O (j+1) (eV U);simpa[Ke,Nat.add_comm 1 j]using this
  have⟨h,J⟩:=wm h
  have t:∀k l,px ds N l a->Region.wanted o (yielded f a.tmps)=true->vj P T k l w o (λv y=>match V5 l k o with
   |some e=>nN P T N K p f.toList r (e::k) (ins N o.dst v l) y
   |none=>nN P T N K p f.toList r k (ins N o.dst v l) y) (λy=>nN P T N K p f.toList r k (ins N o.dst undef l) y) (p l)->
   wpOpsIn (wd r0) 0 P f Q (List.range' i (o::r).length++z) a w:=by
   intro k l m s h;rw[fi,Cf,nP];simp only[wpOpsIn,R,s,ej];refine(vk F m.b h (λv y B=>?_) (λy B=>?_) λc y B=>H l c a y m B);split at B<;>exact uB F z G H r (i+1) _ _ _ y A (m.put o.dst v J) B;exact uB F z G H r (i+1) k _ _ y A (m.put o.dst undef J) B
  have skip:∀k l,px ds N l a->Region.wanted o (yielded f a.tmps)=false->nN P T N K p f.toList r k (ins N o.dst undef l) w->wpOpsIn (wd r0) 0 P f Q (List.range' i (o::r).length++z) a w:=by intro k l m s h;rw[fi,Cf,nP];simp only[wpOpsIn,R,s,iH,fj];refine⟨λ_ _=>trivial,?_⟩;exact uB F z G H r (i+1) k _ _ w A (m.put o.dst undef J) h
  split at h;rename_i I;exact t k l m (by simp[Region.wanted,I]) h;rename_i g q I;split at h;exact h.elim;rename_i d C;rw[mW]at C;have D:(f[g]?).bind (·.dst)=some d:=eV C;split at h;rename_i b E;have n:a.eval (.tmp d)=.bool b:=m.b.at_ d _ E;have M:yielded f a.tmps g=some b:=by
   rw[kN]at n;unfold yielded;rw[D];simp only[xe];cases S:a.tmps[d]? with
   |none=>rw[S]at n;simp[undef]at n
   |some x=>rw[S]at n;simp at n;subst n;rfl
  have s:Region.wanted o (yielded f a.tmps)=(b==q):=by simp[Region.wanted,I,M]
  split at h;cases b<;>cases q<;>simp only at h;exact t k l m (by rw[s];rfl) h;exact skip k l m (by rw[s];rfl) h;exact skip k l m (by rw[s];rfl) h;exact t k l m (by rw[s];rfl) h;cases b with
  |true=>
   have h:=h.1 rfl;have u:=m.vi E;cases q with
   |true=>simp only at h;exact t (d::k) ((d,.bool true)::l) u (by rw[s];rfl) h
   |false=>exact skip (d::k) ((d,.bool true)::l) u (by rw[s];rfl) h
  |false=>
   have h:=h.2 rfl;have u:=m.vi E;cases q with
   |true=>exact skip (d::k) ((d,.bool false)::l) u (by rw[s];rfl) h
   |false=>simp only at h;exact t (d::k) ((d,.bool false)::l) u (by rw[s];rfl) h
  rename_i V E;have n:a.eval (.tmp d)=.tuple V:=m.b.at_ d _ E;have M:yielded f a.tmps g=none:=pJ D n;exact skip k l m (by simp[Region.wanted,I,M]) h;exact h.elim
def mR.B8{T:y9}{N:Nat}(n:Nat)(g:mO P T){b:Array Oper}{i:Nat}{l:L}{Q:QW}(h:nN P T N (λl w=>mR P N b (i+n) l w Q) (λl c w=>Q (.panic c) l w) b.toList ((b.toList.drop i).take n) [] l w)(f:Nat.ble (i+n) b.size=true:=by rfl):mR P N b i l w Q:=⟨λa d=>by
 have f:=qH f;have k:((b.toList.drop i).take n).length=n:=by rw[Kd,List.length_drop,Array.length_toList];omega
 have:=uB (r0:=none) (ds:=[]) g (List.range' (i+n) (b.size-(i+n))) (Q:=lift N Q) (λl a w d e=>e.out a d.fr) (λl c a w d e=>⟨l,d.fr,e⟩) ((b.toList.drop i).take n) i [] l a w (λj m=>by rw[List.getElem?_take_of_lt cL,List.getElem?_drop,Array.getElem?_toList]) d.XS h;rw[k,List.range'_append_1,show n+(b.size-(i+n))=b.size-i by omega]at this;exact this⟩
theorem yM:∀(n:Nat) (l:List Nat) (a:Option Addr) (c:Nat) (w:cI),l.length=n->n<=5->fN w a l->l.length<=c->Calls V.prog 182 #[.slice a l.length c] w (fM λv E=>Ext w E/\fe w.heap.size E v (gP n l))
 |0,l,a,c,w,hl,_,S,T=>by
  refine go (V.fn Tryz.func182 cK) Tryz.ntmps182 ?_;refine dm (fc (jX cK (er [.slice none 0 0] 27 λd f e1 A q=>⟨_,rfl,e1,[.slice none 0 0],⟨rfl,.inr ⟨f,1,_,A,rfl,q,rfl,dg _,cK,cK,cK⟩⟩,rfl,λk U=>?_⟩)));obtain rfl:k=0:=by grind [gP]
  exact⟨_,rfl,cZ.nil _ _ _ _⟩
 |n+1,l,a,c,w,hl,h5,S,T=>by
  refine go (V.fn Tryz.func182 cK) Tryz.ntmps182 ?_;refine dm (fc (lh cK ?_));have F:5^n<=625:=dw (Nat.pow_le_pow_right dt (show n<=4 by omega)) cK;refine fA l.length (λi (v:cJ)=>[(0,.slice a l.length c),(3,v),(4,i64 i)]) (λi v E=>Ext w E/\fe w.heap.size E v (sB n l i)) (.slice none 0 0) ⟨by trivial,Ext.refl _,[],cZ.nil _ _ _ _,rfl,λk U=>by simp[sB]at U⟩ ?_;rintro i v g hi ⟨W,X⟩;refine dm (dK ⟨λag=>?_,λak=>?_⟩)
  ·have H:i<l.length:=cK;have hm:l.eraseIdx i=l.take i++l.drop (i+1):=List.eraseIdx_eq_take_drop_succ ..;have N:(l.eraseIdx i).length=n:=cK;have O:=S.ext W;refine gZ 9 dC (im λx=>g.heap.size<=x) (λa b h=>h.keep _) ?_;have ext:∀{d:cI},dA (λx=>g.heap.size<=x) g d->Ext g d:=λe=>e.ext cK;refine .early rfl (λu d=>∃f,u=.slice (some ⟨f,0,none⟩) 0 0/\g.heap.size<=f/\d.heap[f]? =some (.cells #[] 3)) (λu a b h e=>by have⟨f,r,j,I⟩:=h;exact⟨f,r,j,e.at_ I⟩) (λd e=>er [] 3 λL f G A q=>⟨⟨f,rfl,iD e.size,q⟩,G⟩) ?_;refine .exact (.slice a i c) (λd e=>pM i cL ⟨rfl,Ext.refl _⟩) ?_;refine .early rfl (λu d=>eK g.heap.size d u (l.take i)) (λu a b h e=>cZ.ext h e) (λd e x m=>?_) ?_;obtain⟨f,rfl,r,j⟩:=m;exact xS [] j dt r cK ((O.ext e).cut i) cK λv5 L o J=>⟨by have o:=o;simp only[fO,dj,oD]at o;exact o,J⟩;refine .exact (i64 ((i:Int)+1)) (λd e=>cW ⟨rfl,Ext.refl _⟩) ?_;refine .exact (.slice (wG a (i+1) c) (l.length-(i+1)) (c-(i+1))) (λd e=>A8 (i+1) cL T ⟨rfl,Ext.refl _⟩) ?_;refine .spec (λu d=>eK g.heap.size d u (l.eraseIdx i)) (λu a b h e=>cZ.ext h e) (λd e u z=>?_) ?_;have hd:=(O.ext e).drop (i+1) T;exact JK z e.size dt hd cK λp M o J=>⟨cK,J.trans (dA.refl (λ_=>False) _) (λx _ m=>(cZ.blk z m).1) cK⟩;refine .late rfl (λu d=>fe g.heap.size d u (gP n (l.eraseIdx i))) (λu a b h e=>h.ext e) (λd e u z=>?_) ?_;obtain⟨a9,c9,rfl,Y,Z⟩:=eK.row z;exact cX (yM n (l.eraseIdx i) a9 c9 d N cL Y Z) λu M ⟨e3,aa⟩=>⟨aa.low e.size,e3⟩;refine .late rfl (λu d=>fe g.heap.size d u (gP n (l.eraseIdx i))) (λu a b h e=>h.ext e) (λd e u z _ _ _ _ _ _=>⟨z,Ext.refl _⟩) ?_;intro M e3 u z;repeat intro _
   obtain⟨a5,c5,rfl,al,am⟩:=z.row;have an:∀b,cV v b->b<g.heap.size:=λb q=>(X.blk q).2;have ao:fe w.heap.size M v (sB n l i):=X.UJ e3 cK;have ab:l.getD i 0=l[i]:=cK;refine fA (gP n (l.eraseIdx i)).length (λk (p:cJ)=>[(0,.slice a l.length c),(3,p),(4,i64 i),(5,.slice a5 (gP n (l.eraseIdx i)).length c5),(6,i64 k)]) (λk p E=>dA (λx=>w.heap.size<=x/\(x<g.heap.size\/M.heap.size<=x)) M E/\fe w.heap.size E p (sB n l i++((gP n (l.eraseIdx i)).take k).map (l.getD i 0::·))/\∀b,cV p b->b<g.heap.size\/M.heap.size<=b) v ⟨by trivial,dA.refl _ _,cK,cK⟩ ?_;rintro k p B U ⟨R,s,K⟩;have ac:fe g.heap.size B (.slice a5 (gP n (l.eraseIdx i)).length c5) (gP n (l.eraseIdx i)):=z.UJ R cK;have C:Ext w B:=((((W.trans cK).keep λ_=>False).trans R cK cK:dA (λx=>w.heap.size<=x) w B)).ext cK;refine dm (dK ⟨λah=>?_,λai=>?_⟩);have t:k<(gP n (l.eraseIdx i)).length:=cK;have ap:(gP n (l.eraseIdx i))[k].length=n:=xT n _ N _ (eB t);have aq:(sB n l i).length<=3125:=dw (Dg n l cL i) (Nat.mul_le_mul (show i<=5 by omega) F);have aj:(gP n (l.eraseIdx i)).length<=625:=dw (uz n _ cL) F;have⟨a6,c6,e6,hL,_⟩:=ac.row;injection e6 with e6;subst e6;obtain⟨b1,o1,rfl,D⟩:=S i H;obtain⟨b5,o5,a7,c7,rfl,P,ad,ar⟩:=hL k t;have ae:¬cV p b1:=λh=>zp ((s.blk h).1) (o8 D);have af:¬cV p b5:=λh=>by have r:=K _ h;have j:=z.Yi;omega
   have D:=C.cell D;refine gZ 12 dC (im (cV p)) (λa b h=>h.keep _) ?_;refine .exact (.pointer (some ⟨b1,o1+i,none⟩)) (λd e=>eX i H ⟨rfl,Ext.refl _⟩) ?_;refine .exact (i64 (l.getD i 0:Nat)) (λd e=>by rw[ab];exact cO (e.fq D ae) ⟨rfl,Ext.refl _⟩) ?_;refine .early rfl (λx d=>∃f,x=.slice (some ⟨f,0,none⟩) 1 1/\B.heap.size<=f/\d.heap[f]? =some (.cells [i64 (l.getD i 0:Nat)].toArray 3)) (λu a b h e=>by have⟨f,r,j,I⟩:=h;exact⟨f,r,j,e.at_ I⟩) (λd e=>er [i64 (l.getD i 0:Nat)] 3 λL f G A q=>⟨⟨f,rfl,iD e.size,q⟩,G⟩) ?_;refine .exact (.pointer (some ⟨b5,o5+k,none⟩)) (λd e=>eX k t ⟨rfl,Ext.refl _⟩) ?_;refine .exact (.slice a7 ((gP n (l.eraseIdx i))[k]).length c7) (λd e=>cO (e.fq P af) ⟨rfl,Ext.refl _⟩) ?_;refine .early rfl (λx d=>eK B.heap.size d x (l.getD i 0::(gP n (l.eraseIdx i))[k])) (λu a b h e=>cZ.ext h e) (λd e x m=>?_) ?_;obtain⟨f,rfl,r,j⟩:=m;exact JL j rfl r rfl (ad.ext e) cL λv5 L o J=>⟨by have o:=o;rw[Nat.add_comm]at o;exact o,J⟩;refine .early rfl (λx d=>∃f y,x=.slice (some ⟨f,0,none⟩) 1 1/\B.heap.size<=f/\d.heap[f]? =some (.cells [y].toArray 27)/\eK B.heap.size d y (l.getD i 0::(gP n (l.eraseIdx i))[k])) (λu a b h e=>by have⟨f,y,r,j,I,h4⟩:=h;exact⟨f,y,r,j,e.at_ I,cZ.ext h4 e⟩) (λd e y hy=>?_) ?_;obtain⟨a8,c8,rfl,_,_⟩:=eK.row hy;exact er [.slice a8 _ c8] 27 λL f G A q=>⟨⟨f,_,rfl,iD e.size,q,cZ.ext hy G⟩,G⟩;refine .spec (λx d=>fe w.heap.size d x (sB n l i++((gP n (l.eraseIdx i)).take (k+1)).map (l.getD i 0::·))/\∀b,cV x b->cV p b\/B.heap.size<=b) (λu a b h e=>⟨h.1.ext e,h.2⟩) (λd e x m _ _=>?_) ?_;obtain⟨f,y,rfl,r,j,I⟩:=m;have hs:=(C.trans e).size;refine wM (s.ext e) hs (eK.low I C.size) j cK λv5 L o J g3=>⟨⟨?_,cK⟩,J⟩;rw[List.append_assoc]at o;rw[iw t,oC];grind;refine .late rfl (λx d=>fe w.heap.size d x (sB n l i++((gP n (l.eraseIdx i)).take (k+1)).map (l.getD i 0::·))/\∀b,cV x b->cV p b\/B.heap.size<=b) (λu a b h e=>⟨h.1.ext e,h.2⟩) (λd e x m _ _ _ _ _ _=>⟨m,Ext.refl _⟩) ?_;intro L G x m _ _ _ _ _ _ _ _;exact cW ⟨t,x,by trivial,R.trans G cK λy hy Q=>⟨(s.blk Q).1,K y Q⟩,m.1,λb q=>(m.2 b q).elim (K b) λh=>.inr (dw R.size h)⟩;obtain rfl:k=(gP n (l.eraseIdx i)).length:=cK;rw[jN,<-Bo]at s;exact cW ⟨H,p,by trivial,C,s⟩
  obtain rfl:i=l.length:=cK;exact⟨v,rfl,W,X⟩
end Go.Proofs.W
namespace Go.Proofs.W
open Go.Conc
def UL(a:Array Oper):Bool:=(List.range a.size).all λi=>match a[i]? with
 |some o=>o.guard.isNone&&(o.after.all λe=>decide (e.on<i)||!Region.binds .any e)
 |none=>true
def HG(i:Nat)(D:Nat->Bool):Nat->Bool:=λj=>Nat.beq j i||D j
def B9{b:Array Oper}{Q:Exit->Act->dB}{K:Act}{id:Nat}(hm:P.follows .mixedOrders=true)(hB:UL b=true)(I:(Nat->Bool)->Act->dB)(M:I (λ_=>false) K w.drew)
 (hs:∀i o,b[i]? =some o->∀D a g,I D a g->D i=false->(∀j,waits b i j=true->D j=true)->o.wp P a g (λX Y=>I (HG i D) X Y) Q)(Z:∀D a g,I D a g->(∀i,i<b.size->D i=true)->Q .normal a g):(Code.region id b true).wp P Q K w:=by
 refine wp_region_any hm ?_;have A:∀(i:Nat) (o:Oper),b[i]? =some o->o.guard=none/\∀e∈o.after,Region.binds .any e=true->e.on<i:=λi o m=>by have k:i<b.size:=(iS.1 m).1;have s:=nz.1 hB i (fP.2 k);rw[m]at s;simp only[eU]at s;refine⟨eV s.1,λe B hb=>?_⟩;have:=yR.1 s.2 e B;simpa[hb]using this
 have n:∀L:Array Bool,L.size=b.size->Region.ready .any b L=[]->∀i,i<b.size->L.getD i false=true:=by
  intro L G N i;induction i using Nat.strongRecOn with
  |_ i O=>
   intro k;refine Kb λR=>?_;have m:b[i]? =some b[i]:=nw k;have c:i∈Region.ready .any b L:=by
    unfold Region.ready;refine nA.2 ⟨fP.2 k,?_⟩;simp only[eU,sM];refine⟨?_,?_⟩;have:L.getD i false=false:=eV R;have q:i<L.size:=cL;simp[q]at this⊢;exact this;rw[m];simp only[mn,kG];refine yR.2 λe B=>?_;cases S:Region.binds .any e with
    |false=>simp
    |true=>
     have C:=(A i _ m).2 e B S;rw[O e.on C cL];simp
   rw[N]at c;cases c
 have T:∀(d:Nat) (L:Array Bool) (a:Act) (g:cI),L.size=b.size->I (λj=>L.getD j false) a g->((List.range b.size).countP λi=>!L.getD i false)<=d->wpAny P .any b Q d L a g:=by
  intro d;induction d with
  |zero=>
   intro L a g G H hc;have u:∀i,i<b.size->L.getD i false=true:=λi k=>by have M:(List.range b.size).countP (λi=>!L.getD i false)=0:=cL;have:=List.countP_eq_zero.1 M i (fP.2 k);simpa using this
   refine⟨?_,Z _ a g H u⟩;unfold Region.ready;refine T4.2 λi k=>?_;have h:=u i (fP.1 k);have q:i<L.size:=iD (fP.1 k);simp[q]at h⊢;intro U;rw[h]at U;cases U
  |succ d O=>
   intro L a g G H hc;refine⟨λN=>Z _ a g H (n L G N),λi k=>?_⟩;unfold Region.ready at k;have⟨t,r⟩:=nA.1 k;have t:=fP.1 t;simp only[eU,sM]at r;have m:b[i]? =some b[i]:=nw t;rw[m]at r;simp only[mn,kG]at r;have f:L.getD i false=false:=by have h:=r.1;have q:i<L.size:=cL;simp[q]at h⊢;exact h
   have v:∀j,waits b i j=true->L.getD j false=true:=λj y=>by unfold waits at y;rw[m]at y;have⟨e,B,y⟩:=Fp.1 y;simp only[eU,sP]at y;have h:=yR.1 r.2 e B;rw[y.2]at h;rw[<-y.1];simpa using h
   have E:∀j,(L.setIfInBounds i true).getD j false=HG i (λj=>L.getD j false) j:=λj=>by
    rw[iV _ _ _ cL];unfold HG;by_cases e:i=j;subst e;simp;rw[cR e];have:Nat.beq j i=false:=by
     cases h:Nat.beq j i with
     |false=>rfl
     |true=>exact absurd (nS h).symm e
    rw[this,Bool.false_or]
   have F:(List.range b.size).countP (λj=>!(L.setIfInBounds i true).getD j false)<=d:=by
    have C:(List.range b.size).countP (λj=>!(L.setIfInBounds i true).getD j false)<(List.range b.size).countP (λj=>!L.getD j false):=by
     have c:=fP.2 t;generalize List.range b.size=l at c;have z:∀l:cM,l.countP (λj=>!(L.setIfInBounds i true).getD j false)<=l.countP (λj=>!L.getD j false):=λl=>List.countP_mono_left λx _ J=>by rw[iV _ _ _ cL]at J;split at J;cases J;exact J
     induction l with
     |nil=>cases c
     |cons x l V=>
      obtain rfl|W:=eW.1 c;rw[List.countP_cons_of_neg (by rw[iV _ _ _ cL];simp),List.countP_cons_of_pos (by rw[f];rfl)];exact Nat.lt_succ_of_le (z l);have U:=V W;rw[List.countP_cons,List.countP_cons];have h3:(if(!(L.setIfInBounds i true).getD x false)=true then 1 else 0)<=(if(!L.getD x false)=true then 1 else 0):=by rw[iV _ _ _ cL];split;simp;exact dg _
      omega
    omega
   have hw:=hs i b[i] m _ a g H f v;unfold wpOp;rw[m];simp only;rw[cT (by unfold Region.wanted;rw[(A i _ m).1])];refine .inl (Oper.wp_mono (λX Y h=>?_) hw);refine O _ _ _ (by simp[G]) ?_ F;rw[show(λj=>(L.setIfInBounds i true).getD j false)=HG i (λj=>L.getD j false)from funext E];exact h
 refine T b.size _ K _ dt ?_ (by have:=List.countP_le_length (p:=λi=>!(Array.replicate b.size false).getD i false) (l:=List.range b.size);simpa using this);have:(λj=>(Array.replicate b.size false).getD j false)=λ_=>false:=funext λj=>by simp[Ip,vQ];split<;>rfl
 rw[this];exact M
def NB(D:Nat->Bool):List Edge->Prop
 |[]=>True
 |e::r=>match Region.binds .any e with
  |true=>D e.on=true/\NB D r
  |false=>NB D r
theorem ER{D:Nat->Bool}:∀{l:List Edge},(∀e∈l,Region.binds .any e=true->D e.on=true)->NB D l
 |[],_=>trivial
 |e::r,h=>by unfold NB;split;rename_i a;exact⟨cK,ER cK⟩;exact ER cK
def JM(N:Nat)(J:(Nat->Bool)->L->dB):Nat->List Oper->Prop
 |_,[]=>True
 |i,o::r=>V1 N o.dst ((∀D l w,J D l w->D i=false->NB D o.after.toList->∃b,Sub b l/\Fh V.prog Fj [] b w o (λv a=>J (HG i D) (ins N o.dst v l) a) (λa=>J (HG i D) (ins N o.dst undef l) a) λ_ _=>False)/\JM N J (i+1) r)
theorem Dh{J:(Nat->Bool)->L->dB}:∀{a:List Oper} {n i:Nat} {o:Oper},JM m J n a->a[i]? =some o->(∀t,o.dst=some t->t<m)/\∀D l w,J D l w->D (n+i)=false->NB D o.after.toList->∃c,Sub c l/\Fh V.prog Fj [] c w o (λv b=>J (HG (n+i) D) (ins m o.dst v l) b) (λb=>J (HG (n+i) D) (ins m o.dst undef l) b) λ_ _=>False
 |[],n,i,o,_,h=>cK
 |x::r,n,i,o,d,h=>by
  have⟨⟨f,e⟩,g⟩:=wm d;cases i with
  |zero=>
   simp at h;subst h;grind
  |succ i=>
   have:=Dh e (eV h);grind
def VL{N id:Nat}{c:Array Oper}{l:L}{Q:QW}(J:(Nat->Bool)->L->dB)(y:J (λ_=>false) l w.drew)(p:JM N J 0 c.toList)(q:∀D l w,J D l w->(∀i,i<c.size->D i=true)->Q .normal l w)(r:UL c=true:=by kernel_rfl):dP V.prog N (.region id c true) l w Q:=
 ⟨λa d=>by refine B9 eE r (λD a w=>∃l,Fr N l a/\J D l w) cK ?_ λD a w ⟨l,d,j⟩ f=>⟨l,d,q D l w j f⟩;rintro i o s D a w ⟨l,d,j⟩ t u;obtain⟨n,g⟩:=Dh (i:=i) p (eV s);rw[dj]at g;obtain⟨z,k,m⟩:=g D l w j t (ER λe A B=>u e.on (by grind [Array.any_eq_true',waits]));exact ji dr (d.sub k).b m (λv x h=>⟨_,d.put _ _ n,h⟩) (λx h=>⟨_,d.put _ _ n,h⟩) cK⟩
end Go.Proofs.W
namespace Go.Proofs.W
open Go.RowKit
def iG(n a b:Int)(w:cI):Calls V.prog 110 #[.int .i64 n,.int .i64 a,.int .i64 b] w (fM λv c=>v=.bool (l5 n a b)/\c=w):=by refine jb Tryz.func110 Tryz.ntmps110 ?_;refine sv ⟨λh=>sv ⟨_,rfl,?_,rfl⟩,λh=>⟨_,rfl,?_,rfl⟩⟩<;>simp[l5,h]
def Di(l:List Int)(x:Int)(g:Option Addr)(i:Nat)(w:cI)(m:kD w g l)(j:l.length<=100000):Calls V.prog 138 #[.slice g l.length i,.int .i64 x] w (fM λv f=>v=.int .i64 (sE x l 0)/\f=w):=by refine jb Tryz.func138 Tryz.ntmps138 ?_;refine fA l.length (λk (_:Unit)=>[(0,.slice g l.length i),(1,i64 x),(5,i64 k)]) (λk _ f=>f=w/\sE x l 0=sE x (l.drop k) k) () ⟨by trivial,rfl,rfl⟩ ?_;rintro k _ f p ⟨rfl,c⟩;refine dm (dK ⟨λa=>?_,λd=>?_⟩);have a:k<l.length:=eV a;obtain⟨b,o,rfl,n⟩:=m k a;rw[CJ x l k a]at c;refine eX k a (cO n (fc ⟨λh=>?_,λh=>?_⟩));have h:x=l[k]:=(fH h).symm;exact⟨_,rfl,by rw[c,cT h];rfl,rfl⟩;have h:¬x=l[k]:=λe=>iP h e.symm;rw[cR h]at c;exact cW ⟨a,(),by trivial,rfl,c⟩;have d:¬k<l.length:=eV d;rw[List.drop_eq_nil_of_le cL]at c;exact⟨_,rfl,by rw[c];rfl,rfl⟩
variable{G:Gd}{da:Option Addr}{dc:Nat}{w:cI}
def JN(I:gX w da G.doors)(E:G.doors.length<=100000):Calls V.prog 88 #[gV G da dc] w (fM λv q=>v=.int .i64 (em G)/\Ext w q):=by
 refine Tw Tryz.func88 Tryz.ntmps88 (dP.seq dr ?_);refine eH λt F d J c=>?_;have a:∀{b:Bool},kZ G=false->∃v,Ending.returned (one [Value.int .i64 1])=.returned v/\v=Value.int .i64 (em G)/\Ext w t:=λh=>⟨_,rfl,by simp[em,h],d⟩;refine dP.gN (dP.gN (mR.start (mR.B8 36 dr ?_)));refine cO (cN c rfl) (dH (iG _ _ _ _) (eC ⟨λh=>mR.fin (dP.of dr (jX rfl (a (b:=true) (by simp at h;simp[kZ,h])))),λf=>?_⟩));refine cO (cN c rfl) (dH (iG _ _ _ _) (eC ⟨λh=>mR.fin (dP.of dr (jX rfl (a (b:=true) (by simp at h;simp[kZ,h])))),λr=>?_⟩));refine cO (cN c rfl) (dH (iG _ _ _ _) (eC ⟨λh=>mR.fin (dP.of dr (jX rfl (a (b:=true) (by simp at h;simp[kZ,h])))),λs=>?_⟩));refine cO (cN c rfl) (dH (iG _ _ _ _) (eC ⟨λh=>mR.fin (dP.of dr (jX rfl (a (b:=true) (by simp at h;simp[kZ,h])))),λK=>?_⟩));refine cO (cN c rfl) (dH (iG _ _ _ _) (eC ⟨λh=>mR.fin (dP.of dr (jX rfl (a (b:=true) (by simp at h;simp[kZ,h])))),λL=>?_⟩));refine cO (cN c rfl) (cO (cN c rfl) (dH (iG _ _ _ _) (eC (mR.fin (dP.of dr ⟨λh=>(a (b:=true) (by simp at h;simp[kZ,h])),λM=>?_⟩)))));have S: -1000000<=G.streets/\G.streets<=1000000:=by simp[l5]at f;omega
 have H:kZ G=true:=by simp at f r s K L M;simp[kZ, *]
 refine dP.jj (l0:=[(1,dR F)]) (by trivial) (dP.of dr ?_);refine(cO (cN c rfl) (dm (mP ⟨λh=>⟨_,rfl,by simp at h;simp[em,H,h],d⟩,λu=>?_⟩)));have u:¬(5:Int)<G.doors.length:=eV u;have x:em G=nd G.streets G.doors:=by simp[em,H,u]
 refine fA G.doors.length (λk (_:Unit)=>[(1,dR F),(3,i64 k)]) (λk _ q=>Ext t q/\em G=nd G.streets (G.doors.drop k)) () ⟨by trivial,Ext.refl _,by rw[x];rfl⟩ ?_;rintro k _ q m ⟨e,g⟩;refine cO (cN (e.at_ c) rfl) (dm (dK ⟨λy=>?_,λn=>?_⟩));have m:k<G.doors.length:=eV y;have⟨b,o,z,N,A,O⟩:=(I.ext (d.trans e)) k m;rw[yq _ _ k m]at g;refine cO (cN (e.at_ c) rfl) ?_;subst z;refine fE k 3 m (ew (vs:=dL G.doors[k]) (λj v i=>?_) (eS λT U P B C=>dI C λQ R l=>?_));match j,i with
 |0,i=>cases i;exact N
 |1,i=>cases i;exact A
 |2,i=>cases i;exact O
 have p:Ext t Q:=(e.trans P).cS R (dw e.size B);have D:=p.at_ c;refine cO (cN l rfl) (cO (cN D rfl) (gC (dH (iG _ _ _ _) (eC ⟨λh=>?_,λf=>?_⟩))));exact⟨_,rfl,by simp at h;rw[g];simp[oU,h],d.trans p⟩;simp at f;refine cO (cN l rfl) (dH (iG _ _ _ _) (eC ⟨λh=>?_,λr=>?_⟩));exact jX rfl ⟨_,rfl,by simp at h;rw[g];simp[oU,f,h],d.trans p⟩;simp at r;refine cO (cN l rfl) (dH (iG _ _ _ _) (eC ⟨λh=>?_,λs=>?_⟩));exact⟨_,rfl,by simp at h;rw[g];simp[oU,f,h],d.trans p⟩;simp at s;exact cW ⟨m,(),by trivial,p,by rw[g];simp[oU,f,r,s]⟩;have n:¬k<G.doors.length:=eV n;rw[List.drop_eq_nil_of_le cL]at g;exact⟨_,rfl,by rw[g];rfl,d.trans e⟩
structure Td where
 opened:Bool
 times:Int
 mornings:Int
 evenings:Int
 day:Int
def Im(t:Td):dN:=[.bool t.opened,.int .i64 t.times,.int .i64 t.mornings,.int .i64 t.evenings,.int .i64 t.day]
def rj:Td:=⟨false,0,0,0,-1⟩
def N8(t:Td)(q:Tq):Td:=⟨t.opened||q.opened,t.times+1,if q.shift.toNat%2=0 then t.mornings+1 else t.mornings,if q.shift.toNat%2=0 then t.evenings else t.evenings+1,((q.shift.toNat/2:Nat):Int)⟩
def rl(d:Int):Td->List Tq->Td
 |t,[]=>t
 |t,q::r=>rl d (if q.door=d then N8 t q else t) r
theorem wN(d:Int)(q:Tq):∀(l:List Tq) (t:Td),rl d t (l++[q])=if q.door=d then N8 (rl d t l) q else rl d t l
 |[],t=>rfl
 |p::r,t=>wN d q r _
def TC(k:Nat)(t:Td):Prop:=(0<=t.times/\t.times<=k)/\(0<=t.mornings/\t.mornings<=k)/\0<=t.evenings/\t.evenings<=k
theorem TC.step{k:Nat}{t:Td}(h:TC k t)(d:Int)(q:Tq):TC (k+1) (if q.door=d then N8 t q else t):=by have⟨a,b,c⟩:=h;split;unfold TC N8;refine⟨⟨by simp only;omega,by simp only;omega⟩,?_,?_⟩<;>simp only<;>split<;>omega;exact⟨cL,cL,cL⟩
theorem vH(d:Int)(l:List Tq):TC l.length (rl d rj l):=by
 have h:∀(l:List Tq) (k:Nat) (t:Td),TC k t->TC (k+l.length) (rl d t l):=by
  intro l;induction l with
  |nil=>exactλk t h=>h
  |cons q r a=>
   intro k t h;have:=a (k+1) _ (h.step d q);rw[fi,show k+(r.length+1)=k+1+r.length by omega];exact this
 have:=h l 0 rj ⟨⟨kA,kA⟩,⟨kA,kA⟩,kA,kA⟩;rwa[dj]at this
theorem rZ{l:List Tq}{G:Option Addr}{lc:Nat}{w:World}(hr:kq w G l)(W:l.length<=100000)(hs:∀q∈l,0<=q.shift/\q.shift<=1000)(d:Int):
 Calls V.prog 140 #[.slice G l.length lc,.int .i64 d] w (fM λv u=>v=.agg (Im (rl d rj l)).toArray/\Ext w u):=by
 refine jb Tryz.func140 Tryz.ntmps140 ?_
 refine eS λw1 C Y aa x=>ez (.agg (Im rj).toArray) (eS λw2 D Z ab H=>dI H λw3 k3 i=>?_)
 have ac:=Y.size
 have e:¬C=D:=iD (dz.lt_of_heap x)
 have I:=k3.fL (Z.at_ x) e
 have i:w3.heap[D]? =some (.cells (Im rj).toArray 173):=i
 have E3:Ext w w3:=(Y.trans Z).cS k3 cL
 refine fA l.length (λk (_:Unit)=>[(0,.slice G l.length lc),(1,.int .i64 d),(4,di C),(5,di D),(6,.int .i64 k)]) (λk _ u=>Ext w u/\u.heap[C]? =some (.cells (pK 173).toArray 173)/\u.heap[D]? =some (.cells (Im (rl d rj (l.take k))).toArray 173)) () ⟨⟨rfl,rfl,rfl,rfl,rfl,trivial⟩,E3,I,i⟩ ?_
 rintro k _ w4 g ⟨y,p,f⟩
 refine dm (dK ⟨λJ=>?_,λz=>?_⟩)
 ·have g:k<l.length:=eV J
  have⟨b,o,K,E⟩:=hr k g
  have⟨h0,h6⟩:=hs _ (List.getElem_mem g)
  have L:TC k (rl d rj (l.take k)):=by have:=vH d (l.take k);rwa[List.length_take,Nat.min_eq_left cL]at this
  have c:=wN d l[k] (l.take k) rj
  rw[<-List.take_succ_eq_append_getElem g]at c
  subst K
  have⟨t,M⟩:∃t:Nat,l[k].shift=t:=⟨l[k].shift.toNat,cL⟩
  refine fE k 3 g (cO (y.cell (E 0 _ rfl)) (gQ ⟨λh=>?_,λh=>?_⟩))
  ·have h:¬l[k].door=d:=of_decide_eq_true h
   rw[if_neg h]at c
   exact cW ⟨g,(),⟨rfl,rfl,rfl,rfl,rfl,trivial⟩,y,p,by rw[c];exact f⟩
  have h:l[k].door=d:=eV (of_decide_eq_false h)
  rw[if_pos h]at c
  generalize rl d rj (l.take k)=T at*
  have⟨ad,ae,af⟩:=L
  have hq:=E 2 _ rfl
  have⟨X,N⟩:=jQ (N8 T l[k])
  rw[<-N]at c
  have ag:(l[k].shift.toNat:Int)=l[k].shift:=cL
  refine cO (cN f rfl) ⟨λO=>?_,λO=>fE k 3 g (cO (y.cell hq) ?_)⟩
  all_goals
   refine dI f λw5 F A=>cO (cN A rfl) (cW (dI A λw6 k6 P=>?_))
   have Q:=(y.cS F cL).cS k6 cL
   refine fE k 3 g (cO (Q.cell (E 1 _ rfl)) ?_)
   have h1:=E 1 _ rfl
   rw[M]at h1⊢
   refine li (n:=2) cL cL (dI P λw7 R B=>fE k 3 g (cO ((Q.cS R cL).cell h1) (tC (m:=t) (n:=2) cL (fc ⟨λr=>?_,λr=>?_⟩))))
   all_goals
    refine cO (cN B rfl) (cW (dI B λw8 k8 S=>cW ⟨g,(),⟨rfl,rfl,rfl,rfl,rfl,trivial⟩,(Q.cS R cL).cS k8 cL,k8.fL (R.fL (k6.fL (F.fL p e) e) e) e,?_⟩))
    rw[c]
    refine S.trans ?_
    have hN:l[k].shift.toNat=t:=cL
    first
    |(have r:t%2=0:=iD (of_decide_eq_true r)
      rw[N];simp[ir,Im,N8,hN,O,r,Value.cells];done)
    |(have r:¬t%2=0:=iD (of_decide_eq_false r)
      rw[N];simp[ir,Im,N8,hN,O,r,Value.cells];done)
 ·have z:¬k<l.length:=eV z
  rw[List.take_of_length_le cL]at f
  refine ew (vs:=Im (rl d rj l)) (λj v U=>by rw[Nat.zero_add];exact cN f (eV U)) (dI p λw5 F s=>?_)
  have s:w5.heap[C]? =some (.cells (Im (rl d rj l)).toArray 173):=s.trans (congrArg (λa=>some (Obj.cells a 173)) (ee (pK 173).toArray _ rfl))
  exact⟨.agg (Im (rl d rj l)).toArray,jr _ s λj v U=>by rw[Nat.zero_add];simpa using U,_,rfl,rfl,y.cS F cL⟩
variable{G:Gd}{da:Option Addr}{dc:Nat}{w:cI}
def HH(n:Int)(t:Td):Bool:=t.opened||(decide (n<=t.times)&&(decide (n<2)||(decide (0<t.mornings)&&decide (0<t.evenings))))
theorem ES(t:Td):Calls V.prog 139 #[gV G da dc,.agg (Im t).toArray] w (fM λv e=>v=.bool (HH G.tries t)/\Ext w e):=by
 refine Ry (V.fn Tryz.func139 cK) Tryz.ntmps139 (dP.seq dr ?_)
 refine eH λm n f g h=>eH λo p c i b=>?_
 have a:=c.at_ h
 refine dP.gN (mR.start (mR.B8 25 dr ?_))
 refine cO (cN b rfl) ⟨λd=>?_,λd=>cO (cN b rfl) (cO (cN a rfl) (wo ⟨λj=>cO (cN a rfl) (dK ⟨λk=>?_,λk=>cO (cN b rfl) (mP ⟨λl=>cO (cN b rfl) (mP ?_),λl=>?_⟩)⟩),λj=>?_⟩))⟩
 all_goals refine mR.fin (dP.of dr ⟨_,rfl,?_,f.trans c⟩)
 all_goals
  show Value.bool _=_
  simp[HH,d, *]
theorem kq.take{a:dV}{l:List Tq}(h:kq w a l)(i:Nat):kq w a (l.take i):=λk d=>by have c:k<l.length:=cK;have⟨b,o,e,f⟩:=h k c;grind
def yN(G:Gd):List Tq->List Tq->Int
 |_,[]=>0
 |a,q::r=>
  if l5 q.door 0 ((G.doors.length:Int)-1)&&l5 q.shift 0 (2*G.days-1)then
   if q.shift<eO a then 5
   else if(rl q.door rj a).day=((q.shift.toNat/2:Nat):Int)then 4
   else if HH G.tries (rl q.door rj a)then 12
   else yN G (a++[q]) r
  else 3
def JO(G:Gd)(l:List Tq)(k:Nat)(a:k<l.length):yN G (l.take k) (l.drop k)=(if l5 l[k].door 0 ((G.doors.length:Int)-1)&&l5 l[k].shift 0 (2*G.days-1)then
 if l[k].shift<eO (l.take k)then 5
 else if(rl l[k].door rj (l.take k)).day=((l[k].shift.toNat/2:Nat):Int)then 4
 else if HH G.tries (rl l[k].door rj (l.take k))then 12
 else yN G (l.take (k+1)) (l.drop (k+1))
 else 3):=by
 rw[pz a,iw a];rfl
def JP(G:Gd)(l:List Tq):Int:=if em G=0 then yN G [] l else em G
def wO{l:List Tq}{k:Nat}(a:k<l.length)(b:0<k):eO (l.take k)=l[k-1].shift:=by unfold eO;grind
def QI(hd:gX w da G.doors)(E:G.doors.length<=100000){l:List Tq}{P:Option Addr}{lc:Nat}(S:kq w P l)(ae:l.length<=100000)(af:l.length<=lc):
 Calls V.prog 81 #[gV G da dc,.slice P l.length lc] w (fM λv t=>v=.int .i64 (JP G l)/\Ext w t):=by
 refine go (V.fn Tryz.func81 cK) Tryz.ntmps81 ?_;refine eH λw1 gb T ag hb=>eI hb (ek (JN (hd.ext T) E) λU W=>gQ ⟨λh=>?_,λh=>?_⟩);have h:¬em G=0:=fH h;exact⟨_,rfl,by rw[JP,cR h];rfl,T.trans W⟩;have hG:em G=0:=cK;have ok:=eD hG;have X:=ok.days;have y:JP G l=yN G [] l:=by rw[JP,cT hG]
 have E2:=T.trans W;refine fA l.length (λk (_:Unit)=>[(1,.slice P l.length lc),(2,di gb),(6,i64 k)]) (λk _ t=>Ext U t/\(∀q∈l.take k,0<=q.shift/\q.shift<=1000)/\JP G l=yN G (l.take k) (l.drop k)) () ⟨by trivial,Ext.refl _,cK,y⟩ ?_;rintro k _ w3 u ⟨F,hv,c⟩;refine dm (dK ⟨λah=>?_,λY=>?_⟩);have u:k<l.length:=cK;have E3:=E2.trans F;rw[JO G l k u]at c;have⟨b,o,Z,hc⟩:=S k u;have z:=(W.trans F).at_ hb;have aa:(l.take k).length=k:=cK;have H:∀t,Ext w t->Calls V.prog 140 #[.slice P k lc,i64 l[k].door] t _:=λt e=>by have:=rZ (lc:=lc) (w:=t) (l:=l.take k) ((S.ext e).take k) cL hv l[k].door;rw[aa]at this;exact this
 subst Z;refine fE k 3 u (ew (vs:=uS l[k]) (λj v hj=>E3.cell cK) (eS λw4 tb e4 ab I=>dI I λQ k5 d=>?_));have d:Q.heap[tb]? =some (.cells (uS l[k]).toArray 84):=d;have g:Ext w3 Q:=e4.cS k5 ab;have J:=g.at_ z;have x:=E3.trans g;refine cO (cN d rfl) (cO (cN J rfl) (dm (gC (dH (iG _ _ _ _) (eC ⟨λh=>?_,λh1=>?_⟩)))));exact jX rfl ⟨_,rfl,by rw[c];simp at h;simp[h],x⟩;have h1:l5 l[k].door 0 ((G.doors.length:Int)-1)=true:=cK;refine cO (cN d rfl) (cO (cN J rfl) (oT (gC (dH (iG _ _ _ _) (eC ⟨λh=>?_,λh2=>?_⟩)))));exact⟨_,rfl,by rw[c];simp at h;simp[h],x⟩;have h2:l5 l[k].shift 0 (2*G.days-1)=true:=cK;rw[cT cK]at c;simp only[l5,eU,j9]at h1 h2;have⟨s,D⟩:∃s:Nat,l[k].shift=(s:Int):=⟨l[k].shift.toNat,cL⟩;have K:∀q∈l.take (k+1),0<=q.shift/\q.shift<=1000:=λq hq=>by grind [List.take_succ_eq_append_getElem,List.mem_singleton]
 obtain R|R:=mM k;refine dD dC (AE (lh cK λw6 p=>lh rfl ?_));have i:¬l[k].shift<eO (l.take k):=by subst R;show¬l[0].shift<0;omega
 rw[cR i]at c;have ac:=g.trans p;refine dD dC (dx _ (λU _=>pM k cL ⟨rfl,dC.refl _⟩) (dl (cN (p.at_ d) rfl) (ik _ (λL e7=>H L (((x.trans p).trans e7))) (Hi ?_))));rintro L x7 _ ⟨db,rfl,A,hD⟩;refine dI hD λB k8 m=>?_;have m:B.heap[db]? =some (.cells (Im (rl l[k].door rj (l.take k))).toArray 173):=m.trans (dE (λa=>some (Obj.cells a 173)) (ee (pK 173).toArray _ rfl));have f:Ext Q B:=(p.trans x7).cS k8 (dw p.size A);have C:=f.at_ d;have M:=x.trans f;have r:B.cell? ⟨tb,1,none⟩=some (i64 l[k].shift):=cN C rfl;rw[D]at r;refine cO (cN m rfl) (cO r (li (n:=2) dt cL (fc ⟨λh=>?_,λh=>?_⟩)));exact⟨_,rfl,by rw[c,D,cT (eV (fH h))];rfl,M⟩;rw[D,cR (eV (iP h))]at c;refine eI ((g.trans f).at_ z) (ew (vs:=Im (rl l[k].door rj (l.take k))) (λj v hj=>by rw[dj];grind [cN]) (cX (ES (da:=da) (dc:=dc) _) ?_));rintro _ w9 ⟨rfl,N⟩;refine⟨λh=>?_,λh=>?_⟩;exact⟨_,rfl,by rw[c,cT h];rfl,M.trans N⟩;rw[cR cK]at c;exact cW ⟨u,(),by trivial,F.trans ((g.trans f).trans N),K,c⟩;have⟨_,_,O,ad⟩:=S (k-1) cL;cases O;refine dD dC (AE (jX cK (dl (cN d rfl) (vo (jq (k-1) 3 cL (dl (x.cell (ad 1 _ rfl)) (GT λw6 p=>⟨λh=>?_,λh=>?_⟩)) cL)))));exact⟨_,rfl,by rw[c,cT (by rw[wO u R];grind)];rfl,x.trans p⟩;have i:¬l[k].shift<eO (l.take k):=by rw[wO u R];grind
 rw[cR i]at c;have ac:=g.trans p;refine dD dC (dx _ (λU _=>pM k cL ⟨rfl,dC.refl _⟩) (dl (cN (p.at_ d) rfl) (ik _ (λL e7=>H L (((x.trans p).trans e7))) (Hi ?_))));rintro L x7 _ ⟨db,rfl,A,hD⟩;refine dI hD λB k8 m=>?_;have m:B.heap[db]? =some (.cells (Im (rl l[k].door rj (l.take k))).toArray 173):=m.trans (dE (λa=>some (Obj.cells a 173)) (ee (pK 173).toArray _ rfl));have f:Ext Q B:=(p.trans x7).cS k8 (dw p.size A);have C:=f.at_ d;have M:=x.trans f;have r:B.cell? ⟨tb,1,none⟩=some (i64 l[k].shift):=cN C rfl;rw[D]at r;refine cO (cN m rfl) (cO r (li (n:=2) dt cL (fc ⟨λh=>?_,λh=>?_⟩)));exact⟨_,rfl,by rw[c,D,cT cK];rfl,M⟩;rw[D,cR cK]at c;refine eI ((g.trans f).at_ z) (ew (vs:=Im (rl l[k].door rj (l.take k))) (λj v hj=>by rw[dj];grind [cN]) (cX (ES (da:=da) (dc:=dc) _) ?_));rintro _ w9 ⟨rfl,N⟩;refine⟨λh=>?_,λh=>?_⟩;exact⟨_,rfl,by rw[c,cT h];rfl,M.trans N⟩;rw[cR cK]at c;exact cW ⟨u,(),by trivial,F.trans ((g.trans f).trans N),K,c⟩;have Y:¬k<l.length:=cK;rw[List.drop_eq_nil_of_le cL]at c;exact⟨_,rfl,by rw[c];rfl,E2.trans F⟩
section
variable{G:Gd}{da:Option Addr}{dc:Nat}{w:cI}
def Lu(r:gX w da G.doors){i:Nat}{x:Dr}(e:(eA G)[i]? =some x):Calls V.prog 181 #[gV G da dc,.int .i64 ((i:Int)-1)] w (fM λv s=>v=.agg (dL x).toArray/\Ext w s):=by
 refine go (V.fn Tryz.func181 cK) Tryz.ntmps181 ?_;refine eH λC D p t u=>eS λF q f y d=>dK ⟨λh=>?_,λh=>?_⟩;have h:(i:Int)-1<0:=fH h;obtain rfl:i=0:=cL;obtain rfl:x=⟨0,0,0⟩:=(dQ e).symm;exact ez (.agg (dL ⟨0,0,0⟩).toArray) (dI d λg l c=>by have c:g.heap[q]? =some (.cells (dL ⟨0,0,0⟩).toArray 81):=c.trans (dE (λa=>some (Obj.cells a 81)) (ee (pK 81).toArray _ rfl));exact⟨.agg (dL ⟨0,0,0⟩).toArray,jr _ c cK,_,rfl,rfl,(p.trans f).cS l cK⟩);have h:¬(i:Int)-1<0:=iP h;obtain⟨k,rfl⟩:∃k,i=k+1:=⟨i-1,cL⟩;rw[show((k+1:Nat):Int)-1=(k:Int) by simp];have e:G.doors[k]? =some x:=by grind [eA]
 have m:k<G.doors.length:=cK;obtain⟨b,o,rfl,z,A,B⟩:=r k m;rw[eZ m]at e;obtain rfl:=dQ e;have E:=p.trans f;refine cO (cN (f.at_ u) rfl) (fE k 3 m (ew (vs:=dL G.doors[k]) (λj v n=>?_) (dI d λg l c=>?_)));match j with
 |0=>exact(dQ n)▸E.cell z
 |1=>exact(dQ n)▸E.cell A
 |2=>exact(dQ n)▸E.cell B
 |j+3=>grind [dL]
 have c:g.heap[q]? =some (.cells (dL G.doors[k]).toArray 81):=c.trans (dE (λa=>some (Obj.cells a 81)) (ee (pK 81).toArray _ rfl));exact⟨.agg (dL G.doors[k]).toArray,jr _ c cK,_,rfl,rfl,E.cS l cK⟩
structure QJ(G:Gd)(da:Option Addr)(dc gb n0:Nat)(a b:Int)(x y:Dr)(w0:cI)(D:Nat->Bool)(l:L)(w:cI):Prop where
 g:lk l 3=some (di gb)
 s1:lk l 1=some (.int .i64 a)
 s2:lk l 2=some (.int .i64 b)
 e:Ext w0 w
 v9:D 0=true->lk l 9=some (gV G da dc)
 v10:D 1=true->lk l 10=some (.int .i64 a)
 v11:D 2=true->lk l 11=some (.agg (dL x).toArray)
 v12:D 3=true->lk l 12=some (gV G da dc)
 v13:D 4=true->lk l 13=some (.int .i64 b)
 v14:D 5=true->lk l 14=some (.agg (dL y).toArray)
 p7:D 6=true->∃p cs,lk l 7=some (di p)/\n0<=p/\w.heap[p]? =some (.cells cs 81)/\cs.size=3/\(D 8=true->cs=(dL x).toArray)
 p8:D 7=true->∃p cs,lk l 8=some (di p)/\n0<=p/\w.heap[p]? =some (.cells cs 81)/\cs.size=3/\(D 9=true->cs=(dL y).toArray)
 ne:D 6=true->D 7=true->∀p q,lk l 7=some (di p)->lk l 8=some (di q)->p≠q
 c8:D 8=true->D 6=true/\D 7=true
 c9:D 9=true->D 6=true/\D 7=true
theorem QJ.ext{k m:Nat}{a b:Int}{x y:Dr}{n w o:World}{D:Nat->Bool}{l:L}(h:QJ G da dc k m a b x y n D l w)(e:Ext w o):QJ G da dc k m a b x y n D l o:=
 {h with
  e:=h.e.trans e
  p7:=λc=>by
   have⟨p,d,f,g,i,j⟩:=h.p7 c
   exact⟨p,d,f,g,e.at_ i,j⟩
  p8:=λc=>by
   have⟨p,d,f,g,i,j⟩:=h.p8 c
   exact⟨p,d,f,g,e.at_ i,j⟩}
def zE{p q:Nat}(h:di p=di q):p=q:=dE Addr.block (dQ (Value.pointer.inj h))
theorem HI(hG:em G=0)(J:gX w da G.doors){i j:Nat}(hi:i<=G.doors.length)(hj:j<=G.doors.length):Calls V.prog 145 #[gV G da dc,.int .i64 ((i:Int)-1),.int .i64 ((j:Int)-1)] w (fM λv R=>v=.int .i64 (lz G i j)/\Ext w R):=by
 have ab:(eA G).length=G.doors.length+1:=by simp[eA]
 obtain⟨x,Z⟩:∃x,(eA G)[i]? =some x:=⟨_,List.getElem?_eq_getElem cL⟩
 obtain⟨y,hy⟩:∃y,(eA G)[j]? =some y:=⟨_,List.getElem?_eq_getElem cL⟩
 have ok:=eD hG
 have m:∀d∈eA G,(0<=d.st/\d.st<=2)/\(0<=d.at_/\d.at_<=20):=λd J=>by
  rcases List.mem_cons.1 J with rfl|J
  ·simp
  ·exact⟨(ok.door d J).1,(ok.door d J).2.1⟩
 have ac:=m x (List.mem_of_getElem? Z)
 have ad:=m y (List.mem_of_getElem? hy)
 have hW:lz G i j=xz G.corner x y:=by unfold lz;rw[Z,hy]
 clear m
 obtain⟨a,ha⟩:∃a:Int,a=(i:Int)-1:=⟨_,rfl⟩
 obtain⟨b,S⟩:∃b:Int,b=(j:Int)-1:=⟨_,rfl⟩
 have hA:∀n,Ext w n->Calls V.prog 181 #[gV G da dc,.int .i64 a] n (fM λv R=>v=.agg (dL x).toArray/\Ext n R):=λn e=>by rw[ha];exact Lu (J.ext e) Z
 have hB:∀n,Ext w n->Calls V.prog 181 #[gV G da dc,.int .i64 b] n (fM λv R=>v=.agg (dL y).toArray/\Ext n R):=λn e=>by rw[S];exact Lu (J.ext e) hy
 rw[<-ha,<-S]
 refine Tw Tryz.func145 Tryz.ntmps145 (dP.seq dr ?_)
 refine eH λn T e1 ae hb=>?_
 refine dP.gN ?_
 refine VL (QJ G da dc T n.heap.size a b x y n) ⟨rfl,rfl,rfl,Ext.drew _,λh=>(by cases h),λh=>(by cases h),λh=>(by cases h),λh=>(by cases h),λh=>(by cases h),λh=>(by cases h),λh=>(by cases h),λh=>(by cases h),λh=>(by cases h),λh=>(by cases h),λh=>(by cases h)⟩ ?_ ?_
 ·have sz:∀{D l o},QJ G da dc T n.heap.size a b x y n D l o->n.heap.size<=o.heap.size:=λh=>h.e.size
  refine⟨λD l o h r _=>⟨[(3,di T)],⟨h.g,trivial⟩,eI (h.e.at_ hb) {h with v9:=λ_=>rfl}⟩,?_⟩
  refine⟨λD l o h r _=>⟨[(1,.int .i64 a)],⟨h.s1,trivial⟩,{h with v10:=λ_=>rfl}⟩,?_⟩
  refine⟨λD l o h r s=>⟨[(9,gV G da dc),(10,.int .i64 a)],⟨h.v9 s.1,h.v10 s.2.1,trivial⟩,ek (hA o (e1.trans h.e)) λK L=>{h.ext L with v11:=λ_=>rfl}⟩,?_⟩
  refine⟨λD l o h r _=>⟨[(3,di T)],⟨h.g,trivial⟩,eI (h.e.at_ hb) {h with v12:=λ_=>rfl}⟩,?_⟩
  refine⟨λD l o h r _=>⟨[(2,.int .i64 b)],⟨h.s2,trivial⟩,{h with v13:=λ_=>rfl}⟩,?_⟩
  refine⟨λD l o h r s=>⟨[(12,gV G da dc),(13,.int .i64 b)],⟨h.v12 s.1,h.v13 s.2.1,trivial⟩,ek (hB o (e1.trans h.e)) λK L=>{h.ext L with v14:=λ_=>rfl}⟩,?_⟩
  refine⟨λD l o h r s=>⟨[],trivial,eS λK U L M c=>{h.ext L with
   p7:=λ_=>⟨U,_,rfl,Nat.le_trans (sz h) M,c,rfl,λz=>absurd (h.c8 z).1 (eV r)⟩
   ne:=λ_ H p q m u=>by
    obtain⟨q',W,A,_,X,_⟩:=h.p8 H
    have e:q=q':=(zE (Option.some.inj (A.symm.trans u))).symm
    have e2:U=p:=zE (Option.some.inj m)
    have:=dz.lt_of_heap X
    omega
   c8:=λz=>absurd (h.c8 z).1 (eV r)
   c9:=λz=>absurd (h.c9 z).1 (eV r)}⟩,?_⟩
  refine⟨λD l o h r s=>⟨[],trivial,eS λK U L M c=>{h.ext L with
   p8:=λ_=>⟨U,_,rfl,Nat.le_trans (sz h) M,c,rfl,λz=>absurd (h.c9 z).2 (eV r)⟩
   ne:=λI _ p q m u=>by
    obtain⟨q',W,A,_,X,_⟩:=h.p7 I
    have e:p=q':=(zE (Option.some.inj (A.symm.trans m))).symm
    have e2:U=q:=zE (Option.some.inj u)
    have:=dz.lt_of_heap X
    omega
   c8:=λz=>absurd (h.c8 z).2 (eV r)
   c9:=λz=>absurd (h.c9 z).2 (eV r)}⟩,?_⟩
  refine⟨λD l o h r s=>?_,?_⟩
  ·have I:D 6=true:=s.1
   have H:D 7=true:=s.2.2.2.2.2.2.2.1
   have X:D 2=true:=s.2.1
   obtain⟨p,W,m,B,f,C,_⟩:=h.p7 I
   obtain⟨q,N,u,E,k,F,O⟩:=h.p8 H
   have P:=h.ne I H p q m u
   refine⟨[(7,di p),(11,.agg (dL x).toArray)],⟨m,h.v11 X,trivial⟩,jp (v:=.agg (dL x).toArray) f (by rw[C];exact Nat.le_refl _) (λK Y c=>?_) (gK rfl)⟩
   have c:K.heap[p]? =some (.cells (dL x).toArray 81):=c.trans (congrArg (λa=>some (Obj.cells a 81)) (ee W _ C))
   exact{h with
    e:=h.e.cS Y B
    p7:=λ_=>⟨p,_,m,B,c,rfl,λ_=>rfl⟩
    p8:=λ_=>⟨q,_,u,E,Y.fL k (Ne.symm P),F,O⟩
    c8:=λ_=>⟨I,H⟩}
  refine⟨λD l o h r s=>?_,trivial⟩
  have I:D 6=true:=s.2.2.2.2.2.2.2.2.2.1
  have H:D 7=true:=s.1
  have h5:D 5=true:=s.2.1
  obtain⟨p,W,m,B,f,C,Q⟩:=h.p7 I
  obtain⟨q,N,u,E,k,F,_⟩:=h.p8 H
  have P:=h.ne I H p q m u
  refine⟨[(8,di q),(14,.agg (dL y).toArray)],⟨u,h.v14 h5,trivial⟩,jp (v:=.agg (dL y).toArray) k (by rw[F];exact Nat.le_refl _) (λK Y c=>?_) (gK rfl)⟩
  have c:K.heap[q]? =some (.cells (dL y).toArray 81):=c.trans (congrArg (λa=>some (Obj.cells a 81)) (ee N _ F))
  exact{h with
   e:=h.e.cS Y E
   p8:=λ_=>⟨q,_,u,E,c,rfl,λ_=>rfl⟩
   p7:=λ_=>⟨p,_,m,B,Y.fL f P,C,Q⟩
   c9:=λ_=>⟨I,H⟩}
 ·intro D l o h t
  obtain⟨p,W,m,B,f,C,Q⟩:=h.p7 (t 6 kA)
  obtain⟨q,N,u,E,k,F,O⟩:=h.p8 (t 7 kA)
  obtain rfl:=Q (t 8 kA)
  obtain rfl:=O (t 9 kA)
  have E2:=e1.trans h.e
  have aa:=h.e.at_ hb
  refine dP.jj (l0:=[(3,di T),(7,di p),(8,di q)]) ⟨h.g,m,u,trivial⟩ ?_
  have hf:0<=mZ x.st y.st/\mZ x.st y.st<=2:=by unfold mZ;omega
  have hc:=ok.corner
  have m1:=Int.mul_le_mul hc.2 hf.2 hf.1 cL
  have m2:=Int.mul_nonneg (show 0<=G.corner by omega) hf.1
  refine dP.of dr (cO (cN f rfl) (cO (cN k rfl) (fc ⟨λA=>?_,λA=>?_⟩)))
  ·have A:x.st=y.st:=of_decide_eq_true A
   refine cO (cN f rfl) (cO (cN k rfl) (gC (cO (cN k rfl) (cO (cN f rfl) (gC (rI ⟨_,rfl,?_,E2⟩))))))
   rw[hW,xz,if_pos A]
   rfl
  ·have A:¬x.st=y.st:=of_decide_eq_false A
   refine cO (cN f rfl) (cO (cN k rfl) (cW (cO (cN aa rfl) (cO (cN f rfl) (cO (cN k rfl) (gC (cO (cN k rfl) (cO (cN f rfl) (gC (rI (oT (cW ⟨_,rfl,?_,E2⟩ ?_) ?_)))))))))))
   ·rw[hW,xz,if_neg A]
    rfl
   ·have e:max (x.st-y.st) (y.st-x.st)=mZ x.st y.st:=rfl
    rw[e];omega
   ·have e:max (x.st-y.st) (y.st-x.st)=mZ x.st y.st:=rfl
    rw[e];omega
end
section
variable{G:Gd}{da:Option Addr}{dc:Nat}{w:cI}
theorem xU(hG:em G=0)(hd:gX w da G.doors){l:List Nat}{la:Option Addr}{lc:Nat}(hr:fN w la l)(hl:∀d∈l,d<G.doors.length)(hlen:l.length<=1000):
 Calls V.prog 177 #[gV G da dc,.slice la l.length lc] w (fM λv w'=>v=.int .i64 (mJ G l)/\Ext w w'):=by
 have ok:=eD hG;have hW:=n9 ok
 have Y2:∀k,k<=l.length->wZ l k<=G.doors.length:=λk hk=>by
  unfold wZ;split
  ·omega
  ·have:k-1<l.length:=cL;have h2:=hl _ (List.getElem_mem this);rw[getD_eq this];omega
 refine jb Tryz.func177 Tryz.ntmps177 ?_;refine eH λw1 gb e1 Y3 hb=>?_;refine fA l.length (λk (_:Unit)=>[(1,.slice la l.length lc),(2,di gb),(5,.int .i64 (vp (lz G) l k)),(6,.int .i64 ((wZ l k:Nat)-1)),(7,.int .i64 k)]) (λk _ w'=>Ext w1 w') () ⟨⟨rfl,rfl,rfl,rfl,rfl,trivial⟩,Ext.refl _⟩ ?_;rintro k _ w2 hk e2;have Y4:=hd.ext (e1.trans e2);have QK:=e2.at_ hb;have Z8:=zx hW l k;refine dm (dK ⟨λWY=>?_,λY5=>?_⟩)
 ·have Bp:k<l.length:=eV WY;obtain⟨bb,oo,rfl,hc⟩:=(hr.ext (e1.trans e2)) k Bp;have Z9:=hl _ (List.getElem_mem Bp);have hw:=hW (wZ l k) (l[k]+1);have QL:∀w3,Ext w2 w3->Calls V.prog 145 #[gV G da dc,.int .i64 ((wZ l k:Nat)-1),.int .i64 l[k]] w3 (fM λv w'=>v=.int .i64 (lz G (wZ l k) (l[k]+1))/\Ext w3 w'):=λw3 e3=>by have:=HI (dc:=dc) hG (Y4.ext e3) (Y2 k cL) (show l[k]+1<=G.doors.length by omega);rwa[show((l[k]+1:Nat):Int)-1=(l[k]:Int) by omega]at this
  have s1:vp (lz G) l (k+1)=vp (lz G) l k+lz G (wZ l k) (l[k]+1):=by simp only[vp,getD_eq Bp]
  have s2:((wZ l (k+1):Nat):Int)-1=l[k]:=by simp[wZ,List.getElem?_eq_getElem Bp]
  refine dD dC (dx (gV G da dc) (λw3 e3=>eI (e3.at_ QK) ⟨rfl,Ext.refl _⟩) (gB k Bp (dl hc (ik _ (λw3 e3=>QL w3 e3) (vn (gB k Bp (dl hc λw3 e3=>cW ⟨Bp,(),⟨rfl,rfl,?_,?_,rfl,trivial⟩,e2.trans e3⟩)))))))
  ·show some _=some _;rw[s1]
  ·show some _=some _;rw[s2]
 ·have Bp:k=l.length:=by
   have:¬k<l.length:=eV Y5;omega
  subst Bp;have hw:=hW (wZ l l.length) 0;have QL:Calls V.prog 145 #[gV G da dc,.int .i64 ((wZ l l.length:Nat)-1),.int .i64 (-1)] w2 (fM λv w'=>v=.int .i64 (lz G (wZ l l.length) 0)/\Ext w2 w'):=HI (j:=0) hG Y4 (Y2 _ (Nat.le_refl _)) (Nat.zero_le _);exact eI QK (ek QL λw3 e3=>cW ⟨_,rfl,rfl,(e1.trans e2).trans e3⟩)
def Lw(a b:Int):dN:=[.int .i64 a,.int .i64 b]
def JQ(z:em G=0)(A:gX w da G.doors){l:List Nat}{la:Option Addr}{lc:Nat}(B:fN w la l)(C:∀d∈l,d<G.doors.length)(m:l.length<=1000):
 Calls V.prog 143 #[gV G da dc,.slice la l.length lc] w (fM λv q=>v=.agg (Lw (je G l) (iA G l)).toArray/\Ext w q):=by
 have n:=eD z;have J:=CL n l cL;have K:=rK (n9 n) l;have L:=n.knock;have M:0<=G.knock*(l.length:Int)/\G.knock*(l.length:Int)<=5000:=⟨zK cL cL,Int.le_trans (Int.mul_le_mul L.2 (show(l.length:Int)<=1000 by omega) cL cL) kA⟩;have r:mJ G l+G.knock*(l.length:Int)=je G l:=by unfold je xy mJ;rw[Int.mul_comm]
 have N:mJ G l=pN (lz G) l:=rfl;refine jb Tryz.func143 Tryz.ntmps143 ?_;refine eH λw1 O D P Q=>eS λR E F S s=>?_;have p:=D.trans F;have f:=F.at_ Q;refine dD dC (dx (gV G da dc) (λH h=>eI (h.at_ f) ⟨rfl,Ext.refl _⟩) (ik _ (λH h=>xU (dc:=dc) (lc:=lc) z (A.ext (p.trans h)) (B.ext (p.trans h)) C m) (dl (cN f rfl) (mz (Je (vn (λH h=>?_)))))));rw[r];refine fA l.length (λk (_:Unit)=>[(1,.slice la l.length lc),(2,di O),(4,di E),(5,i64 (je G l)),(6,i64 (jP G (l.take k))),(7,i64 k)]) (λk _ q=>Ext R q) () ⟨⟨rfl,rfl,rfl,rfl,by show some _=some _;simp[jP],rfl,trivial⟩,h⟩ ?_;rintro k _ w4 T i;have t1:=AI n (l.take k);have U:(l.take k).length<=1000:=pY;refine dm (dK ⟨λt=>?_,λu=>?_⟩);have c:k<l.length:=eV t;obtain⟨b,o,rfl,W⟩:=(B.ext (p.trans i)) k c;have e:=C _ (eB c);have⟨b2,o2,x,_,_,X⟩:=(A.ext (p.trans i)) _ e;have t2:=n.door _ (eB e);subst x;refine dD dC (dl (cN (i.at_ f) rfl) (gB k c (dl W (jq l[k] 3 e (dl X (vn λI Y=>cW ⟨c,(),⟨rfl,rfl,rfl,rfl,?_,rfl,trivial⟩,i.trans Y⟩))))));show some _=some _;rw[AH G l k c e];have y:k=l.length:=by have:¬k<l.length:=eV u;omega
 subst y;rw[jN]at*;refine cW (ez (.agg (Lw (je G l) (iA G l)).toArray) (dI (i.at_ s) λI Z g=>?_));have g:I.heap[E]? =some (.cells (Lw (je G l) (iA G l)).toArray 56):=g.trans (dE (λa=>some (Obj.cells a 56)) (ee (pK 56).toArray _ rfl));exact⟨.agg (Lw (je G l) (iA G l)).toArray,jr _ g λj v hj=>by rw[dj];simpa using hj,_,rfl,rfl,(p.trans i).cS Z (iD D.size)⟩
end
def V6(t:Ty):Tq:=⟨t.door,t.shift,t.opened⟩
def Bq(w:cI)(a:dV)(l:List Ty):Prop:=∀k (h:k<l.length),∃b o,a=some ⟨b,o,none⟩/\∀j v,(tL l[k])[j]? =some v->w.cell? ⟨b,o+k*3+j,none⟩=some v
def Bq.ext{l:List Ty}(h:Bq w a l)(e:Ext w t):Bq t a l:=λk c=>by have⟨b,o,d,f⟩:=h k c;exact⟨b,o,d,λj v g=>e.cell cK⟩
def Bq.q{l:List Ty}(h:Bq w a l):kq w a (l.map V6):=λk c=>by have⟨b,o,d,e⟩:=h k cK;grind [uS,V6,tL]
def nH(l:List Ty)(d h:Nat):Nat:=(l.filter λt=>decide (t.door=d/\t.shift%2=h)).length
def Br(l:List Ty)(d:Nat):Bool:=l.any λt=>decide (t.door=d)&&t.opened
def NC(l:List Ty)(d a:Nat):Bool:=l.any λt=>decide (t.door=d)&&decide (t.shift/2=a)
def vI(l:List Ty)(t:Ty)(d h:Nat):nH (l++[t]) d h=nH l d h+if t.door=d/\t.shift%2=h then 1 else 0:=by grind [List.length_append,nH,List.filter]
def vJ(l:List Ty)(t:Ty)(d:Nat):Br (l++[t]) d=(Br l d||(decide (t.door=d)&&t.opened)):=by simp[Br]
def Bs(l:List Ty)(t:Ty)(d a:Nat):NC (l++[t]) d a=(NC l d a||(decide (t.door=d)&&decide (t.shift/2=a))):=by simp[NC]
def Bt(l:List Ty)(d h:Nat):nH l d h<=l.length:=List.length_filter_le ..
def Lx{m n:Nat}(a:0<n)(w:cI):Calls V.prog 34 #[.int .i64 m,.int .i64 n] w (fM λv b=>v=.int .i64 ((m%n:Nat):Int)/\b=w):=by refine go (V.fn Tryz.func34 cK) Tryz.ntmps34 ?_;exact tC a (dK (lh cK ⟨_,rfl,rfl,rfl⟩))
def HJ{l:List Ty}{lc:Nat}(r:Bq w a l)(q:l.length<=100000)(d h:Nat):Calls V.prog 74 #[.slice a l.length lc,.int .i64 d,.int .i64 h] w (fM λv m=>v=.tuple #[.int .i64 (nH l d h),.bool (Br l d)]/\m=w):=by refine go (V.fn Tryz.func74 cK) Tryz.ntmps74 ?_;refine fA l.length (λk (_:Unit)=>[(0,.slice a l.length lc),(1,i64 d),(2,i64 h),(8,i64 (nH (l.take k) d h)),(9,.bool (Br (l.take k) d)),(10,i64 k)]) (λ_ _ m=>m=w) () ⟨by trivial,rfl⟩ ?_;rintro k _ x y rfl;refine dm (dK ⟨λs=>?_,λt=>?_⟩);have c:k<l.length:=cK;obtain⟨b,o,rfl,j⟩:=r k c;have u:=Bt (l.take k) d h;rw[Kd]at u;have g:=vI (l.take k) l[k] d h;have i:=vJ (l.take k) l[k] d;rw[<-iw c]at g i;refine fE k 3 c (cO (j 0 _ rfl) (fc ⟨λf=>?_,λf=>?_⟩));have f:l[k].door=d:=cK;rw[decide_eq_true f,Bool.true_and]at i;refine⟨λp=>?_,λp=>?_⟩;rw[p,Bool.true_or]at i;refine fE k 3 c (cO (j 1 _ rfl) (dH (Lx (n:=2) dt _) (fc ⟨λe=>?_,λe=>?_⟩)));have e:l[k].shift%2=h:=cK;rw[cT ⟨f,e⟩]at g;refine cW (cW ⟨c,(),⟨rfl,rfl,rfl,?_,?_,rfl,trivial⟩,rfl⟩);show some _=some _;grind;show some _=some _;grind;have e:¬l[k].shift%2=h:=cK;rw[cR cL,pC (nH (l.take k) d h)]at g;refine cW ⟨c,(),⟨rfl,rfl,rfl,?_,?_,rfl,trivial⟩,rfl⟩;show some _=some _;grind;show some _=some _;grind;rw[p,Bool.false_or]at i;refine fE k 3 c (cO (j 2 _ rfl) (fE k 3 c (cO (j 1 _ rfl) (dH (Lx (n:=2) dt _) (fc ⟨λe=>?_,λe=>?_⟩)))));have e:l[k].shift%2=h:=cK;rw[cT ⟨f,e⟩]at g;refine cW (cW ⟨c,(),⟨rfl,rfl,rfl,?_,?_,rfl,trivial⟩,rfl⟩);show some _=some _;grind;show some _=some _;grind;have e:¬l[k].shift%2=h:=cK;rw[cR cL,pC (nH (l.take k) d h)]at g;refine cW ⟨c,(),⟨rfl,rfl,rfl,?_,?_,rfl,trivial⟩,rfl⟩;show some _=some _;grind;show some _=some _;grind;have f:¬l[k].door=d:=cK;rw[cR cL,pC (nH (l.take k) d h)]at g;rw[lL f,Bool.false_and,Bool.or_false]at i;refine cW ⟨c,(),⟨rfl,rfl,rfl,?_,?_,rfl,trivial⟩,rfl⟩;show some _=some _;grind;show some _=some _;grind;obtain rfl:k=l.length:=cK;rw[jN];exact⟨_,rfl,rfl,rfl⟩
def Bu(G:Gd)(a b:Nat):Bool:=decide (G.tries<=(a:Int)+b)&&(decide (G.tries<2)||(decide (0<(a:Int))&&decide (0<(b:Int))))
def QM{G:Gd}{h:dV}{i:Nat}{w:cI}(a b:Nat)(m:a<=1000000)(j:b<=1000000):Calls V.prog 75 #[gV G h i,.int .i64 a,.int .i64 b] w (fM λv k=>v=.bool (Bu G a b)/\Ext w k):=by refine go (V.fn Tryz.func75 cK) Tryz.ntmps75 ?_;refine eH λn o e l g=>cW (cO (cN g rfl) (wo ⟨λd=>?_,λd=>?_⟩));refine cO (cN g rfl) (dK ⟨λf=>?_,λf=>?_⟩);exact⟨_,rfl,by simp[Bu,d,f],e⟩;refine mP ⟨λc=>?_,λc=>?_⟩;have c:0<(a:Int):=fH c;exact mP ⟨_,rfl,by rw[Bu,d,f,decide_eq_true c];rfl,e⟩;have c:¬0<(a:Int):=iP c;exact⟨_,rfl,by rw[Bu,d,f,lL c];rfl,e⟩;exact⟨_,rfl,by simp[Bu,d],e⟩
def JR(G:Gd)(l:List Ty)(d:Nat):Bool:=Br l d||Bu G (nH l d 0) (nH l d 1)
def ET{G:Gd}{g:dV}{dc:Nat}{l:List Ty}{e:dV}{lc:Nat}{w:cI}(f:Bq w e l)(a:l.length<=100000)(d:Nat):Calls V.prog 49 #[gV G g dc,.slice e l.length lc,.int .i64 d] w (fM λv h=>v=.bool (JR G l d)/\Ext w h):=by refine go (V.fn Tryz.func49 cK) Tryz.ntmps49 ?_;refine eH λm n b i j=>?_;have o:=Bt l d 0;have p:=Bt l d 1;refine dH (HJ (f.ext b) a d 0) (dH (HJ (f.ext b) a d 1) ⟨λc=>?_,λc=>?_⟩);exact⟨_,rfl,by simp[JR,c],b⟩;refine eI j (ek (QM (nH l d 0) (nH l d 1) cL cL) λq k=>⟨_,rfl,by simp[JR,c],b.trans k⟩)
def HK{l:List Ty}(r:Bq w a l)(p:l.length<=100000)(s:∀t∈l,t.shift<=1000000)(d c:Nat):Calls V.prog 98 #[.slice a l.length m,.int .i64 d,.int .i64 c] w (fM λv i=>v=.bool (NC l d c)/\i=w):=by refine go (V.fn Tryz.func98 cK) Tryz.ntmps98 ?_;refine fA l.length (λk (_:Unit)=>[(0,.slice a l.length m),(1,i64 d),(2,i64 c),(7,i64 k)]) (λk _ i=>i=w/\NC (l.take k) d c=false) () ⟨by trivial,rfl,by simp[NC]⟩ ?_;rintro k _ A B ⟨rfl,f⟩;refine dm (dK ⟨λu=>?_,λx=>?_⟩);have e:k<l.length:=cK;obtain⟨b,o,rfl,q⟩:=r k e;have y:=Bs (l.take k) l[k] d c;rw[<-iw e,f,Bool.false_or]at y;have z:=s _ (eB e);have j:l[k].door=d->l[k].shift/2=c->NC l d c=true:=λg h=>List.any_eq_true.2 ⟨_,eB e,by simp[g,h]⟩;refine fE k 3 e (cO (q 0 _ rfl) (fc ⟨λg=>?_,λg=>?_⟩));have g:l[k].door=d:=cK;refine fE k 3 e (cO (q 1 _ rfl) (li (n:=2) cL cL (fc ⟨λh=>?_,λh=>?_⟩)));have h:l[k].shift/2=c:=cK;exact⟨_,rfl,by rw[j g h];rfl,rfl⟩;have h:¬l[k].shift/2=c:=cK;exact cW ⟨e,(),by trivial,rfl,cK⟩;have g:¬l[k].door=d:=cK;exact lh rfl (cW ⟨e,(),by trivial,rfl,cK⟩);obtain rfl:k=l.length:=cK;rw[jN]at f;exact⟨_,rfl,by rw[f];rfl,rfl⟩
def wP(l:List Ty)(d:Nat):Sx:=⟨((nH l d 0+nH l d 1:Nat):Int),(nH l d 0:Nat),(nH l d 1:Nat),Br l d,NC l d 0,NC l d 1,NC l d 2,false⟩
def ND(G:Gd)(l:List Ty)(d:Nat):ij G.tries (wP l d)=JR G l d:=by simp only[ij,wP,JR,Bu,Bool.false_or,Int.natCast_add];rfl
theorem QN(l:List Ty)(d k:Nat)(a:k<3):py (wP l d) k=NC l d k:=by obtain rfl|rfl|rfl:k=0\/k=1\/k=2:=cL;all_goals rfl
def JS(l:List Ty)(d s:Nat)(o:Bool)(c:s<6):ig (wP l d) s o=wP (l++[⟨d,s,o⟩]) d:=by have b:s%2=0\/s%2=1:=cL;have a:s/2=0\/s/2=1\/s/2=2:=cL;simp only[ig,wP,vI,vJ,Bs,true_and,decide_true,Bool.true_and];obtain b|b:=b<;>obtain a|a|a:=a<;>simp[b,a]<;>omega
theorem JU(l:List Ty)(t:Ty)(d:Nat)(h:t.door≠d):wP (l++[t]) d=wP l d:=by simp only[wP,vI,vJ,Bs,h,false_and,fj,pC,decide_false,Bool.false_and,Bool.or_false]
def lastT(b:Int)(l:List Tq):Int:=match l.getLast? with
 |some t=>t.shift
 |none=>b
theorem Dj(G:Gd)(t:Tq):∀(l:List Tq) (c a:List Sx) (b:Int),pd G c b l=(0,a)->pd G c b (l++[t])=pd G a (lastT b l) [t]
 |[],c,a,b,h=>by simp only[pd,Prod.mk.injEq,true_and]at h;subst h;rfl
 |x::r,c,a,b,h=>by
  have e:lastT b (x::r)=lastT x.shift r:=by unfold lastT;rw[List.getLast?_cons];cases r.getLast?<;>rfl
  rw[e,nP];simp only[pd]at h;conv=>lhs;unfold pd
  split at h;rename_i d;rw[cT d];split at h;simp at h;rename_i f;rw[cR f];split at h;simp at h;rename_i g;rw[cR g];split at h;simp at h;rename_i i;rw[cR i];exact Dj G t r _ a _ h;simp at h
structure Made(G:Gd)(l:List Ty)(s:Nat):Prop where
 log:fw G (l.map V6)=(0,(List.range G.doors.length).map (wP l))
 last:∀t∈l,t.shift<=s
def Made.nil(G:Gd):Made G [] 0:=⟨by simp only[fw,uL,pd];congr 1;refine List.ext_getElem dt λi a b=>?_;simp only[List.getElem_replicate,List.getElem_map];rfl,λt h=>by cases h⟩
def Made.up{l:List Ty}(h:Made H l s)(a:s<=m):Made H l m:=⟨h.log,λt b=>dw (h.last t b) a⟩
def Made.more{l:List Ty}{o:Bool}(h:Made H l s)(c:d<H.doors.length)(p:(s:Int)<2*H.days)(q:H.days<=3)(f:NC l d (s/2)=false)(g:JR H l d=false):Made H (l++[⟨d,s,o⟩]) s:=by
 refine⟨?_,λt a=>?_⟩;have j:((List.range H.doors.length).map (wP l)).getD d qV=wP l d:=by rw[gD,sN,List.getElem?_range c];rfl
 have r:lastT 0 (l.map V6)<=s:=by
  unfold lastT;rw[List.getLast?_map];cases k:l.getLast? with
  |none=>exact Int.natCast_nonneg s
  |some t=>exact Int.ofNat_le.2 (h.last t (List.mem_of_getLast? k))
 have e:=Dj H ⟨(d:Int),(s:Int),o⟩ _ _ _ 0 h.log;have m:(l5 (d:Int) 0 ((H.doors.length:Int)-1)&&l5 (s:Int) 0 (2*H.days-1))=true:=by simp[l5];omega
 rw[fw,oC,kY,uL];refine e.trans ?_;have b:((List.range H.doors.length).map (wP l)).getD ((d:Int)).toNat qV=wP l d:=j;simp only[pd,m,ej];rw[cR cL,b,QN l d _ cL,ND];simp only[ny];rw[f,g];simp only[iH,fj,pd];congr 1;rw[JS l d s o cL];refine List.ext_getElem dt λi u n=>?_;have v:i<H.doors.length:=eV n;rw[List.getElem_set];simp only[List.getElem_map,List.getElem_range];split;rename_i e;rw[e];rename_i e;exact(JU l ⟨d,s,o⟩ i e).symm;obtain a|a:=jy.1 a;exact h.last t a;rw[iv.1 a];exact dg _
def UM:Ij 25 84 [.int .i64 0,.int .i64 0,.bool false]:=⟨eE,Tryz.t84,_,eE,rfl,eE,eE,by decide+kernel,kA⟩
def sG(a:Nat)(w:cI)(v:cJ)(l:List Ty):Prop:=cZ a 84 [.int .i64 0,.int .i64 0,.bool false] w v l.length (l.flatMap tL)
theorem Bv{a:Type}{f:a->dN}{n:Nat}(b:∀x,(f x).length=n):∀l:List a,(l.flatMap f).length=l.length*n
 |[]=>dt
 |t::r=>by rw[oB,lU,b,Bv b r,fi,Nat.add_mul,Nat.one_mul,Nat.add_comm]
theorem r9{b:Type}{f:b->dN}{n:Nat}(a:∀x,(f x).length=n):∀(l:List b) (k:Nat) (c:k<l.length) (j:Nat) (v:cJ),(f l[k])[j]? =some v->(l.flatMap f)[k*n+j]? =some v
 |x::r,0,_,j,v,h=>by have d:j<(f x).iN:=(kX.1 h).1;rw[oB,Nat.zero_mul,dj,uJ d];exact h
 |x::r,k+1,c,j,v,h=>by have e:=r9 a r k (eV c) j v (eV h);rw[oB,uK (by rw[a,Nat.add_mul];omega),a,show(k+1)*n+j-n=k*n+j by rw[Nat.add_mul];omega];exact e
def NE(l:List Ty):(l.flatMap tL).length=l.length*3:=Bv (f:=tL) (n:=3) (λ_=>rfl) l
def NF(l:List Ty)(k:Nat)(a:k<l.length)(j:Nat)(v:cJ)(h:(tL l[k])[j]? =some v):(l.flatMap tL)[k*3+j]? =some v:=r9 (f:=tL) (n:=3) (λ_=>rfl) l k a j v h
def sG.row{l:List Ty}(h:sG m w x l):∃a c,x=.slice a l.length c/\Bq w a l/\l.length<=c:=by obtain⟨q,⟨d,rfl⟩|⟨b,c,r,s,rfl,g,t,i,u,n,v⟩⟩:=h;exact⟨none,0,by rw[d],λk e=>cL,cL⟩;refine⟨_,c,rfl,λk e=>⟨b,0,rfl,λj x f=>cN g ?_⟩,i⟩;have o:j<(tL l[k]).iN:=(kX.1 f).1;have p:(tL l[k]).iN=3:=rfl;have d:=NE l;rw[dj,n _ cL];exact NF l k e j x f
def sG.low{l:List Ty}(h:sG m w x l)(f:k<=m):sG k w x l:=by obtain⟨a,h|⟨b,c,d,g,e⟩⟩:=h;exact⟨a,.inl h⟩;exact⟨a,.inr ⟨b,c,d,cL,e⟩⟩
def NG(h:jK m w){dc:Nat}(hG:em N=0):Calls V.prog 29 #[di m,gV N a dc] w (fM λv g=>DE m w g/\∃l s,sG w.heap.size g v l/\Made N l s/\(s:Int)<2*N.days/\l.length<=30):=by
 have ok:=eD hG;have hm:=ok.many;have U:=ok.days;refine jb Tryz.func29 Tryz.ntmps29 ?_;refine eH λj u y af B=>?_;have ag:=h.lt;have ah:=dz.lt_of_heap B;refine cO (cN B rfl) (oT (gC (cX (qy (h.ext y) (2*N.days-1) cL) ?_)));rintro _ w2 ⟨⟨z,rfl,ai,hz⟩,d2⟩;have W:=d2.1.fL B (show¬u=m by omega);have aj:z<=2*N.days-1:=cL;refine fA z.toNat (λs (x:cJ×List Ty)=>[(0,di m),(3,di u),(5,x.1),(6,i64 z),(7,i64 s)]) (λs x g=>DE m j g/\g.heap[u]? =some (.cells (gV N a dc).cells 24)/\sG j.heap.size g x.1 x.2/\Made N x.2 s/\x.2.length<=5*s) (fl,[]) ⟨by trivial,d2,W,cZ.nil _ _ _ _,Made.nil N,dg _⟩ ?_;rintro s ⟨v,l⟩ w3 hs ⟨d3,X,A,k,o⟩;simp only at A k o;refine dK ⟨λC=>?_,λD=>?_⟩;have Y:(s:Int)<z:=fH C;refine fA N.doors.length (λi (x:cJ×List Ty)=>[(0,di m),(3,di u),(5,x.1),(6,i64 z),(7,i64 s),(8,i64 i)]) (λi x g=>DE m j g/\g.heap[u]? =some (.cells (gV N a dc).cells 24)/\sG j.heap.size g x.1 x.2/\Made N x.2 s/\x.2.length<=5*s+i) (v,l) ⟨by trivial,d3,X,A,k,o⟩ ?_;rintro i ⟨v,l⟩ w4 hi ⟨Z,E,A,k,o⟩;simp only at A k o;refine cO (cN E rfl) (dm (dK ⟨λC=>?_,λD=>?_⟩));have d:i<N.doors.length:=eV C;refine cX (HB (Z.2 (h.ext y)) 3 cL) ?_;rintro _ Q ⟨⟨b,rfl⟩,d5⟩;have F:=d5.1.fL E (show¬u=m by omega);have G:=Z.trans d5;have p:sG j.heap.size Q v l:=cZ.keep A d5.1 λb B e=>zp ((cZ.blk A B).1) y.size;obtain⟨L,c,rfl,M,hc⟩:=p.row;have f:∀I,Ext Q I->DE m j I/\I.heap[u]? =some (.cells (gV N a dc).cells 24)/\sG j.heap.size I (.slice L l.length c) l/\Made N l s/\l.length<=5*s+(i+1):=λI q=>⟨G.trans (q.de m),q.at_ F,cZ.ext p q,k,cL⟩;refine⟨λaa=>?_,λaa=>?_⟩;refine li (n:=2) cL cL (dH (HK M cL (λt ht=>iD (k.last t ht)) i (s/2)) (eC ⟨λR=>?_,λR=>?_⟩));have R:NC l i (s/2)=false:=eV R;refine eI F (ek (ET M cL i) λI q=>eC ⟨λS=>?_,λS=>?_⟩);have S:JR N l i=false:=eV S;have ab:=q.at_ F;refine cX (HB ((q.de m).2 (G.2 (h.ext y))) 4 cL) ?_;rintro _ w7 ⟨⟨T,rfl⟩,d7⟩;have ac:=d7.1.fL ab (show¬u=m by omega);have r:sG j.heap.size w7 (.slice L l.length c) l:=cZ.keep (cZ.ext p q) d7.1 λb B e=>zp ((cZ.blk p B).1) y.size;have O:=(G.trans (q.de m)).trans d7;refine ez (.agg (tL ⟨i,s,T⟩).toArray) (er (tL ⟨i,s,T⟩) 84 λw8 nb J ak ad=>gR UM (cZ.ext r J) (zp O.1.size J.size) ad cL λv' w9 ae k9 _=>cW ⟨d,(v',l++[⟨i,s,T⟩]),by trivial,?_,?_,?_,k.more d cL cL R S,pY⟩);have P:=O.trans (J.de m);refine⟨(P.1.trans k9 (H:=λx=>x=m\/j.heap.size<=x) (λ_ _ h=>.inl h) λx _ K=>.inr (cZ.blk (cZ.ext r J) K).1).trans (dA.refl (λ_=>False) _) (λx K h=>h.elim id λh=>cL) λ_ _ h=>h.elim,λhD=>(P.2 hD).keep k9 λx K=>?_⟩;have:=(cZ.blk (cZ.ext r J) K).1;have:=y.size;omega;refine k9.fL (J.at_ ac) λK=>?_;have:=(cZ.blk (cZ.ext r J) K).1;omega;unfold sG;rw[lU,List.flatMap_append];have h9:cZ j.heap.size 84 [i64 0,i64 0,.bool false] w9 v' (l.length+1) (l.flatMap tL++tL ⟨i,s,T⟩):=ae;simpa using h9;exact cW ⟨d,(.slice L l.length c,l),by trivial,f I q⟩;exact lh rfl (cW ⟨d,(.slice L l.length c,l),by trivial,f Q (Ext.refl _)⟩);exact lh rfl (lh rfl (cW ⟨d,(.slice L l.length c,l),by trivial,f Q (Ext.refl _)⟩));obtain rfl:i=N.doors.length:=by simp at D;omega
 exact cW ⟨cL,(v,l),by trivial,Z,E,A,k.up cL,by simp only;omega⟩;have Y:¬(s:Int)<z:=iP D;exact⟨_,rfl,(y.de m).trans d3,l,s,A.low y.size,k,cL,cL⟩
section
variable{G:Gd}{da:Option Addr}{dc:Nat}{w:cI}
end
def nW(G:Gd)(s:Nat):Int:=match fh G s with
 |some a=>(a.length:Int)
 |none=> -1
def TD:∀s:Nat,s<32->∀d:Nat,d<5->∀x:Nat,x<5->(ot s d).testBit x=(s.testBit x||decide (x=d)):=by decide+kernel
theorem yO{x:Nat}:∀(l:cM) (s:Nat),s<32->(∀d∈l,d<5)->x<5->((setFrom s l).testBit x=true↔s.testBit x=true\/x∈l)
 |[],s,_,_,_=>by simp[setFrom]
 |d::r,s,a,h,b=>by have c:=h d fF;have:=yO (x:=x) r (ot s d) (D8 s a d c) (λy e=>h y (ii _ e)) b;show(setFrom (ot s d) r).testBit x=true↔_;rw[this,TD s a d c x b,Ka,decide_eq_true_iff,eW,or_assoc]
theorem nI(h:∀d∈l,d<5)(a:m<5):(eo l).testBit m=true↔m∈l:=by have:=yO l 0 cL h a;unfold eo;rw[this];simp
theorem nk:m∈eh s↔m<5/\s.testBit m=true:=by unfold eh nt;rw[nA,fP]
theorem Bw:∀(l:cM) (b:List cM),∀D∈iu l b,∀x,(x∈l\/∃g∈b,x∈g)->∃g∈D,x∈g
 |[],b,D,c,x,h=>by
  obtain rfl:D=b:=by simpa[iu]using c
  obtain h|h:=h;cases h;exact h
 |d::r,b,D,c,x,h=>by
  simp only[iu,lq,fP]at c;have⟨j,o,c⟩:=c;refine Bw r _ D c x ?_;have m:∀g∈b,x∈g->∃g∈gh b d j,x∈g:=λg k e=>by obtain⟨i,n,rfl⟩:=List.getElem_of_mem k;unfold gh;split;rename_i a;by_cases f:j=i;subst f;exact⟨_,List.mem_set a _,by rw[getD_eq a];exact List.mem_append_left _ e⟩;exact⟨b[i],List.mem_iff_getElem.2 ⟨i,eV n,by rw[List.getElem_set_ne f]⟩,e⟩;exact⟨_,List.mem_append_left _ k,e⟩
  obtain h|⟨g,k,e⟩:=h;obtain rfl|h:=eW.1 h;refine .inr ?_;unfold gh;split;rename_i a;exact⟨_,List.mem_set a _,dt⟩;exact⟨[x],dt,dt⟩;exact .inl h;exact .inr (m g k e)
def TE:((List.range 6).all λn=>(List.range 32).all λs=>!((List.range 5).all λx=>!s.testBit x||decide (x<n))||decide (s<2^n))=true:=by decide+kernel
def VM{n s:Nat}(a:n<6)(b:s<32)(h:∀x,x<5->s.testBit x=true->x<n):s<2^n:=by
 have:=nz.1 (nz.1 TE n (fP.2 a)) s (fP.2 b)
 have c:((List.range 5).all λx=>!s.testBit x||decide (x<n))=true:=nz.2 λx d=>by
  cases e:s.testBit x with
  |false=>rfl
  |true=>simp[h x (fP.1 d) e]
 rw[c]at this;exact fH (eV this)
theorem Bx{a:List Sx}(j:a.length<=5)(f:Nat)(k:s<32)(h:∀x,x<5->s.testBit x=true->x∈dU H.tries a):(dM H a f).counts.getD s 0=nW H s:=by
 have e:∀d∈dU H.tries a,d<5:=λd l=>iD (jI l)
 have b:P0 s (eo (dU H.tries a))=true:=nz.2 λx c=>by
  cases g:s.testBit x with
  |false=>rfl
  |true=>rw[(nI e (fP.1 c)).2 (h x (fP.1 c) g)];rfl
 have i:=VM (n:=a.length) cL k λx j g=>jI (h x j g);show(iK H _ _).getD s 0=_;unfold iK;rw[gD,sN,List.getElem?_range k];show(if s<2^a.length then pf H (eo (dU H.tries a)) s else 0)=_;rw[cT i,pf,cT b];rfl
section
variable{G:Gd}{xs:List Sx}
end
theorem wQ:∀(n:Nat) (l:cM),l.Nodup->(∀x∈l,x<n)->l.length<=n
 |0,l,_,h=>by
  match l,h with
  |[],_=>exact dg _
  |x::r,h=>exact absurd (h x fF) (Nat.not_lt_zero _)
 |n+1,l,a,h=>by
  have b:=wQ n (l.erase n) (a.erase n) λx d=>by have:=(a.mem_erase_iff).1 d;have:=h x this.2;omega
  by_cases c:n∈l;rw[List.length_erase_of_mem c]at b;omega;rw[List.erase_of_not_mem c]at b;omega
def TF(s:Nat)(c:Nat->Nat)(j:Nat):Nat:=eo ((eh s).filter λd=>c d==j)
def WZ(G:Gd)(s n:Nat)(c:Nat->Nat):Prop:=(∀d∈eh s,c d<n)/\∀j,j<n->l8 G (TF s c j)=true
theorem By{c:Nat->Nat}(a:m<5):(TF s c j).testBit m=true↔s.testBit m=true/\c m=j:=by unfold TF;rw[nI (λd b=>(nk.1 (nA.1 b).1).1) a,nA,nk];simp[a]
def Ly(a:H.Ok)(b:ko H s)(c:Nat->Nat)(j:Nat):ko H (TF s c j):=ko.eo a.many λd e=>b.2 d (nA.1 e).1
def Y6(c:Nat->Nat)(P:dn)(a:List cM)(b:cM):Prop:=a.length=b.length/\∀i (h:i<a.length) (d:i<b.length),∀x∈a[i],c x=b[i]/\P x
theorem EU{n:Nat}{c:Nat->Nat}{P:dn}:∀(l:cM) (m:List cM) (g:cM),Y6 c P m g->g.Nodup->(∀k∈g,k<n)->(∀d∈l,c d<n/\P d)->∃D∈iu l m,∃g:cM,Y6 c P D g/\g.Nodup/\∀k∈g,k<n
 |[],m,g,h,t,u,_=>⟨m,by simp[iu],g,h,t,u⟩
 |d::r,m,g,h,t,u,A=>by
  have B:∀d∈r,c d<n/\P d:=λx f=>A x (ii _ f);have v:=A d fF;by_cases C:c d∈g;have⟨j,E,F⟩:=List.getElem_of_mem C;have w:j<m.length:=by rw[h.1];exact E
  have⟨D,y,z⟩:=EU r (gh m d j) g (by unfold gh;rw[cT w];refine⟨by rw[qG];exact h.1,λi s q x f=>?_⟩;rw[qG]at s;rw[List.getElem_set]at f;split at f;rename_i e;subst e;rw[getD_eq s]at f;obtain f|f:=jy.1 f;exact h.2 _ s q x f;rw[iv.1 f];exact⟨F.symm,v.2⟩;exact h.2 i s q x f) t u B
  exact⟨D,by simp only[iu,lq,fP];exact⟨j,cL,y⟩,z⟩;have⟨D,y,z⟩:=EU r (gh m d m.length) (g++[c d]) (by
   unfold gh;rw[cR cL];refine⟨by simp[h.1],λi s q x f=>?_⟩;by_cases p:i<m.length;rw[ml p]at f;have:=h.2 i p (by rw[<-h.1];exact p) x f;rw[ml (by rw[<-h.1];exact p)];exact this;obtain rfl:i=m.length:=by simp at s;omega
   simp only[sj (dg _),lK,nQ,iv]at f;subst f;refine⟨?_,v.2⟩;rw[sj (by rw[h.1];exact dg _)];simp) (List.nodup_append.2 ⟨t,dt,λa G b H=>by rw[iv.1 H];exactλe=>C (e▸G)⟩) (λk o=>by
   obtain o|o:=jy.1 o;exact u k o;rw[iv.1 o];exact v.1) B
  exact⟨D,by simp only[iu,lq,fP];exact⟨m.length,cL,y⟩,z⟩
def W4(m:H.Ok){s n:Nat}{c:Nat->Nat}(u:ko H s)(h:WZ H s n c):0<=nW H s/\nW H s<=n:=by
 have E:=m.many;have⟨D,v,o,r,A,w⟩:=EU (n:=n) (c:=c) (P:=λx=>x∈eh s) (eh s) [] [] ⟨rfl,λi p=>by simp at p⟩ List.nodup_nil (λk B=>by cases B) λd q=>⟨h.1 d q,q⟩;have y:=wQ n o A w
 have a:lG H D=true:=mF.2 λg C=>by
  obtain⟨i,p,rfl⟩:=List.getElem_of_mem C;have l:i<o.length:=by rw[<-r.1];exact p
  have e:=r.2 i p l;have t:∀d∈D[i],d<5:=λd q=>(nk.1 (e d q).2).1;refine uy m (Ly m u c o[i]).2 (λx z j=>?_) (h.2 o[i] (w _ (eB l)));rw[nI t z]at j;rw[By z];exact⟨(nk.1 (e x j).2).2,(e x j).1⟩
 have f:=tQ (lG H) (iu (eh s) []) _ (dg _);rw[jN]at f;unfold nW;rw[vF m u];cases j:uV (lG H) (iu (eh s) [])with
 |none=>
  rw[j]at f;have f:∀D∈iu (eh s) [],lG H D=false:=f;rw[f D v]at a;cases a
 |some b=>
  rw[j]at f;have:=f.2.1 D v a;have:=r.1;simp only[mn,nR];omega
def TG(n:H.Ok)(v:ko H s)(h:nW H s=m):∃c,WZ H s m c:=by
 have y:=n.many;have o:=tQ (lG H) (iu (eh s) []) _ (dg _);rw[jN]at o;unfold nW at h;rw[vF n v]at h;cases z:uV (lG H) (iu (eh s) [])with
 |none=>
  rw[z]at h;simp only[Option.map_none]at h;omega
 |some b=>
  rw[z]at h o;simp only[mn,nR]at h;have⟨A,F,B⟩:=o;have e:lG H b=true:=by have:=List.find?_some B;rw[eU]at this;exact this.2
  have p:b.length=m:=cL;have q:=(ri y (eh s) [] v.2 (λg a=>by cases a) b A).2.1;have f:∀d∈eh s,∃h:b.findIdx (λg=>g.contains d)<b.length,d∈b[b.findIdx (λg=>g.contains d)]:=λd i=>by have⟨g,a,r⟩:=Bw _ _ b A d (.inl i);have k:b.findIdx (λg=>g.contains d)<b.length:=List.findIdx_lt_length_of_exists ⟨g,a,eV r⟩;refine⟨k,?_⟩;have:=List.findIdx_getElem (w:=k);simpa using this
  refine⟨λd=>b.findIdx λg=>g.contains d,λd i=>by rw[<-p];exact(f d i).1,λj t=>?_⟩;have t:j<b.length:=cL;have a:=q _ (eB t);refine uy n (ko.eo y a).2 (λx u l=>?_) (mF.1 e _ (eB t));rw[By u]at l;have⟨C,D⟩:=l;have⟨G,E⟩:=f x (nk.2 ⟨u,C⟩);rw[nI (λd i=>iD (a d i)) u];subst D;exact E
def TH(a:H.Ok){s t:Nat}(k:ko H s)(e:ko H t)(h:∀x,x<5->s.testBit x=true->t.testBit x=true)(r:0<=nW H t):0<=nW H s/\nW H s<=nW H t:=by have⟨n,f⟩:∃n:Nat,nW H t=n:=⟨(nW H t).toNat,cL⟩;have⟨c,l,m⟩:=TG a e f;rw[f];refine W4 a k (c:=c) ⟨λd o=>?_,λj p=>?_⟩;have⟨g,q⟩:=nk.1 o;exact l d (nk.2 ⟨g,h d g q⟩);refine uy a (Ly a e c j).2 (λx i b=>?_) (m j p);rw[By i]at b⊢;exact⟨h x i b.1,b.2⟩
section
variable{G H:Gd}{σ τ:Nat->Nat}
end
section
variable{G H:Gd}{σ τ:Nat->Nat}{xs ys:List Sx}
end
def yP(l:List Ty):Nat:=match l.getLast? with
 |some t=>t.shift
 |none=>0
def JV{l:List Ty}(e:Bq w a l)(c:l.length<=100000):Calls V.prog 31 #[.slice a l.length m] w (fM λv f=>v=.int .i64 (yP l)/\f=w):=by
 refine go (V.fn Tryz.func31 cK) Tryz.ntmps31 ?_;refine dm (fc ⟨λh=>?_,λh=>?_⟩);have h:l.iN=0:=cK;obtain rfl:l=[]:=oA h;exact⟨_,rfl,rfl,rfl⟩;have h:¬l.iN=0:=cK;have d:l.iN-1<l.iN:=cL;obtain⟨b,o,rfl,g⟩:=e _ d;have i:yP l=l[l.iN-1].shift:=by unfold yP;grind
 rw[i];refine dm (gC ?_);rw[show((l.iN:Int)-1)=((l.iN-1:Nat):Int) by omega];exact fE (l.iN-1) 3 d (cO (g 1 _ rfl) ⟨_,rfl,rfl,rfl⟩)
def JW(a:Ext w t)(d:DE m t e)(h:w.heap.size<=m):Ext w e:=⟨d.1.os.trans a.os,d.1.tape.trans a.tape,d.1.output.trans a.output,dw a.size d.1.size,dw a.drawn d.1.drawn,λx b=>(d.1.block x (ep b a.size) cL).trans (a.block x b)⟩
def sG.rowOf{l:List Ty}(h:sG m w (.slice a k i) l):Bq w a l:=by have⟨b,c,e,d,f⟩:=h.row;grind
def QO{l:List Ty}(h:Made H l s):yP l<=s:=by
 unfold yP;cases a:l.getLast? with
 |none=>grind
 |some t=>exact h.last t (List.mem_of_getLast? a)
section
variable{G H:Gd}{σ τ:Nat->Nat}
end
section
variable{H G:Gd}
end
def NH(p:Int×Bool):cJ:=if p.2 then .tuple #[.int .i64 p.1,.int .i64 0]else .tuple #[.int .i64 0,.int .i64 11]
def EV{G:Gd}{dc:Nat}{l:List Tq}{la:dV}{lc:Nat}(r:gX w a G.doors)(c:G.doors.length<=100000)(s:kq w la l)(j:l.length<=100000)(b:Int):
 Calls V.prog 46 #[gV G a dc,.slice la l.length lc,.int .i64 b] w (vw λv n=>Ext w n/\((dG G l b 0≠0/\v=.tuple #[.int .i64 0,.int .i64 (dG G l b 0)])\/(dG G l b 0=0/\v=NH (kT (dM G (fw G l).2 b.toNat))))):=by
 refine go (V.fn Tryz.func46 cK) Tryz.ntmps46 ?_;refine eH λB C d t u=>eI u (cX (mC (dc:=dc) (r.ext d) c (s.ext d) j b 0) ?_);rintro v D ⟨o,⟨e,rfl⟩|⟨e,E,F,mk,H,rfl,i,x⟩⟩;exact gQ (jX cK (.inl ⟨_,rfl,d.trans o,.inl ⟨e,rfl⟩⟩));have y:=i.g.lo;have I:=d.size;obtain⟨f,rfl,m,_⟩:=lF i.k.g.vN e;refine gQ (lh dt (iM (CZ (n0:=w.heap.size) i.k cK i.g.WX cL cL x m) (λn h=>.inr ⟨rfl,h⟩) ?_));rintro _ z ⟨A,rfl⟩;have p:Ext w z:=A.1.from (d.trans o) (dg _);rw[ny];cases q:(kT (dM G (fw G l).2 f)).2 with
 |false=>exact eC (jX rfl (.inl ⟨_,rfl,p,.inr ⟨e,by unfold NH;rw[q];rfl⟩⟩))
 |true=>exact eC (lh rfl (.inl ⟨_,rfl,p,.inr ⟨e,by unfold NH;rw[q];rfl⟩⟩))
end Go.Proofs.W
