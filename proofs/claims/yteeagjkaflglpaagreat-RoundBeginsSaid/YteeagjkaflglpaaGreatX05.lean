/- Laws that the proof needs, part 5. Conditions: none. -/
import Derived.Test.YteeagjkaflglpaaGreatX04
set_option maxRecDepth 100000
set_option maxHeartbeats 8000000
set_option linter.all false
variable{m k i j o p s d:Nat}{w t e:cJ}{x y z:cK}{A B C:Nat->Prop}{l f:List Nat}{T U:cR}{a:Option Go.Addr}{H N:Go.Proofs.W.Gd}{W X:Array cK}{I J:Int}{D E:Bool}{K:dZ}{S:cJ->Prop}{P:cU}
namespace Go.Proofs.W
open Go.RowKit
theorem iJ.drop(h:iJ A w a l)(i:Nat)(g:l.length<=m):iJ A w (uR a i m) (l.drop i):=λk j=>by have c:i+k<l.length:=cL;have⟨b,o,e,f,n⟩:=h (i+k) c;have d:¬m=i:=cM;refine⟨b,o+i,e,?_,?_⟩;unfold uR;rw[cS d,f];simp[iq];grind
def Tu{r:nu}{A:Array Bool}(t:GL w x l)(B:m<=w.heap.size)(e:l.length<=1000)(j:w.heap[k]? =some (.cells [Value.int .i64 s].toArray 3)) (C:∀v c,GL c v (l++[s])->(∀b,cW v b->cW x b\/m<=b)->dz (cW x) w c->(∀b a,cW x b->w.heap[b]? =some (.cells a 3)->c.heap[b]? =some (.cells a 3)\/c.heap[b]? =some (.cells (a.setIfInBounds l.length (.int .i64 s)) 3))->r v c):zd V.prog (builtin .append #[27,27] T A #[x,.slice (some ⟨k,0,none⟩) 1 i]) w r:=by
 have⟨f,o⟩:∃f:Obj,∀b,cW x b->w.heap[b]? =some f:=by by_cases D:∃b,cW x b;have⟨b,d⟩:=D;have⟨a,E⟩:=t.c3 d;exact⟨.cells a 3,λu F=>by grind [Ho]⟩;exact⟨.cells #[] 3,cL⟩
 have⟨p,q⟩:∃p:Obj,∀b a,cW x b->f=.cells a 3->p=.cells (a.setIfInBounds l.iw (i64 s)) 3:=by
  cases f with
  |cells a T I=>exact⟨.cells (a.setIfInBounds l.iw (i64 s)) 3,cL⟩
  |_=>exact⟨.cells #[] 3,cL⟩
 refine zE (w0:=w) t o B e j p q λv c y z=>C v c ?_ (λb d=>?_) z.k λb a d G=>?_;obtain⟨_,_,_,_,_,h⟩|⟨_,_,_,_,h⟩:=y<;>exact h;obtain⟨u,c',H,rfl,_⟩|⟨u,c',H,rfl,_⟩:=y;rw[n8 (l':=0) (c':=0) d];grind;rw[n8 (l':=0) (c':=0) d];grind;obtain h|⟨h,g⟩:=z.n b _ d G;grind;grind
def GL.mf{n0 mk ms:Nat}(h:GL w x l)(e:MF A n0 mk ms H B w t)(d:∀b,cW x b->¬A b):GL t x l:=by obtain h|⟨b,c,f,a,g,i,j⟩:=h;exact .inl h;exact .inr ⟨b,c,f,a,g,e.at_ (d b ⟨_,_,a⟩) i,j⟩
def JP(d:Nat)(w:cJ)(f:cK)(a:cN)(e:cJ):Option cN->Prop
 |none=>e.heap[d]? =w.heap[d]?
 |some o=>a.length<=o.length/\∃c,e.heap[d]? =some (.cells #[c] 27)/\GL e c o/\∀b,cW c b->cW f b\/w.heap.size<=b
def Xe(a b c d:Nat):cK:=.func (.func 170) #[] #[dj a,dj b,dj c,dj d]
def GL.ET(h:GL w x l)(a:w.heap[m]? =some (.cells #[y] 27)):∀b,cW x b->b≠m:=λb c e=>by subst e;have⟨d,f⟩:=h.c3 c;grind
theorem Hz{wp gp mk ms n0:Nat}{Z:List Sx}(ah:n0<=mk)(hn:n0<=ms)(ai:∀x∈Z,vw 100000 x)(hf:m<=fl H):
 ∀(t:Nat) (l c:cN) (la:dW) (U:Nat) (T ov:cK) (w:cJ),LB wp gp mk ms n0 H Z I m J k i j o A w->iJ (λb=>b=j) w la l->l.length<=U->l.length<=1000->(∀d∈l,d<Z.length)->GL w T c->(∀d∈c,d<Z.length)->t+c.length<=1000->w.heap[j]? =some (.cells #[ov] 27)->(∀b,cW ov b->b<w.heap.size)->
  Calls V.prog 169 #[.slice la l.length U,T,.int .i64 t,Xe k i j o] w (uF λv w'=>MF (λx=>x=j) n0 mk ms H A w w'/\v=.bool (gR (mF H Z m J) t l c).1/\JP j w T c w' (gR (mF H Z m J) t l c).2)
 |0,l,c,la,U,T,ov,w,hB,hl,aa,aB,aC,y,aj,ak,N,aD=>by obtain⟨ba,bc,rfl,ab,aE⟩:=y.row;refine jd Tryz.func169 Tryz.ntmps169 ?_;refine eZ (ko rfl (iM (VQ hB ah hn ai hf ab aj cM N) (λw' h=>.inr ⟨rfl,h⟩) λv z ⟨e1,hv,C⟩=>?_));subst hv;exact .inl ⟨_,rfl,e1,rfl,di _,_,C,y.mf e1 (y.ET N),cL⟩
 |t+1,l,c,la,U,T,ov,w,hB,hl,aa,aB,aC,y,aj,ak,N,aD=>by
  have⟨p,hp⟩:=ju (mF H Z m J);have al:=y.ET N;refine jd Tryz.func169 Tryz.ntmps169 ?_;refine eZ (kZ cL (dm ?_));rw[<-hp];have aF:=(JC (λx=>x=j) n0 mk ms H A).trans;refine fu (n:=l.length) (λg=>[(0,.slice la l.length U),(1,T),(2,i64 (t+1:Nat)),(3,Xe k i j o),(16,.slice la l.length U),(17,i64 l.length),(18,i64 g)]) (λg w'=>(gm p t l c g).1=false/\MF (λx=>x=j) n0 mk ms H A w w'/\JP j w T c w' (gm p t l c g).2) ⟨by trivial,rfl,(JC _ _ _ _ _ _).refl _,rfl⟩ ?_ ?_ ?_;rintro g z hk hJ;exact dN ⟨rfl,rfl,by trivial,hJ⟩;rintro g z hk ⟨ac,m1,B⟩;have ad:=hB.mf m1;have am:iJ (λb=>b=j) z la l:=hl.go cL λb W v y hc=>m1.cell y hc;have an:GL z T c:=y.mf m1 al;have s1:=m1.size;have⟨D,C,ao⟩:∃D,fF z j #[D] 27/\∀b,cW D b->b<z.heap.size:=by
   cases O:(gm p t l c g).2 with
   |none=>
    rw[O]at B;exact⟨ov,(show z.heap[j]? =w.heap[j]? from B).trans N,cL⟩
   |some W=>
    rw[O]at B;have⟨_,D,G,M,_⟩:=B;exact⟨D,G,λb y=>M.blk y⟩
  have aN:=dA.lt_of_heap C;obtain⟨lb,lo,aM,rfl,F⟩:=am g hk;have⟨d,hd⟩:=ju (l[g]);rw[<-hd]at F;have aO:d<Z.length:=by grind [List.getElem_mem]
  refine eX g hk (cP F ?_);have hE:=Yt z c.length d;refine gQ 12 hE (JC (λx=>x=j\/z.heap.size<=x) n0 mk ms H A) (λa b h=>h.mf ad.p)<| .exact (i64 ((g:Int)+1)) (λf _=>cY ⟨rfl,hE.refl _⟩)<| .exact (.slice (uR (pr lb lo) (g+1) U) (l.length-(g+1)) (U-(g+1))) (λf _=>wG (g+1) cM aa ⟨rfl,hE.refl _⟩)<| .early rfl (λv f=>GN z.heap.size f v c) (λv a b h e=>h.pe e cM) (λf E=>?_) ?_;have aG:GL f T c:=an.keep E.e λb y=>iI (an.blk y);obtain⟨ba,bc,rfl,ab,aE⟩:=aG.row;exact cX (mV ab cM) λu w3 ⟨e3,hu⟩=>⟨(hu.low E.e.size).gn,e3.pe _ _ _⟩;refine .early rfl (λv f=>∃K,v=eT K 1 1/\z.heap.size<=K/\f.heap[K]? =some (.cells [Value.int .i64 d].toArray 3)) (λv a b ⟨K,h1,h2,h3⟩ e=>⟨K,h1,h2,?_⟩) (λf E=>er [i64 d] 3 λw3 K e3 ap y=>⟨⟨K,rfl,du E.e.size ap,y⟩,e3.pe _ _ _⟩) ?_;have⟨aH,G,M,L⟩:=e.r K _ h2 h3;rw[G];have:aH=[Value.int .i64 d].toArray:=by apply Ot;grind
  grind;refine .early rfl (λv f=>GN z.heap.size f v (c++[d])) (λv a b h e=>h.pe e cL) (λf E aq aI ae Q=>?_) ?_;obtain⟨K,rfl,ap,ar⟩:∃K,aq=eT K 1 1/\z.heap.size<=K/\f.heap[K]? =some (.cells [Value.int .i64 d].toArray 3):=aI;have Q:GN z.heap.size f ae c:=Q;refine Tu Q.1 E.e.size cM ar λv w3 G M L X=>⟨⟨G,λb y=>(M b y).elim (Q.2 b) id⟩,L.trans (dz.refl (λ_=>False) w3) (λx _ hx=>Q.2 x hx) cL,λx cs hx hc=>?_,.inr (.inl λx hx=>E.e.block x hx cM)⟩;by_cases au:cW ae x;obtain q|q:=X x cs au hc;grind;refine⟨_,q,dq,λaR=>?_⟩;grind [Nat.lt_or_ge,Array.getElem?_setIfInBounds_self_of_lt,Array.getElem?_eq_none,Array.getElem?_setIfInBounds_ne];exact⟨cs,L.fN hc au,rfl,cL⟩;refine .exact (i64 ((t+1:Nat)-1)) (λf _=>fI ⟨rfl,hE.refl _⟩) ?_;have⟨P,hP⟩:=ju (gR p t (l.drop (g+1)) (c++[d]))
  refine .spec (λv f=>v=.bool P.1/\z.heap.size<=f.heap.size/\match P.2 with
   |none=>f.heap[j]? =z.heap[j]?
   |some W=>c.length<=W.length/\∃s,fF f j #[s] 27/\GL f s W/\(∀b,cW s b->z.heap.size<=b)/\∃b,cW s b) (λv a b ⟨h1,h2,h3⟩ e=>⟨h1,du h2 e.e.size,?_⟩) (λf E af Y=>?_) ?_
  cases O:P.2 with
  |none=>
   rw[O]at h3;have h3:a.heap[j]? =z.heap[j]? :=h3;show b.heap[j]? =z.heap[j]?;rw[<-h3];exact e.e.block j cM cM
  |some W=>
   rw[O]at h3;have⟨G,s,M,L,X,b0,g5⟩:=h3;obtain he|he|he:=e.o;exact⟨G,s,he.at_ M,L.keep (he.keep λ_=>False) cL,X,b0,g5⟩;grind;grind
  have Y:GN z.heap.size f af (c++[d]):=Y;have M2:MF (λx=>x=j) n0 mk ms H A z f:=(E.mf ad.p).narrow λx hx hf=>hf.elim id λh=>cM;have aJ:=ad.mf M2;have aK:iJ (λb=>b=j) f (pr lb lo) l:=am.go cL λb W v y hc=>M2.cell y hc;have av:fF f j #[D] 27:=E.e.fN C cM;have ih:=Hz ah hn ai hf t (l.drop (g+1)) (c++[d]) _ (U-(g+1)) af D f aJ (aK.drop (g+1) aa) cL cL cL Y.1 cL cL av (λb y=>ew (ao b y) E.e.size);rw[<-hp,<-hP]at ih;have aw:(l.drop (g+1)).length=l.length-(g+1):=dq;rw[aw]at ih;rw[show((t+1:Nat):Int)-1=(t:Int) by simp];refine iM ih (λw' h=>.inr ⟨rfl,h⟩) ?_;rintro v w3 ⟨m3,rfl,R⟩;refine⟨⟨rfl,du E.e.size m3.size,?_⟩,m3.wide cL⟩;cases O:P.2 with
  |none=>
   rw[O]at R;have R:w3.heap[j]? =f.heap[j]? :=R;grind
  |some W=>
   rw[O]at R;have⟨G,s,M,L,X⟩:=R;simp only[lx,fa,fP]at G;have⟨b0,c0,_,q0,_⟩:=L.v cM;exact⟨cM,s,M,L,λb y=>(X b y).elim (Y.2 b) λh=>du E.e.size h,b0,by rw[q0];exact⟨_,_,rfl⟩⟩
  rintro f E aP ⟨rfl,aQ,hR⟩ af _ aq _ ae _;have M2:MF (λx=>x=j) n0 mk ms H A z f:=E.narrow cL;have ax:l.getD g 0=d:=cL;have ag:=ER p t l c g ac;rw[ax,<-hP]at ag;have ay:=aF _ _ _ m1 M2;have az:JP j w T c f (P.2.or (gm p t l c g).2):=by
   cases O:P.2 with
   |none=>
    rw[O]at hR;have hR:f.heap[j]? =z.heap[j]? :=hR;cases aA:(gm p t l c g).2 with
    |none=>
     rw[aA]at B;exact(show f.heap[j]? =w.heap[j]? from hR.trans B)
    |some W=>
     rw[aA]at B;have⟨G,s,M,L,X⟩:=B;exact⟨G,s,hR.trans M,L.mf M2 (L.ET C),X⟩
   |some W=>
    rw[O]at hR;have⟨G,s,M,L,X,_⟩:=hR;exact⟨G,s,M,L,λb y=>.inr (du s1 (X b y))⟩
  rw[<-show(gm p t l c (g+1)).2=P.2.or (gm p t l c g).2 by grind]at az;have S:(gm p t l c (g+1)).1=P.1:=cL;refine⟨λht=>?_,λaL=>?_⟩;have e:gR p (t+1) l c=gm p t l c (g+1):=ES p t l c cM (S.trans ht);exact .inl ⟨_,rfl,ay,by rw[e,S,ht];rfl,cL⟩;exact cY ⟨by trivial,S.trans aL,ay,az⟩;rintro z ⟨ac,m1,B⟩;exact .inl ⟨_,rfl,m1,by show _=Value.bool (gm p t l c l.length).1;rw[ac];rfl,B⟩
def mE.Tv{wp gp mk ms:Nat}{e:List Sx}(h:mE wp gp mk ms H e I w)(F:∀(b:Nat) (a:eH) (f:cR) (i:Nat×Nat),w.heap[b]? =some (Obj.cells a f i)->t.heap[b]? =some (Obj.cells a f i))(j:w.heap.size<=t.heap.size):mE wp gp mk ms H e I t:=by
 have cell:∀{c:Addr} {v:cK},w.cell? c=some v->t.cell? c=some v:=λ{c v} l=>by unfold World.cell? at l⊢;grind
 have⟨m,n,p,q,r,s⟩:=h.at_;have⟨u,x,y,⟨a,G,z,A⟩,B,C⟩:=h.g.at_;refine⟨⟨⟨u,x,y,⟨a,cL,z,A⟩,λk d=>?_,cell C⟩,h.g.ok,ew h.g.mlt j,ew h.g.slt j,h.g.ne,h.g.gk⟩,h.len,h.bf,m,n,cell p,cell q,cell r,λk d=>?_⟩;have⟨b,o,D,E,J,K⟩:=B k d;grind;have⟨b,o,D,E⟩:=s k d;grind
def iQ(p:cN->Bool)(l:cN)(k:Nat):Bool×cN:=(List.range k).foldl (λa m=>if a.1 then a else((gR p m l []).1,(gR p m l []).2.getD a.2)) (false,[])
def jb(p:cN->Bool)(l:cN):cN:=(iQ p l (l.length+1)).2
theorem n9(p:cN->Bool)(l:cN)(k:Nat):iQ p l (k+1)=if(iQ p l k).1 then iQ p l k else((gR p k l []).1,(gR p k l []).2.getD (iQ p l k).2):=by unfold iQ;rw[nq,qG];rfl
def EU(p:cN->Bool)(l:cN)(a:k<=m)(h:(iQ p l k).1=true):iQ p l m=iQ p l k:=by
 induction m with
 |zero=>grind
 |succ m b=>
  grind [Nat.lt_or_ge,n9]
def QD{wp gp mk ms n0:Nat}{f:List Sx}{s canv:Int}(h:mE wp gp mk ms H f s w)(hA:∀b,A b->b<w.heap.size)(hp:mc A mk ms H w)(aa:n0<=mk)(hn:n0<=ms)(ab:∀x∈f,vw 100000 x)(hf:m<=fl H):
 Calls V.prog 123 #[dj wp,.int .i64 m,.int .i64 canv] w (uF λv J=>MA n0 mk ms H A w J/\∃a c,v=.slice a (jb (mF H f m canv) (dJ H.tries f)).length c/\fJ J a (jb (mF H f m canv) (dJ H.tries f))/\(jb (mF H f m canv) (dJ H.tries f)).length<=c):=by
 have ac:=h.g.vL;have h5:=ac.many;have aj:=h.len;have ai:=uo H.tries f;refine jd Tryz.func123 Tryz.ntmps123 ?_;refine eJ λw1 wb e1 ak j=>eJ λw2 fb X al u=>eJ λw3 cb O am y=>eU λw4 B P an z=>?_;have j:fF w1 wb #[dj wp] 133:=j;have u:fF w2 fb #[i64 m] 3:=u;have y:fF w3 cb #[i64 canv] 3:=y;have z:fF w4 B #[fo] 27:=z;have l1:=dA.lt_of_heap j;have l2:=dA.lt_of_heap u;have l3:=dA.lt_of_heap y;have l4:=dA.lt_of_heap z;have s1:=e1.size;have s2:=X.size;have s3:=O.size;have E4:Ext w w4:=((e1.trans X).trans O).trans P;refine cP (cO ((X.trans (O.trans P)).at_ j) rfl) (cX (EC (h.ext E4)) ?_);rintro v Y ⟨N,Q⟩;obtain⟨oa,oc,rfl,_,ad⟩:=Q.row;have s4:=E4.size;have s5:=N.size;have ae:iJ (λb=>b=B) Y oa (dJ H.tries f):=by have⟨a,c,R,q2,_⟩:=Q.M4 (A:=λb=>b=B) λb i=>cM;injection R with R;rw[R];exact q2
 have Z:=E4.trans N;have⟨A',D⟩:=ju (λx=>A x\/x=B:Nat->Prop);have hB:LB wp gp mk ms n0 H f s m canv wb fb B cb A' Y:=by refine⟨h.ext Z,(hp.more (A':=A') λb i=>?_).ext Z,λb i=>?_,(X.trans (O.trans (P.trans N))).at_ j,(O.trans (P.trans N)).at_ u,(P.trans N).at_ y,λJ hc hs=>h.Tv (λb cs t fz i=>hc b cs t fz (iI (dA.lt_of_heap i)) (Z.at_ i)) cM,⟨cM,cM,cM⟩,by rw[D];exact .inr rfl⟩;rw[D]at i;exact i.imp id λe=>cM;rw[D]at i;obtain i|i:=i;have:=hA b i;omega;omega
 have⟨p,S⟩:=ju (mF H f m canv);rw[<-S];have T:∀{E:cJ} {F:cK} {l:cN},MF (λx=>x=B) n0 mk ms H A' Y E->GL E F l->MA n0 mk ms H A w E/\∃a c,F=.slice a l.length c/\fJ E a l/\l.length<=c:=λK hg=>by refine⟨⟨K.after (Z.iC n0) λx hx=>cM,λ_=>(K.m hB.a hB.p).fewer λb i=>by rw[D];exact .inl i⟩,?_⟩;have⟨a,c,R,q2,q3⟩:=hg.row;exact⟨a,c,R,q2,q3⟩
 refine dm (cY ?_);refine fu (n:=(dJ H.tries f).length+1) (λk=>[(3,dj wb),(4,dj fb),(5,dj cb),(7,dj B),(8,.slice oa (dJ H.tries f).length oc),(14,i64 ((dJ H.tries f).length+1:Nat)),(15,i64 k)]) (λk J=>(iQ p (dJ H.tries f) k).1=false/\MF (λx=>x=B) n0 mk ms H A' Y J/\∃F,fF J B #[F] 27/\GL J F (iQ p (dJ H.tries f) k).2) ⟨by trivial,rfl,(JC _ _ _ _ _ _).refl _,_,N.at_ z,.inl ⟨rfl,rfl⟩⟩ ?_ ?_ ?_;rintro k E hk hJ;exact dN ⟨rfl,rfl,by trivial,hJ⟩;rintro k E hk ⟨U,K,F,q,C⟩;have af:=hB.mf K;have ih:=Hz aa hn ab hf k (dJ H.tries f) [] oa oc fo F E af (ae.go (λ_ h=>.inl h) λb o v i hc=>K.cell i hc) ad cM (λd hd=>jm hd) (.inl ⟨rfl,rfl⟩) (λd hd=>by cases hd) rp q (λb i=>C.blk i);rw[<-S]at ih;refine iM ih (λJ h=>.inr ⟨rfl,h⟩) ?_;rintro v w7 ⟨m7,rfl,G⟩;have M7:=(JC (λx=>x=B) n0 mk ms H A').trans _ _ _ K m7;have r:=n9 p (dJ H.tries f) k;rw[U,cS dq]at r;have⟨I,L,W⟩:∃I,fF w7 B #[I] 27/\GL w7 I (iQ p (dJ H.tries f) (k+1)).2:=by
  rw[r];cases hq:(gR p k (dJ H.tries f) []).2 with
  |none=>
   rw[hq]at G;exact⟨F,(show w7.heap[B]? =E.heap[B]? from G).trans q,C.mf m7 (C.ET q)⟩
  |some o=>
   rw[hq]at G;have⟨_,ag,g1,g2,_⟩:=G;exact⟨ag,g1,g2⟩
 have M:(iQ p (dJ H.tries f) (k+1)).1=(gR p k (dJ H.tries f) []).1:=by rw[r]
 refine⟨λht=>?_,λah=>?_⟩;refine cP (cO L rfl) (.inl ⟨_,rfl,?_⟩);have e:jb p (dJ H.tries f)=(iQ p (dJ H.tries f) (k+1)).2:=by unfold jb;rw[EU p (dJ H.tries f) (show k+1<=(dJ H.tries f).length+1 by omega) (M.trans ht)]
 rw[e];exact T M7 W;exact cY ⟨by trivial,M.trans ah,M7,I,L,W⟩;rintro E ⟨U,K,F,q,C⟩;exact cP (cO q rfl) (.inl ⟨_,rfl,T K C⟩)
def LJ(D:eR)(ps:cN):Prop:=∀k (h:k<ps.length),ps[k]<(ek D k).length
def QE(D:eR):Sp->Prop
 |none=>True
 |some (l,_,_)=>∃ps:cN,l=ps.map Int.ofNat/\ps.length=D.opn.length/\LJ D ps
def HB(b x:Sp):lz b x=x\/lz b x=b:=by unfold lz;grind
theorem yH(D:eR):∀(n:Nat) (ps:cN) (L:Nat->Nat) (b:Sp),ps.length+n=D.opn.length->LJ D ps->QE D b->QE D (eI D n ps L b)
 |0,ps,L,b,j,a,e=>by simp only[eI];obtain h|h:=HB b (eV D L ps);rw[h];unfold eV;split;trivial;exact⟨ps,rfl,cM,a⟩;grind
 |n+1,ps,L,b,j,a,e=>by
  simp only[eI]
  have g:∀(d:cN) (b:Sp),(∀i∈d,i<(ek D ps.length).length)->QE D b->QE D (d.foldl (λb i=>eI D n (ps++[i]) (j7 (gi D ps.length) ((ek D ps.length).getD i []) L) b) b):=by
   intro d;induction d with
   |nil=>grind
   |cons i r l=>
    intro b f e;rw[jP];refine l _ cL (yH D n _ _ _ cL (λk o=>?_) e);obtain c|m:=gC k ps.length;rw[nm c];exact a k c;obtain rfl:k=ps.length:=cL;simp only[se (di _),lJ,nO];exact f i fW
  grind
def HD(D:eR):QE D (gO D):=yH D _ [] L0 none dq (λk a=>by simp at a) trivial
def pf(D:eR)(ps:cN):Nat->Nat->Nat
 |0=>L0
 |k+1=>j7 (gi D k) ((ek D k).getD (ps.getD k 0) []) (pf D ps k)
def vy(G:Gd)(L:Nat->Nat)(k:Nat):List (Nat×cN):=(List.range k).flatMap λs=>((fT G (L s)).getD []).map λl=>(s,l)
def A9(G:Gd)(D:eR):Option (List (Nat×cN)):=match gO D with
 |none=>none
 |some (l,_,_)=>some (vy G (pf D (l.map Int.toNat) l.length) 6)
theorem yI(G:Gd)(L:Nat->Nat)(k:Nat):vy G L (k+1)=vy G L k++((fT G (L k)).getD []).map λl=>(k,l):=by unfold vy;rw[nq,List.flatMap_append];simp
theorem Ba{G:Gd}{L:Nat->Nat}:∀k,(vy G L k).length<=5*k
 |0=>di _
 |k+1=>by
  rw[yI,lx,nP];have:=Ba (G:=G) (L:=L) k;have a:((fT G (L k)).getD []).length<=5:=by
   cases h:fT G (L k)with
   |none=>simp
   |some b=>exact o9 h
  omega
theorem Bb{s:Nat}{a:List cN}(h:fT H s=some a):∀l∈a,l.length<=5:=λl b=>by unfold fT at h;grind [Option.some.inj,Option.map_eq_some_iff,rP]
def uS:List (Nat×cN)->dP->dP
 |p::r,u::s=>.int .i64 p.1::u::uS r s
 |_,_=>[]
theorem wH(p:Nat×cN)(u:cK):∀(ps:List (Nat×cN)) (a:dP),a.length=ps.length->uS (ps++[p]) (a++[u])=uS ps a++[.int .i64 p.1,u]
 |[],[],_=>rfl
 |q::r,v::s,h=>by simp only[nM,uS];rw[wH p u r s cL]
theorem C9:∀(ps:List (Nat×cN)) (a:dP),a.length=ps.length->(uS ps a).length=2*ps.length
 |[],[],_=>rfl
 |q::r,v::s,h=>by simp only[uS,fa];rw[C9 r s cL];omega
theorem Da:∀(ps:List (Nat×cN)) (a:dP),a.length=ps.length->∀k (h:k<ps.length),(uS ps a)[2*k]? =some (.int .i64 ps[k].1)/\(uS ps a)[2*k+1]? =a[k]?
 |q::r,v::s,h,0,_=>⟨rfl,rfl⟩
 |q::r,v::s,h,k+1,b=>by have:=Da r s cL k cL;grind [List.getElem?_cons_succ,uS]
def nJ(n0:Nat)(w:cJ)(v:cK)(ps:List (Nat×cN)):Prop:=∃a:dP,a.length=ps.length/\dg n0 29 [.int .i64 0,.slice none 0 0] w v ps.length (uS ps a)/\∀k (h:k<ps.length),∃u,a[k]? =some u/\eO n0 w u ps[k].2
def xM(w:cJ)(a:dW)(ps:List (Nat×cN)):Prop:=∀k (h:k<ps.length),∃b o c d,a=some ⟨b,o,none⟩/\w.cell? ⟨b,o+k*2,none⟩=some (.int .i64 ps[k].1)/\w.cell? ⟨b,o+k*2+1,none⟩=some (.slice c ps[k].2.length d)/\fJ w c ps[k].2/\ps[k].2.length<=d
section
variable{n0:Nat}{w w':cJ}{v:cK}{ps:List (Nat×List Nat)}
theorem nJ.nil(n0:Nat)(w:cJ):nJ n0 w (.slice none 0 0) []:=⟨[],rfl,dg.nil _ _ _ _,cL⟩
theorem nJ.iC{m:Nat}(h:nJ n0 w v ps)(e:jL m w w'):nJ n0 w' v ps:=by have⟨a,b,c,d⟩:=h;refine⟨a,b,c.iC e,λk f=>?_⟩;have⟨u,g,i⟩:=d k f;exact⟨u,g,dg.iC i e⟩
theorem nJ.ext(h:nJ n0 w v ps)(e:Ext w w'):nJ n0 w' v ps:=h.iC (e.iC 0)
theorem nJ.low{a:Nat}(h:nJ n0 w v ps)(b:a<=n0):nJ a w v ps:=by have⟨c,d,e,f⟩:=h;exact⟨c,d,e.low b,λk g=>by have⟨u,i,j⟩:=f k g;exact⟨u,i,j.low b⟩⟩
theorem nJ.blk(h:nJ n0 w v ps){b:Nat}(a:cW v b):n0<=b/\b<w.heap.size:=by have⟨d,_,c,_⟩:=h;exact c.blk a
theorem nJ.row(h:nJ n0 w v ps):∃a c,v=.slice a ps.length c/\xM w a ps/\ps.length<=c:=by obtain⟨e,f,⟨r,⟨s,rfl⟩|⟨b,c,t,x,rfl,g,y,i,z,A,B⟩⟩,j⟩:=h;exact⟨none,0,cL,λk d=>cM,cM⟩;refine⟨_,c,rfl,λk d=>?_,i⟩;have⟨u,C,l⟩:=j k d;obtain⟨m,n,rfl,o,p⟩:=l.row;have⟨D,E⟩:=Da ps e f k d;have q:=C9 ps e f;refine⟨b,0,m,n,rfl,cO g ?_,cO g ?_,o,p⟩;grind;grind
theorem Tw{k:nu}{q:Array Bool}(h:nJ n0 w v ps)(m:n0<=w.heap.size){b c:Nat}{u:cK}{p:Nat×cN}(n:eO n0 w u p.2)(r:w.heap[b]? =some (.cells [Value.int .i64 p.1,u].toArray 29))(d:ps.length+1<=1000000) (s:∀e w',nJ n0 w' e (ps++[p])->(∀W,Ext W w->W.heap.size<=n0->Ext W w')->dz (cW v) w w'->(∀b,cW e b->cW v b\/w.heap.size<=b)->k e w'):zd V.prog (builtin .append #[26,26] T q #[v,.slice (some ⟨b,0,none⟩) 1 c]) w k:=by
 have⟨t,D,j,y⟩:=h;have f:u.oneCell'=true:=by obtain⟨a,c,rfl,_⟩:=eO.row n;rfl
 refine hH VA j m r d (λe w' E l z=>s e w' ⟨t++[u],cL,by grind [wH],λi F=>?_⟩ (λW A B=>A.iZ l j B) l z) rfl (by show sB [u]=true;simp[sB,f]);obtain g|C:=gC i ps.length;have⟨x,G,o⟩:=y i g;refine⟨x,cL,?_⟩;rw[nm g];exact dg.keep o l (iB o j cL);obtain rfl:i=ps.length:=cL;refine⟨u,cL,?_⟩;simp only[se (di _),lJ,nO];exact dg.keep n l (iB n j cL)
end
def Tx(a:Nat)(L:Nat->Nat)(w:cJ):Prop:=w.heap[a]? =some (.cells #[.int .u8 (L 0),.int .u8 (L 1),.int .u8 (L 2),.int .u8 (L 3),.int .u8 (L 4),.int .u8 (L 5)] 204)
def Tx.cell{a:Nat}{L:Nat->Nat}{w:cJ}(h:Tx a L w){s:Nat}(b:s<6):w.cell? ⟨a,s,none⟩=some (.int .u8 (L s)):=by have:s=0\/s=1\/s=2\/s=3\/s=4\/s=5:=cM;obtain rfl|rfl|rfl|rfl|rfl|rfl:=this<;>exact cO h rfl
def VS{w:cJ}{k:dC}{a:Nat}{L:Nat->Nat}(h:Tx a L w)(s v:Nat)(e:s<6)(b:∀w',dz (λx=>x=a) w w'->Tx a (Ji L s v) w'->k w'):Eo V.prog (Instr.storeAt 154 (.pointer (some ⟨a,0+s,none⟩)) (.int .u8 v)) w k:=by have:s=0\/s=1\/s=2\/s=3\/s=4\/s=5:=cM;obtain rfl|rfl|rfl|rfl|rfl|rfl:=this<;>exact dI h λw' c d=>b w' c (by unfold Tx;rw[d];rfl)
def Tz{k:nu}(L:Nat->Nat)(s:Nat)(a:s<6)(h:k (.int .u8 (L s)) w):jO V.prog (Instr.index 204 (.agg #[.int .u8 (L 0),.int .u8 (L 1),.int .u8 (L 2),.int .u8 (L 3),.int .u8 (L 4),.int .u8 (L 5)]) (.int .i64 s)) w k:=by have:s=0\/s=1\/s=2\/s=3\/s=4\/s=5:=cM;obtain rfl|rfl|rfl|rfl|rfl|rfl:=this;exact⟨_,w,Gw _ _ _ _ _ _ w,h⟩;exact⟨_,w,Gx _ _ _ _ _ _ w,h⟩;exact⟨_,w,Gy _ _ _ _ _ _ w,h⟩;exact⟨_,w,Gz _ _ _ _ _ _ w,h⟩;exact⟨_,w,GA _ _ _ _ _ _ w,h⟩;exact⟨_,w,GB _ _ _ _ _ _ w,h⟩
theorem Bc{D:eR}{ps:cN}(a:H.doors.length<=5)(b:∀d∈D.opn,d<H.doors.length):∀k,k<=D.opn.length->∀s,ky H (pf D ps k s)
 |0,_,s=>ky.zero H
 |k+1,e,s=>by have c:=Bc (ps:=ps) a b k cM s;simp only[pf,j7];split;exact c.oi (b _ (by unfold gi;grind)) a;grind
def M5.rows{o:Option (List cN)}(h:M5 A o x D w):∃a c,x=.slice a (o.getD []).length c/\l7 A w a (o.getD []):=by
 cases o with
 |none=>exact⟨none,0,h.1,λk b=>by simp at b⟩
 |some d=>
  have⟨_,a,c,e,f,_⟩:=h;grind
def Xf(a:Nat)(o:Option (List (Nat×cN)))(v:cK)(w:cJ):Prop:=match o with
 |none=>v=.tuple #[.slice none 0 0,.bool false]
 |some b=>∃u,v=.tuple #[u,.bool true]/\nJ a w u b
def TA{wp gp mk ms n0:Nat}{G:Gd}{xs:List Sx}(h:mE wp gp mk ms G xs I w)(hA:∀b,A b->b<w.heap.size)(hp:mc A mk ms G w)(ao:n0<=mk)(hn:n0<=ms)(aO:∀x∈xs,vw 100000 x)(hf:m<=fl G):
 Calls V.prog 117 #[dj wp,.int .i64 m] w (uF λv t=>MA n0 mk ms G A w t/\Xf w.heap.size (A9 G (ei G xs m)) v t):=by
 have ap:=h.g.vL;have h5:=ap.many;have aq:=h.len;refine jd Tryz.func117 Tryz.ntmps117 ?_;refine cX (A0 h hA hp ao hn aO hf) ?_;rintro v w1 ⟨m1,pb,rfl,hP⟩;have hN:∀b,Hq w.heap.size w1 b->b<w1.heap.size:=λb z=>by have⟨_,_,_,_,z⟩:=z;grind
 refine iM (Hx hP hN) (λt h=>.inr ⟨rfl,h⟩) ?_;rintro v w2 ⟨e2,y,rfl,T⟩;have hD:∀d∈(ei G xs m).opn,d<G.doors.length:=λd hd=>by rw[<-aq];exact jm hd
 have B:=Hm ap aq m;have ae:=HD (ei G xs m);unfold A9;have⟨D,aP⟩:=ju (ei G xs m);rw[<-aP]at hP T hD B ae⊢;have⟨ya,yl,yc,ym,yk,yb⟩:=y;refine eU λw3 sb e3 aQ ar=>dI ar λw4 k4 C=>?_;have C:fF w4 sb #[.slice ya yl yc,i64 ym,i64 yk,.bool yb] 199:=C;have au:Ext w2 w4:=e3.cT k4 aQ;have af:Ext w1 w4:=e2.trans au;have s2:=e2.size;have bl:=af.size;cases hq:gO D with
 |none=>
  rw[hq]at T;have T:(⟨ya,yl,yc,ym,yk,yb⟩:SV)=⟨none,0,0,0,0,false⟩:=T;injection T with _ _ _ _ _ T;subst T;exact cP (cO C rfl) (eK (ko rfl (.inl ⟨_,rfl,(wD n0 mk ms G A).trans _ _ _ m1 (af.ma _ _ _ _ _),rfl⟩)))
 |some s=>
  have⟨l,mm,nn⟩:=s;rw[hq]at T ae;obtain⟨r,rfl,bm,aR⟩:=ae;have⟨y1,y2,y3,y4,y5⟩:=T;simp only at y1 y2 y3 y4 y5;subst y3;have y4:yl=r.length:=cL;subst y4;have aS:∀i (hi:i<r.length),∃b,ya=some (dt b 0)/\w1.heap.size<=b/\w2.cell? (dt b i)=some (i64 r[i]):=λi hi=>by obtain⟨h0,_⟩|⟨_,b,g1,g2,g3,_,fz,_,g4⟩:=y5;grind;refine⟨b,g2,g1,?_⟩;simp only[World.cell?,g4];grind [ii]
  clear y5;refine cP (cO C rfl) (eK (kZ rfl (eU λw5 J e5 bn aa=>?_)));have aT:Tx J L0 w5:=aa;have av:=af.trans e5;have aU:=au.trans e5;have bo:=dA.lt_of_heap aa;have aV:fZ (Hq w.heap.size w1) pb D w5:=hP.same λb z=>av.block b (hN b z);have⟨wk,u1,u2,fz,_,ab,aW,aw⟩:=aV.at_;have E:∀{b:Nat},Hq w.heap.size w1 b->¬b=J:=cL;have c1:∀{t},dz (λx=>x=J) w5 t->t.cell? (dt pb 1)=some u1:=λk=>k.fe (by simp only[World.cell?,ab];rfl) (E hP.lt);have c2:∀{t},dz (λx=>x=J) w5 t->t.cell? (dt pb 2)=some u2:=λk=>k.fe (by simp only[World.cell?,ab];rfl) (E hP.lt);have bp:=dA.lt_of_heap C;refine cP (cO (e5.at_ C) rfl) (dm ?_);refine fu (n:=r.length) (λi=>[(0,dj wp),(6,dj pb),(8,dj J),(29,.slice ya r.length yc),(30,i64 r.length),(31,i64 i)]) (λi t=>dz (λx=>x=J) w5 t/\Tx J (pf D r i) t) ⟨by trivial,dz.refl _ _,aT⟩ ?_ ?_ ?_;rintro i w6 hi hJ;exact dN ⟨rfl,rfl,by trivial,hJ⟩;rintro i w6 hi ⟨k6,ag⟩;have bq:i<5:=iI B.five;obtain⟨ah,rfl,bi,ax⟩:=aS i hi;have ay:w6.cell? (dt ah i)=some (i64 r[i]):=k6.fe (aU.cell ax) (λ(e:ah=J)=>by have:=oX ax;grind);have⟨n,aX⟩:=ju (r[i]);have F:=aR i hi;rw[<-aX]at ay F;refine eX i hi (cP (by rw[dn];omega) ?_);have U:i<D.lists.length:=by rw[B.len];omega
  have az:i<D.opn.length:=cM;have⟨b2,br,ui,aY,aA,aZ,a0⟩:=aw.at_ i U;have a1:ek D i=D.lists[i]:=by unfold ek;grind
  rw[a1]at F;have⟨b3,bs,bt,a2,aB,a3,K⟩:=a0.at_ n F;have⟨a4,a5,ai⟩:=K.len;have⟨f,M⟩:=ju (D.lists[i][n]);rw[<-M]at K ai;have bj:∀s∈f,s<6:=by rw[M];exact B.shift _ (eG U) _ (eG F)
  have aC:f.length<=65536:=by rw[M];exact B.long _ (eG U) _ (eG F)
  refine cP (c2 k6) ?_;rw[aY];refine eX i U (cP (by rw[dn];exact k6.fe aZ (E aA)) ?_);rw[a2];refine eX n F (cP (by rw[dn];exact k6.fe a3 (E aB)) ?_);rw[ai];have N:pf D r (i+1)=j7 (gi D i) f (pf D r i):=by grind [getD_eq,pf]
  have⟨d,hd⟩:=ju (gi D i);have a6:d=D.opn[i]:=by grind [getD_eq,gi]
  have aD:d<5:=by grind [List.getElem_mem]
  rw[<-hd]at N;have⟨b4,bu,ud,a7,aE,a8,aj⟩:=aW.at_ i az;have aj:ud=i64 d:=by rw[a6];exact aj
  subst aj;have aF:∀s,s<6->pf D r i s<32:=λs _=>(Bc h5 hD i cM s).1;refine dm<|fu (n:=f.length) (λj=>[(0,dj wp),(6,dj pb),(8,dj J),(9,i64 i),(29,eT ah r.length yc),(30,i64 r.length),(31,i64 i),(45,.slice a4 f.length a5),(46,i64 f.length),(47,i64 j)]) (λj t=>dz (λx=>x=J) w5 t/\Tx J (j7 d (f.take j) (pf D r i)) t) ⟨by trivial,k6,?_⟩ ?_ ?_ ?_;have:j7 d (f.take 0) (pf D r i)=pf D r i:=by grind [j7]
  grind;rintro j w7 W hJ;exact dN ⟨rfl,rfl,by trivial,hJ⟩;rintro j w7 W ⟨k7,O⟩;have⟨b5,bv,us,X,aG,a9,al⟩:=K.at_ j W;have⟨s,hs⟩:=ju (f[j]);have al:us=i64 s:=by rw[hs];exact al
  subst al;have P:s<6:=by grind [List.getElem_mem]
  rw[ai]at X;injection X with X _ bw;subst X;refine eX j W (cP (by rw[dn];exact k7.fe a9 (E aG)) ?_);have aH:j7 d (f.take j) (pf D r i) s<32:=Em aD aF s P;refine dE dD (rK s 6 P (dl (by rw[dn];exact O.cell P) (dl (c1 k7) ?_)));rw[a7];refine gl i az (dl (by rw[dn];exact k7.fe a8 (E aE)) (iY dD _ (λw8 e8=>zA _ d w8 aH aD) (rK s 6 P λw8 e8=>?_)));have ba:Tx J (j7 d (f.take j) (pf D r i)) w8:=e8.at_ O;refine VS ba s _ P λw9 k9 bx=>cY ⟨by trivial,(k7.trans (e8.keep λ_=>False) (λ_ _ h=>h) cL).trans k9 cL cL,?_⟩;grind [CL];rintro w7 ⟨k7,O⟩;rw[j5,<-N]at O;exact cY ⟨by trivial,k7,O⟩;rintro w6 ⟨k6,ag⟩;have aC:(List.map Int.ofNat r).length=r.length:=dq;have aI:(List.map Int.ofNat r).map Int.toNat=r:=by simp[zK]
  simp only[aC,aI];have⟨q,aJ⟩:=ju (pf D r r.length);rw[<-aJ]at ag⊢;have bc:∀s,ky G (q s):=λs=>by rw[aJ];exact Bc h5 hD _ cM s
  have bd:Ext w1 w6:=av.cT k6 cM;have m6:MA n0 mk ms G A w w6:=(wD n0 mk ms G A).trans _ _ _ m1 (bd.ma _ _ _ _ _);refine ez (vs:=[.int .u8 (q 0),.int .u8 (q 1),.int .u8 (q 2),.int .u8 (q 3),.int .u8 (q 4),.int .u8 (q 5)]) (λj v W=>by rw[dn];exact cO ag cL) ?_;have be:∀b,¬cW fo b:=λb z=>by have⟨_,_,z⟩:=z;grind
  refine jK (n:=6) (λk v=>[(0,dj wp),(13,v),(66,.agg #[.int .u8 (q 0),.int .u8 (q 1),.int .u8 (q 2),.int .u8 (q 3),.int .u8 (q 4),.int .u8 (q 5)]),(67,i64 k)]) (λk v t=>jL n0 w t/\mc (λx=>A x\/cW v x) mk ms G t/\nJ w.heap.size t v (vy G q k)) (fo) ⟨by trivial,m6.1,(m6.2 hp).more cL,nJ.nil _ _⟩ ?_ ?_ ?_;rintro k v w7 hk hJ;exact dN ⟨rfl,rfl,by trivial,hJ⟩;rintro k v w7 hk ⟨m7,Y,Z⟩;have h7:=h.iC m7;have s7:=m7.size;have⟨sa,sc,g1,g2,g3,g4⟩:=h7.at_;refine Tz q k hk (cP g1 (cX (AU h7.g (λb z=>z.elim cL λz=>(Z.blk z).2) Y ao hn (bc k)) ?_));rintro v8 w8 ⟨m8,u,b,rfl,bf⟩;have M8:=m7.trans m8.1;obtain⟨a,c,rfl,ac⟩:=bf.rows;have⟨H,aK⟩:=ju ((fT G (q k)).getD []);rw[<-aK]at ac⊢;have bk:H.length<=5/\∀l∈H,l.length<=5:=by
   rw[aK];cases hw:fT G (q k)with
   |none=>simp
   |some bz=>exact⟨o9 hw,Bb hw⟩
  have bA:=Ba (G:=G) (L:=q) k;refine dm (jK (n:=H.length) (λj v=>[(0,dj wp),(13,v),(14,i64 k),(66,.agg #[.int .u8 (q 0),.int .u8 (q 1),.int .u8 (q 2),.int .u8 (q 3),.int .u8 (q 4),.int .u8 (q 5)]),(67,i64 k),(80,.slice a H.length c),(81,i64 H.length),(82,i64 j)]) (λj v t=>jL n0 w t/\mc (λx=>A x\/cW v x) mk ms G t/\nJ w.heap.size t v (vy G q k++(H.take j).map λl=>(k,l))/\l7 (λx=>A x\/cW v x) t a H) v ⟨by trivial,M8,m8.2 Y,fB (Z.iC m8.1),ac⟩ ?_ ?_ ?_);rintro j v w9 W hJ;exact dN ⟨rfl,rfl,by trivial,hJ⟩;rintro j v w9 W ⟨m9,am,an,aL⟩;obtain⟨bb,oo,a',c',_,rfl,hc,bg,_⟩:=aL j W;refine eX j W (cP hc (cX (mV bg.n cL) λu bB hu=>?_));have⟨Q,hu⟩:=hu;obtain⟨ua,uc,rfl,_,_⟩:=hu.row;have s9:=m9.size;have bC:=Q.size;refine eC (.agg #[i64 k,.slice ua H[j].length uc]) (er [i64 k,.slice ua H[j].length uc] 29 λaM nb R bD z=>?_);have bh:jL n0 w aM:=m9.trans ((Q.trans R).iC n0);have ad:=(an.ext Q).ext R;have S:=(am.ext Q).ext R;have aN:l7 (λx=>A x\/cW v x) aM (pr bb oo) H:=aL.iC (n0:=0) ((Q.trans R).iC 0);refine Tw (p:=(k,H[j])) ad cL (dg.ext (hu.low cM) R) z rp λv' bE g1 g2 g3 g4=>cY ⟨v',by trivial,?_,?_,?_,?_⟩;have⟨us,_,q2,_⟩:=ad;exact bh.iZ g3 q2 (di _);exact S.go cL (λb o v z hc=>g3.fe hc cL) λb o z ho=>g3.fN ho λhf=>by obtain rfl|rfl:=z;exact S.ak (.inr hf);exact S.asm (.inr hf)
  rw[iT W,qH,<-List.append_assoc];grind;exact aN.go cL λb o v z hc=>g3.fe hc cL;rintro v w9 ⟨m9,am,an,_⟩;rw[j5]at an;refine cY ⟨v,by trivial,m9,am,?_⟩;grind [yI];rintro v w7 ⟨m7,Y,Z⟩;exact .inl ⟨_,rfl,⟨m7,λ_=>Y.fewer cL⟩,_,rfl,Z⟩
def pg{b:Type}(a:b->Nat)(es:List b):Nat->List b
 |0=>es
 |j+1=>match es[j+1]?,es[j]? with
  |some x,some y=>if a x<a y then pg a ((es.set (j+1) y).set j x) j else es
  |_,_=>es
def mX{b:Type}(a:b->Nat)(es:List b):Nat->List b
 |0=>es
 |k+1=>pg a (mX a es k) (k+1)
def qY{a:Type}(b:a->Nat)(es:List a):List a:=mX b es (es.length-1)
theorem Db{b:Type}(a:b->Nat):∀(j:Nat) (es:List b),(pg a es j).length=es.length
 |0,es=>rfl
 |j+1,es=>by simp only[pg];split;split;rw[Db a j];simp;rfl;rfl
theorem rS{b:Type}(a:b->Nat)(es:List b):∀k,(mX a es k).length=es.length
 |0=>rfl
 |k+1=>by simp only[mX];rw[Db,rS a es k]
theorem Dc{d:Type}(c:d->Nat):∀(j:Nat) (es:List d) (x:d),x∈pg c es j->x∈es
 |0,es,x,h=>h
 |j+1,es,x,h=>by simp only[pg]at h;split at h;rename_i a b e f;split at h;have:=Dc c j _ x h;obtain h|rfl:=vR this;obtain h|rfl:=vR h;exact h;exact pz f;exact pz e;exact h;exact h
theorem vz{b:Type}(a:b->Nat)(es:List b):∀(k:Nat) (x:b),x∈mX a es k->x∈es
 |0,x,h=>h
 |k+1,x,h=>vz a es k x (Dc a _ _ x h)
theorem Dd{c d:Type}(b:c->Nat)(a:d->Nat)(f:c->d)(e:∀x,a (f x)=b x):∀(j:Nat) (es:List c),pg a (es.map f) j=(pg b es j).map f
 |0,es=>rfl
 |j+1,es=>by
  simp only[pg,yf];cases g:es[j+1]? with
  |none=>rfl
  |some x=>
   cases h:es[j]? with
   |none=>rfl
   |some y=>
    simp only[mg,e];split;rw[<-Dd b a f e j];simp;rfl
theorem Bd{c d:Type}(b:c->Nat)(a:d->Nat)(f:c->d)(e:∀x,a (f x)=b x)(es:List c):∀k,mX a (es.map f) k=(mX b es k).map f
 |0=>rfl
 |k+1=>by simp only[mX];rw[Bd b a f e es k,Dd b a f e]
def NB{c d:Type}(b:c->Nat)(a:d->Nat)(f:c->d)(e:∀x,a (f x)=b x)(es:List c):qY a (es.map f)=(qY b es).map f:=by unfold qY;rw[nP,Bd b a f e]
structure El where
 s:Nat
 a:Option Addr
 c:Nat
 l:List Nat
def xN(e:El):dP:=[.int .i64 e.s,.slice e.a e.l.length e.c]
structure qZ(sb:Nat)(es:List El)(w:cJ):Prop where
 out:∃cs,w.heap[sb]? =some (.cells cs 29)/\es.length*2<=cs.size/\∀k (h:k<es.length) j v,(xN es[k])[j]? =some v->cs[k*2+j]? =some v
section
variable{w:cJ}{sb:Nat}{es:List El}
def qZ.ext{a:cJ}(h:qZ sb es w)(e:Ext w a):qZ sb es a:=by have⟨b,c,d⟩:=h.out;exact⟨b,e.at_ c,d⟩
def qZ.keep{a:cJ}{F:dp}(h:qZ sb es w)(k:dz F w a)(b:¬F sb):qZ sb es a:=by have⟨c,d,e⟩:=h.out;exact⟨c,k.fN d b,e⟩
def qZ.cell(h:qZ sb es w)(k:Nat)(a:k<es.length):∀j v,(xN es[k])[j]? =some v->w.cell? ⟨sb,0+k*2+j,none⟩=some v:=λj v b=>by have⟨e,c,f,d⟩:=h.out;exact cO c (by rw[dn];exact d k a j v b)
def UU{s:dC}(h:qZ sb es w)(k:Nat)(z:k<es.length)(e:El)(n:∀a,dz (λx=>x=sb) w a->qZ sb (es.set k e) a->s a):Eo V.prog (Instr.storeAt 29 (.pointer (some ⟨sb,0+k*2,none⟩)) (.agg (xN e).toArray)) w s:=by
 have⟨o,p,q,r⟩:=h.out;have A:k*2+2<=o.size:=by have:=sK 2 (show k+1<=es.length by omega);omega
 refine jw p (by show 0+k*2+2<=_;omega) (λa t c=>n a t ⟨_,c,by rw[pM];simpa using q,λi v j u b=>?_⟩) (gJ (l:=xN e) rfl);have y:j<2:=(nk.1 b).1;rw[oT _ _ _ _ (by show 0+k*2+2<=_;omega)];have d:(Value.agg (xN e).toArray).cells.toList=xN e:=rfl;rw[d];have f:(xN e).length=2:=rfl;rw[f];have g:i<es.length:=fB v;by_cases m:i=k;subst m;rw[List.getElem_set_self]at b;rw[cV cM,show i*2+j-(0+i*2)=j by omega];exact b;rw[List.getElem_set_ne cM]at b;rw[cS cM];exact r i g j u b
end
def TB(s t:Nat)(a b:dW)(l g c h:Nat)(w:cJ)(r:s<=1000000)(u:t<=1000000):Calls V.prog 157 #[.agg #[.int .i64 s,.slice a l c],.agg #[.int .i64 t,.slice b g h]] w (fO λv k=>v=.int .i64 ((s:Int)-t)/\Ext w k):=by refine jd Tryz.func157 Tryz.ntmps157 ?_;refine eJ λm n o p e=>eJ λq f i j d=>?_;have e:fF m n #[i64 s,.slice a l c] 29:=e;have d:fF q f #[i64 t,.slice b g h] 29:=d;exact cP (cO (i.at_ e) rfl) (cP (cO d rfl) (fI ⟨_,rfl,rfl,o.trans i⟩))
def JQ:cK:=.func (.func 157) #[] #[]
def De{f c:Nat}{g:List El}(h:qZ f g w)(hn:0<g.length)(aa:g.length<=1000)(hs:∀e∈g,e.s<=1000000):
 Calls V.prog 200 #[.slice (some ⟨f,0,none⟩) g.length c,.int .i64 0,.int .i64 g.length,JQ] w (fO λv A=>dz (λx=>x=f) w A/\qZ f (qY El.s g) A):=by
 refine jd Tryz.func200 Tryz.ntmps200 ?_;refine cY<|fc (g.length-1) (λk (_:Unit)=>[(0,eT f g.length c),(1,i64 0),(2,i64 g.length),(3,JQ),(8,i64 (k+1:Nat))]) (λk _ A=>dz (λx=>x=f) w A/\qZ f (mX El.s g k) A) () ⟨by trivial,dz.refl _ _,h⟩ ?_;rintro k _ w1 hk ⟨k1,R⟩;have L:(mX El.s g k).length=g.length:=rS _ _ _;refine dN ⟨λM=>?_,λB=>?_⟩;have M:k+1<g.length:=by have:=fx M;omega
 have⟨r,u⟩:=ju (mX El.s g k);have C:∀x∈r,x.s<=1000000:=λx K=>hs x (by rw[u]at K;exact vz _ _ _ _ K);rw[<-u]at R L;refine fc (k+1) (λt (d:List El)=>[(0,eT f g.length c),(1,i64 0),(2,i64 g.length),(3,JQ),(8,i64 (k+1:Nat)),(9,i64 (k+1-t:Nat))]) (λt d A=>dz (λx=>x=f) w A/\qZ f d A/\d.length=g.length/\(∀x∈d,x.s<=1000000)/\pg El.s d (k+1-t)=pg El.s r (k+1)) r ⟨by trivial,k1,R,L,C,rfl⟩ ?_;rintro t d w2 ht ⟨k2,Q,S,D,E⟩;have⟨j,hj⟩:=ju (k+1-t);rw[<-hj]at E⊢;have stop:∀o,Ext w2 o->pg El.s d j=d->dz (λx=>x=f) w o/\qZ f (mX El.s g (k+1)) o:=λo n T=>by refine⟨k2.trans (n.keep λ_=>False) (λ_ _ h=>h) λ_ _ h=>h.elim,?_⟩;simp only[mX];rw[<-u,<-E,T];exact Q.ext n
 refine dE dD (AG ⟨λp=>?_,λp=>?_⟩);have p:0<j:=by have:=fx p;omega
 obtain⟨i,rfl⟩:∃i,j=i+1:=⟨j-1,cM⟩;have F:i+1<d.length:=cM;have G:i<d.length:=cM;have⟨x,K⟩:=ju (d[i+1]);have⟨y,U⟩:=ju (d[i]);have W:=Q.cell (i+1) F;have X:=Q.cell i G;rw[<-K]at W;rw[<-U]at X;have N:x.s<=1000000:=D x (by rw[K];exact eG _);have O:y.s<=1000000:=D y (by rw[U];exact eG _);have l:pg El.s d (i+1)=if x.s<y.s then pg El.s ((d.set (i+1) y).set i x) i else d:=by simp only[pg];rw[ft F,ft G,<-K,<-U]
 refine jx (i+1) 2 cM (dx (.agg (xN x).toArray) (λo n=>ez (vs:=xN x) (λm v H=>n.cell (W m v H)) fL) (vo (jx i 2 cM (dx (.agg (xN y).toArray) (λo n=>ez (vs:=xN y) (λm v H=>n.cell (X m v H)) fL) (il (i64 ((x.s:Int)-y.s)) (λo n=>TB x.s y.s _ _ _ _ _ _ o N O) (G4 λo n=>⟨λI=>?_,λI=>?_⟩))) cM)));have I:x.s<y.s:=by have:=fx I;omega
 rw[cV I]at l;have h3:=Q.ext n;have k3:dz (λx=>x=f) w o:=k2.trans (n.keep λ_=>False) (λ_ _ h=>h) λ_ _ h=>h.elim;refine gQ 15 dD (ij (λx=>x=f)) (λa b h=>h.keep _)<| .exact (i64 ((i+1:Nat)-1)) (λq _=>fI fL) (.exact (i64 ((i+1:Nat)-1)) (λq _=>fI fL) (.exact (oz f (0+i*2)) (λq _=>fH i 2 cM fL cM) ?_));refine .Et rfl (.agg (xN y).toArray) (λq J=>ez (vs:=xN y) (λm v H=>J.cell (n.cell (X m v H))) fL) (.exact (oz f (0+(i+1)*2)) (λq _=>fH (i+1) 2 cM fL) (.Et rfl (.agg (xN x).toArray) (λq J=>ez (vs:=xN x) (λm v H=>J.cell (n.cell (W m v H))) fL) (.exact (oz f (0+(i+1)*2)) (λq _=>fH (i+1) 2 cM fL) ?_)));refine .yw (λ_ q=>qZ f (d.set (i+1) y) q) (λ_ a b h e=>h.ext e) (λq J=>UU (h3.ext J) (i+1) F y λw5 Y Z=>⟨Z,Y⟩)<| .exact (oz f (0+i*2)) (λq _=>fH i 2 cM fL cM) ?_;intro q J hJ;have hJ:qZ f (d.set (i+1) y) q:=hJ;refine UU hJ i (fB G) x λw5 Y Z=>fI ⟨cM,(d.set (i+1) y).set i x,⟨rfl,rfl,rfl,rfl,rfl,?_,trivial⟩,(k3.trans J (λ_ _ h=>h) λ_ _ h=>h).trans Y (λ_ _ h=>h) λ_ _ h=>h,Z,fB S,λz P=>?_,?_⟩;show some (Value.int .i64 (((i+1:Nat):Int)-1))=some (i64 ((k+1-(t+1):Nat)));rw[show((i+1:Nat):Int)-1=((k+1-(t+1):Nat):Int) by omega];obtain P|rfl:=vR P;obtain P|rfl:=vR P;exact D z P;exact O;exact N;rw[show k+1-(t+1)=i by omega,<-l,E];have I:¬x.s<y.s:=by have:=ie I;omega
 rw[cS I]at l;exact cY ⟨cM,(),by trivial,stop o n l⟩;have p:j=0:=by have:=ie p;omega
 subst p;exactλo n=>kZ rfl (cY ⟨cM,(),by trivial,stop o n rfl⟩);have B:k=g.length-1:=by have:=ie B;omega
 subst B;exact⟨_,rfl,k1,R⟩
def vA(e:Nat)(w:cJ)(v:cK)(b:List El):Prop:=(b=[]/\∃a c,v=.slice a 0 c)\/∃d c,e<=d/\v=.slice (some ⟨d,0,none⟩) b.length c/\qZ d b w
def tG(v:cK)(a:Nat)(w:cJ)(c:a<=1000):Calls V.prog 200 #[v,.int .i64 a,.int .i64 a,JQ] w (fO λv b=>b=w):=by refine jd Tryz.func200 Tryz.ntmps200 ?_;refine cY<|fc 0 (λk (_:Unit)=>[(2,i64 a),(8,i64 ((a:Int)+1))]) (λk _ b=>b=w) () ⟨by trivial,rfl⟩ ?_;rintro k _ b d rfl;exact dN (kZ cL ⟨_,rfl,rfl⟩)
def JR{d:List El}(h:vA m w x d)(A:d.length<=20)(B:∀e∈d,e.s<=1000000):
 Calls V.prog 184 #[x,.int .i64 d.length,JQ] w (fO λ_ b=>dz (λj=>m<=j) w b/\vA m b x (qY El.s d)):=by
 refine jd Tryz.func184 Tryz.ntmps184 ?_;have n:(qY El.s d).length=d.length:=rS _ _ _;refine fc 1 (λk (_:Unit)=>[(0,x),(1,i64 d.length),(2,JQ),(6,i64 20),(7,i64 (20*k:Nat)),(8,i64 (20*k+20:Nat))]) (λk _ b=>dz (λj=>m<=j) w b/\(k=0->vA m b x d)/\(k=1->d.length=20/\vA m b x (qY El.s d))) () ⟨by trivial,dz.refl _ _,cL,cL⟩ ?_;rintro k _ q p ⟨o,C,r⟩;refine oP ⟨λg=>?_,λg=>?_⟩;have g:20*k+20<=d.length:=by grind
 obtain rfl:k=0:=cM;obtain⟨rfl,_⟩|⟨t,c,u,rfl,v⟩:=C rfl;simp at g;have i:d.length=20:=cM;have D:=De (c:=c) v cM cM B;rw[i]at D⊢;refine cX D ?_;rintro _ f ⟨y,z⟩;refine cY ⟨dq,(),by trivial,o.trans y cL cL,cL,λ_=>⟨rfl,.inr ⟨t,c,u,by rw[n,i],z⟩⟩⟩;have g:¬20*k+20<=d.length:=by grind
 have E:∀{Q:QW} {F:L} {f:cJ},dz (λj=>m<=j) w f/\vA m f x (qY El.s d)->(∀l b,dz (λj=>m<=j) w b/\vA m b x (qY El.s d)->Q .normal l b)->True:=cL;obtain rfl|rfl:k=0\/k=1:=cM;obtain⟨rfl,a,c,rfl⟩|⟨t,c,u,rfl,v⟩:=C rfl;refine cX (tG _ 0 q dq) ?_;rintro _ f rfl;refine fc 0 (λk (_:Unit)=>[(1,i64 0),(6,i64 20)]) (λk _ b=>b=f) () ⟨by trivial,rfl⟩ ?_;rintro k _ b p rfl;exact dN (kZ rfl ⟨_,rfl,o,.inl ⟨rfl,a,c,rfl⟩⟩);obtain i|i:=nt d.length;obtain rfl:=oy i;refine cX (tG _ 0 q dq) ?_;rintro _ f rfl;refine fc 0 (λk (_:Unit)=>[(1,i64 0),(6,i64 20)]) (λk _ b=>b=f) () ⟨by trivial,rfl⟩ ?_;rintro k _ b p rfl;exact dN (kZ rfl ⟨_,rfl,o,.inl ⟨rfl,_,c,rfl⟩⟩);refine cX (De (c:=c) v i cM B) ?_;rintro _ f ⟨y,z⟩;refine fc 0 (λk (_:Unit)=>[(1,i64 d.length),(6,i64 20)]) (λk _ b=>b=f) () ⟨by trivial,rfl⟩ ?_;rintro k _ b p rfl;exact dN (kZ cL ⟨_,rfl,o.trans y cL cL,.inr ⟨t,c,u,by rw[n],z⟩⟩);have⟨i,r⟩:=r rfl;rw[i];refine cX (tG _ 20 q dq) ?_;rintro _ f rfl;refine fc 0 (λk (_:Unit)=>[(1,i64 20),(6,i64 20)]) (λk _ b=>b=f) () ⟨by trivial,rfl⟩ ?_;rintro k _ b p rfl;exact dN (kZ rfl ⟨_,rfl,o,r⟩)
def vA.v_{b:List El}(h:vA m w x b):∃a c,x=.slice a b.length c:=by obtain⟨rfl,a,c,rfl⟩|⟨d,c,_,rfl,_⟩:=h;simp;grind
def QF{d:List El}(h:vA m w x d)(b:d.length<=20)(g:∀e∈d,e.s<=1000000):
 Calls V.prog 156 #[x,JQ] w (fO λ_ f=>dz (λi=>m<=i) w f/\vA m f x (qY El.s d)):=by
 obtain⟨a,c,rfl⟩:=h.v_;refine jd Tryz.func156 Tryz.ntmps156 ?_;refine dm (cX (JR h b g) ?_);rintro _ k j;exact⟨_,rfl,j⟩
def Zg(x:Sx):cK:=.agg (nI x).toArray
def JS{wp gp mk ms wb:Nat}{e:List Sx}(h:mE wp gp mk ms H e I w)(f:w.heap[wb]? =some (.cells #[dj wp] 133))(x:Sx):Calls V.prog 160 #[Zg x,dj wb] w (fO λv i=>v=.bool (!gY H.tries x)/\Ext w i):=by have⟨o,p,k,q,r,s⟩:=h.at_;refine jd Tryz.func160 Tryz.ntmps160 ?_;refine eJ λl m c n a=>?_;have a:l.heap[m]? =some (.cells (nI x).toArray 166):=a;refine dE dD (dl (cO (c.at_ f) rfl) (dl (c.cell k) (dx (Zg x) (λd b=>ez (vs:=nI x) (λj v t=>by rw[dn];exact cO (b.at_ a) cL) fL) (il (.bool (gY H.tries x)) (λd b=>zB (h.g.ext (c.trans b)) x) (mQ λd b=>⟨_,rfl,rfl,c.trans b⟩)))))
def rT(p:Sx->Bool):List Sx->Nat->Int
 |[],_=> -1
 |y::r,i=>if p y then i else rT p r (i+1)
def HE(p:Sx->Bool)(l:List Sx)(k:Nat)(a:k<l.length):rT p (l.drop k) k=if p l[k]then(k:Int)else rT p (l.drop (k+1)) (k+1):=by rw[nN a];rfl
theorem Be(p:Sx->Bool):∀(l:List Sx) (i:Nat),decide (0<=rT p l i)=l.any p
 |[],_=>rfl
 |y::r,i=>by simp only[rT,List.any_cons];by_cases h:p y=true;grind;have h:p y=false:=cL;simpa[h]using Be p r (i+1)
def NC{wp gp mk ms wb:Nat}{q:List Sx}(h:mE wp gp mk ms H q I w)(r:w.heap[wb]? =some (.cells #[dj wp] 133)){d:List Sx}{c:Nat}(s:vq w a d)(m:d.length<=100000):
 Calls V.prog 159 #[.slice a d.length c,.func (.func 160) #[] #[dj wb]] w (fO λv g=>v=.bool (d.any λx=>!gY H.tries x)/\Ext w g):=by
 have i:Calls V.prog 185 #[.slice a d.length c,.func (.func 160) #[] #[dj wb]] w (fO λv g=>v=i64 (rT (λx=>!gY H.tries x) d 0)/\Ext w g):=by refine jd Tryz.func185 Tryz.ntmps185 ?_;refine dm (fu (n:=d.length) (λk=>[(0,.slice a d.length c),(1,.func (.func 160) #[] #[dj wb]),(7,i64 d.length),(8,i64 k)]) (λk g=>Ext w g/\rT (λx=>!gY H.tries x) d 0=rT (λx=>!gY H.tries x) (d.drop k) k) ⟨by trivial,Ext.refl _,rfl⟩ ?_ ?_ ?_);rintro k l j t;exact dN ⟨rfl,rfl,by trivial,t⟩;rintro k l j ⟨e,f⟩;obtain⟨b,o,rfl,u⟩:=(s.ext e) k j;rw[HE _ _ _ j]at f;refine fH k 8 j (ez (vs:=nI d[k]) u (ep (v0:=.bool (!gY H.tries d[k])) (JS (h.ext e) (e.at_ r) d[k]) λz p=>⟨λy=>?_,λA=>?_⟩));rw[cV y]at f;exact⟨_,rfl,by rw[f];rfl,e.trans p⟩;rw[cS cL]at f;exact cY ⟨by trivial,e.trans p,f⟩;rintro l ⟨e,f⟩;exact⟨_,rfl,by rw[f];simp[rT],e⟩
 refine jd Tryz.func159 Tryz.ntmps159 ?_;exact ep i λl e=>uN ⟨_,rfl,by rw[<-Be _ d 0];rfl,e⟩
def jA(T:Int)(b:Nat):List Sx->cN->Option (List Sx)
 |a,[]=>some a
 |a,d::r=>if px (a.getD d qw) (b/2)||gY T (a.getD d qw)then none else jA T b (a.set d (ik (a.getD d qw) b false)) r
def ND(f:Nat->Int)(s:Nat)(v:Int):Nat->Int:=λx=>if x=s then v else f x
def jZ(G:Gd)(b:Int):List Sx->(Nat->Int)->List (Nat×cN)->Option (List Sx)
 |c,_,[]=>some c
 |c,a,p::r=>if b<a p.1+1\/G.minutes<iA G p.2 then none else match jA G.tries p.1 c p.2 with
  |none=>none
  |some d=>jZ G b d (ND a p.1 (a p.1+1)) r
def ur(G:Gd)(c:List Sx)(a:Int)(d:List (Nat×cN)):Bool:=match jZ G a c (λ_=>0) (qY Prod.fst d)with
 |none=>false
 |some b=>!b.any λx=>!gY G.tries x
def zm(T:Int)(b:Nat)(a:List Sx)(l:cN)(k:Nat)(c:k<l.length):jA T b a (l.drop k)=if px (a.getD l[k] qw) (b/2)||gY T (a.getD l[k] qw)then none else jA T b (a.set l[k] (ik (a.getD l[k] qw) b false)) (l.drop (k+1)):=by rw[nN c];rfl
def zn(G:Gd)(b:Int)(e:List Sx)(a:Nat->Int)(c:List (Nat×cN))(k:Nat)(f:k<c.length):jZ G b e a (c.drop k)=if b<a c[k].1+1\/G.minutes<iA G c[k].2 then none else match jA G.tries c[k].1 e c[k].2 with
 |none=>none
 |some d=>jZ G b d (ND a c[k].1 (a c[k].1+1)) (c.drop (k+1)):=by
 rw[nN f];rfl
def vw.le{x:Sx}(h:vw k x)(d:k<=m):vw m x:=by have⟨a,b,c⟩:=h;refine⟨⟨a.1,cM⟩,⟨b.1,cM⟩,c.1,cM⟩
theorem tH{c:Type}{P:Nat->c->Prop}:∀(n:Nat),(∀k,k<n->∃x,P k x)->∃l:List c,l.length=n/\∀k (h:k<l.length),P k l[k]
 |0,_=>⟨[],rfl,λk b=>by simp at b⟩
 |n+1,h=>by
  have⟨l,d,e⟩:=tH n λk b=>h k cM;have⟨x,f⟩:=h n cM;refine⟨l++[x],by simp[d],λk b=>?_⟩;obtain a|g:=gC k l.length;rw[nm a];exact e k a;obtain rfl:k=n:=by simp at b;omega
  have:(l++[x])[k]=x:=by simp[d]
  rw[this];exact f
theorem xO:∀a:List El,(a.flatMap xN).length=a.length*2
 |[]=>rfl
 |x::r=>by have:=xO r;grind [xN]
theorem xP:∀(a:List El) (k:Nat) (b:k<a.length) (j:Nat) (v:cK),(xN a[k])[j]? =some v->(a.flatMap xN)[k*2+j]? =some v
 |x::r,0,_,j,v,h=>by grind
 |x::r,k+1,b,j,v,h=>by have c:=xP r k cL j v cL;have d:(xN x).length=2:=rfl;grind
def NE(e:El):Nat×cN:=(e.s,e.l)
def xM.Z1{d:List (Nat×cN)}(h:xM w a d):∃f:List El,f.map NE=d/\(∀e∈f,fJ w e.a e.l/\e.l.length<=e.c)/\iP w a (f.flatMap xN):=by
 have⟨f,D,m⟩:=tH (P:=λk (e:El)=>∃(g:k<d.iw),NE e=d[k]/\fJ w e.a e.l/\e.l.iw<=e.c/\∃b o,a=some (dt b o)/\∀j v,(xN e)[j]? =some v->w.cell? (dt b (o+k*2+j))=some v) d.iw λk g=>by
  have⟨b,o,n,p,q,E,F,s,t⟩:=h k g;refine⟨⟨d[k].1,n,p,d[k].2⟩,g,rfl,s,t,b,o,q,λj v i=>?_⟩;match j,i with
  |0,i=>cases i;grind
  |1,i=>cases i;grind
 refine⟨f,?_,λe G=>?_,?_⟩;apply List.ext_getElem;grind;grind;grind [List.getElem_of_mem];obtain _|⟨x,r⟩:=f;exact .inl rfl;obtain⟨_,_,_,_,b,o,rfl,_⟩:=m 0 dq;refine .inr ⟨b,o,rfl,λj u i=>?_⟩;have y:j<(x::r).iw*2:=by rw[<-xO];grind
 have g:j/2<(x::r).iw:=cM;have⟨_,_,_,_,z,A,e,H⟩:=m (j/2) g;obtain⟨rfl,rfl⟩:b=z/\o=A:=cL;have B:j%2<(xN (x::r)[j/2]).iw:=by show j%2<2;omega
 have C:=ft B;have I:=xP (x::r) (j/2) g (j%2) _ C;grind
def xM.tz{a:List (Nat×cN)}(h:xM w none a):a.length=0:=by obtain _|⟨x,r⟩:=a;rfl;have⟨b,o,_,_,e,_⟩:=h 0 dq;grind
theorem xM.iC{n0:Nat}{c:List (Nat×cN)}(h:xM w a c)(e:jL n0 w t):xM t a c:=λk d=>by have⟨b,o,f,g,i,j,l,m,n⟩:=h k d;exact⟨b,o,f,g,i,e.cell j,e.cell l,m.iC e,n⟩
def HF{d:List El}{c:Nat}(l:iP w a (d.flatMap xN))(m:a=none->d.length=0)(f:d.length<=1000000):Calls V.prog 155 #[.slice a d.length c] w (fO λv h=>Ext w h/\vA w.heap.size h v d):=by refine(PZ a d.length c (d.flatMap xN) w (xO d) m l (λu g=>?_) f).mono ?_;have⟨x,_,g⟩:=me.1 g;simp[xN]at g;obtain rfl|rfl:=g<;>rfl;rintro e h ⟨v,rfl,i,s,⟨n,rfl⟩|⟨b,o,p,q,rfl,r,t,y,z,A,B⟩⟩;exact⟨_,rfl,i,.inl ⟨oy n,none,0,rfl⟩⟩;refine⟨_,rfl,i,.inr ⟨b,o,q,rfl,⟨p,r,?_,λk C j v D=>?_⟩⟩⟩;grind;grind [xP,List.getElem?_eq_some_iff]
def TC(a:Nat)(f:Nat->Int)(w:cJ):Prop:=w.heap[a]? =some (.cells #[.int .i64 (f 0),.int .i64 (f 1),.int .i64 (f 2),.int .i64 (f 3),.int .i64 (f 4),.int .i64 (f 5)] 178)
def TC.cell{f:Nat->Int}(h:TC m f w)(a:s<6):w.cell? ⟨m,0+s,none⟩=some (.int .i64 (f s)):=by have:s=0\/s=1\/s=2\/s=3\/s=4\/s=5:=cM;obtain rfl|rfl|rfl|rfl|rfl|rfl:=this<;>exact cO h rfl
def VT{f:Nat->Int}(h:TC m f w)(s:Nat)(v:Int)(e:s<6)(b:∀a,dz (λx=>x=m) w a->TC m (ND f s v) a->S a):Eo V.prog (Instr.storeAt 3 (.pointer (some ⟨m,0+s,none⟩)) (.int .i64 v)) w S:=by have:s=0\/s=1\/s=2\/s=3\/s=4\/s=5:=cM;obtain rfl|rfl|rfl|rfl|rfl|rfl:=this<;>exact dI h λa c d=>b a c (by unfold TC;rw[d];rfl)
theorem vu.keep{a:List Sx}(h:vu m w x a)(k:dz A w t)(e:∀b,cW x b->¬A b):vu m t x a:=by obtain h|⟨d,c,f,rfl,g⟩:=h;exact .inl h;exact .inr ⟨d,c,f,rfl,g.keep k (e d ⟨_,_,rfl⟩)⟩
theorem vA.keep{a:List El}(h:vA m w x a)(k:dz A w t)(e:∀b,cW x b->¬A b):vA m t x a:=by obtain h|⟨d,c,f,rfl,g⟩:=h;exact .inl h;exact .inr ⟨d,c,f,rfl,g.keep k (e d ⟨_,_,rfl⟩)⟩
def vu.v_{b:List Sx}(h:vu m w x b):∃a c,x=.slice a b.length c:=by obtain⟨rfl,a,c,rfl⟩|⟨d,c,_,rfl,_⟩:=h;simp;grind
def vu.Yu{b:List Sx}(h:vu m w x b):∃a c,x=.slice a b.length c/\vq w a b:=by obtain⟨rfl,a,c,rfl⟩|⟨f,c,_,rfl,d⟩:=h;exact⟨a,c,rfl,λk e=>by simp at e⟩;exact⟨_,c,rfl,d.row⟩
theorem vu.blk{a:List Sx}(h:vu m w x a)(e:0<a.length)(b:cW x k):m<=k/\k<w.heap.size:=by obtain⟨rfl,_⟩|⟨f,c,g,rfl,d⟩:=h;grind;have⟨i,q,_⟩:=d.out;have:=dA.lt_of_heap q;rw[n8 (l':=0) (c':=0) b];grind
def NF{wp gp mk ms:Nat}{A:List Sx}{ak canv:Int}(h:mE wp gp mk ms H A ak w)(a9:∀x∈A,vw 100000 x){W:List (Nat×cN)}{pc:Nat}(hr:xM w a W)(bp:W.length<=20)(aM:∀p∈W,p.1<6/\p.2.length<=1000/\∀d∈p.2,d<A.length):
 Calls V.prog 109 #[dj wp,.int .i64 canv,.slice a W.length pc] w (fO λv y=>v=.bool (ur H A canv W)/\Ext w y):=by
 have ba:=h.g.vL;have h5:=ba.many;have bt:=h.len;have⟨es,aN,bb,al⟩:=hr.Z1;have X:es.length=W.length:=cL;refine jd Tryz.func109 Tryz.ntmps109 ?_;refine eJ λw1 wb e1 bu J=>?_;have J:fF w1 wb #[dj wp] 133:=J;have bv:=dA.lt_of_heap J;have⟨sa,sc,g1,g2,g3,g4⟩:=h.at_;refine cP (cO J rfl) (cP (e1.cell g2) (cX (wA (g4.ext e1) cM) ?_));rintro dv w2 ⟨e2,aA⟩;refine eU λw3 mb e3 bw au=>?_;have bc:TC mb (λ_=>0) w3:=au;have bx:=dA.lt_of_heap au;have s1:=e1.size;have s2:=e2.size;have aO:=(e1.trans e2).trans e3;have aP:=HF (c:=pc) (w:=w3) (by obtain U|⟨b,o,q1,q2⟩:=al;exact .inl U;exact .inr ⟨b,o,q1,λj u hj=>aO.cell cL⟩) (λe=>by subst e;rw[X];exact hr.tz) cM;rw[X]at aP;refine cX aP ?_;rintro ev w4 ⟨e4,bd⟩;have be:∀e∈es,e.s<6:=λe he=>(aM (NE e) (by rw[<-aN];exact List.mem_map_of_mem he)).1;refine cX (QF bd cM cL) ?_;rintro _ w5 ⟨k5,aB⟩;have⟨D,am⟩:=ju (qY El.s es);rw[<-am]at aB;have bz:D.length=W.length:=by rw[am,<-X];exact rS _ _ _
 have bA:∀e∈D,e∈es:=λe he=>vz _ _ _ _ (by rw[am]at he;exact he);have bB:qY Prod.fst W=D.map NE:=by rw[am,<-aN];exact NB El.s Prod.fst NE (λx=>rfl) es
 obtain⟨ea,ec,rfl⟩:=aB.v_;have an:Ext w3 w5:=e4.sn k5 cL;have E5:=aO.trans an;obtain⟨da,dc,rfl⟩:=aA.v_;have aQ:∀b,0<A.length->cW (.slice da A.length dc) b->w1.heap.size<=b/\b<w2.heap.size:=λb U hb=>aA.blk U hb
 have Y:ur H A canv W=match jZ H canv A (λ_=>0) (D.map NE)with
  |none=>false
  |some bf=>!bf.any λx=>!gY H.tries x:=by grind [ur]
 have s3:=e3.size;have s4:=e4.size;have s5:=k5.size;refine dm ?_
 refine jK (n:=D.length) (λk (st:List Sx×(Nat->Int))=>[(1,i64 canv),(3,dj wb),(7,.slice da A.length dc),(8,dj mb),(23,.slice ea D.length ec),(24,i64 D.length),(25,i64 k)])
  (λk st y=>Ext w y/\w5.heap.size<=y.heap.size/\fF y wb #[dj wp] 133/\vu w1.heap.size y (.slice da A.length dc) st.1/\TC mb st.2 y/\vA w3.heap.size y (.slice ea D.length ec) D/\st.1.length=A.length/\(∀x∈st.1,vw (100000+1000*k) x)/\(∀s,0<=st.2 s/\st.2 s<=k)/\jZ H canv A (λ_=>0) (D.map NE)=jZ H canv st.1 st.2 ((D.map NE).drop k))
  (A,λ_=>0) ⟨by trivial,E5,di _,((e2.trans e3).trans an).at_ J,aA.keep ((e3.trans an).keep λ_=>False) cL,an.at_ bc,aB,rfl,a9,cL,rfl⟩ ?_ ?_ ?_
 rintro k st w6 hk hJ;exact dN ⟨rfl,rfl,by trivial,hJ⟩;rintro k ⟨ys,t⟩ w6 hk ⟨E6,s6,Z,aa,aC,aR,ab,aD,M,f⟩;simp only at aa aC ab aD M f;obtain⟨h0,_⟩|⟨eb,bC,bg,K,aE⟩:=aR;rw[h0]at hk;simp at hk;injection K with K _ ac;subst K;subst ac;have⟨e,he⟩:=ju (D[k]);have ad:e∈es:=cL;have aS:=aE.cell k hk;rw[<-he]at aS;have B:=be e ad;have⟨aT,bD⟩:=bb e ad;have⟨_,aU,aF⟩:=aM (NE e) cL;have aU:e.l.length<=1000:=aU;have aF:∀d∈e.l,d<A.length:=aF;have bh:k<(D.map NE).length:=cL;rw[zn H canv ys t _ k bh]at f;have bi:(D.map NE)[k]=(e.s,e.l):=by rw[List.getElem_map,<-he];rfl
 rw[bi]at f;simp only at f;refine fH k 2 hk (ez (vs:=xN e) aS (eU λw7 xb e7 aV aW=>dI aW λw8 k8 ao=>?_));have ao:fF w8 xb #[i64 e.s,.slice e.a e.l.length e.c] 29:=ao;have O:Ext w6 w8:=e7.cT k8 aV;have bE:eb<w6.heap.size:=by have⟨cs,q,_⟩:=aE.out;grind
 have aX:TC mb t w8:=O.at_ aC;refine cP (cO ao rfl) (vm e.s 6 B (cP (aX.cell B) (cY (vm e.s 6 B (VT aX e.s (t e.s+1) B λw9 k9 aG=>?_)) cL)));have E9:Ext w w9:=(E6.trans O).cT k9 cM;have ae:fF w9 wb #[dj wp] 133:=k9.fN (O.at_ Z) cM;have aH:fF w9 xb #[i64 e.s,.slice e.a e.l.length e.c] 29:=k9.fN ao cM;have bF:∀b,0<A.length->cW (.slice da A.length dc) b->¬b=mb:=cL;have bj:vu w1.heap.size w9 (.slice da A.length dc) ys:=by obtain U|U:=nt A.length;have hy:ys=[]:=cL;rw[hy,U];exact .inl ⟨rfl,_,_,rfl⟩;exact(aa.keep (O.keep λ_=>False) cL).keep k9 cL
 have bk:qZ eb D w9:=(aE.ext O).keep k9 cM;have aI:=h.ext E9;have⟨bG,bH,z1,z2,z3,z4⟩:=aI.at_;have⟨r,G⟩:=ju (ND t e.s (t e.s+1));rw[<-G]at aG f;have bl:r e.s=t e.s+1:=by rw[G];unfold ND;grind
 have aY:∀s,0<=r s/\r s<=(k+1:Nat):=λs=>by rw[G];unfold ND;have:=M s;have:=M e.s;omega
 have s9:=O.size;have bI:=k9.size;have aZ:∀y,Ext w9 y->jZ H canv A (λ_=>0) (D.map NE)=none->∃v,Ending.returned (one [.bool false])=.returned v/\v=.bool (ur H A canv W)/\Ext w y:=λy e' hn=>⟨_,rfl,by rw[Y,hn];rfl,E9.trans e'⟩;have a0:=aG.cell B;rw[bl]at a0;refine dE dD (dl (cO aH rfl) (rK e.s 6 B (dl a0 (AG ⟨λP=>?_,λP=>?_⟩))));have P:canv<t e.s+1:=fx P;exactλaf z=>ko rfl (aZ af z (by rw[f,cV (.inl P)]));have P:¬canv<t e.s+1:=ie P;refine dl (cO ae rfl) (dl z1 (dl (cO aH rfl) (il (i64 (iA H e.l)) (λaf z=>Ex (aI.g.ext z) cL cM ((aT.ext E9).ext z)) (dl (cO ae rfl) (dl z1 (dl aI.g.c3 (AG λaf z=>⟨λF=>?_,λF=>?_⟩)))))));have F:H.minutes<iA H e.l:=fx F;exact aZ af z (by rw[f,cV (.inr F)]);have F:¬H.minutes<iA H e.l:=ie F;rw[cS cM]at f;have av:=z.at_ aH;have bJ:=z.size;refine cP (cO av rfl) (dm ?_)
 refine jK (n:=e.l.length) (λj (m:List Sx)=>[(1,i64 canv),(3,dj wb),(7,.slice da A.length dc),(8,dj mb),(11,dj xb),(23,eT eb D.length ec),(24,i64 D.length),(25,i64 k),(60,.slice e.a e.l.length e.c),(61,i64 e.l.length),(62,i64 j)])
  (λj m y=>Ext w y/\af.heap.size<=y.heap.size/\fF y wb #[dj wp] 133/\vu w1.heap.size y (.slice da A.length dc) m/\TC mb r y/\qZ eb D y/\fF y xb #[i64 e.s,.slice e.a e.l.length e.c] 29/\m.length=A.length/\(∀x∈m,vw (100000+1000*k+j) x)/\jA H.tries e.s ys e.l=jA H.tries e.s m (e.l.drop j)) ys ⟨by trivial,E9.trans z,di _,z.at_ ae,bj.keep (z.keep λ_=>False) cL,z.at_ aG,bk.ext z,av,ab,aD,rfl⟩ ?_ ?_ ?_
 rintro j m ap hj hJ;exact dN ⟨rfl,rfl,by trivial,hJ⟩;rintro j m ap hj ⟨Q,bm,I,ag,ah,ai,N,R,aq,C⟩;have⟨lb,lo,a1,a2⟩:=(aT.ext Q) j hj;have⟨d,hd⟩:=ju (e.l[j]);rw[<-hd]at a2;have ar:d<A.length:=by rw[hd];exact aF _ (eG hj)
 rw[a1];refine eX j hj (cP a2 ?_);rw[<-a1];obtain⟨h0,_⟩|⟨sb,c',a3,K,hS⟩:=ag;rw[h0]at R;simp at R;omega;injection K with K _ ac;subst K;subst ac;have aJ:d<m.length:=cM;have bK:sb<w2.heap.size:=(aQ sb cM ⟨_,_,rfl⟩).2;have bq:w1.heap.size<=sb:=a3;have aw:=h.ext Q;have⟨br,bs,t1,t2,t3,t4⟩:=aw.at_;have C:=C;rw[zm _ _ _ _ j hj,<-hd,getD_eq aJ]at C;have aK:∀{y},oV sb m y->∀i v,(nI m[d])[i]? =some v->y.cell? (dt sb (0+d*8+i))=some v:=λhS i v hi=>by have⟨cs,y1,y2,y3⟩:=hS.out;exact cO y1 (by rw[dn];exact cL)
 have a4:ap.cell? (dt sb (0+d*8+4+e.s/2))=some (.bool (px m[d] (e.s/2))):=by
  have:(nI m[d])[4+e.s/2]? =some (.bool (px m[d] (e.s/2))):=by obtain h0|h0|h0:e.s/2=0\/e.s/2=1\/e.s/2=2:=cM;all_goals rw[h0];rfl
  have:=aK hS _ _ this;grind
 have ax:∀y,Ext ap y->jA H.tries e.s ys e.l=none->∃v,Ending.returned (one [.bool false])=.returned v/\v=.bool (ur H A canv W)/\Ext w y:=λy e' hn=>⟨_,rfl,by rw[hn]at f;rw[Y,f];rfl,Q.trans e'⟩;refine dE dD (dl (cO N rfl) (dx (i64 (e.s/2:Nat)) (λL _=>lQ (n:=2) dq cM fL) (jx d 8 ar (dx (oz sb (0+d*8+4+e.s/2)) (λL _=>zC 3 cM fL) (dl a4 ⟨λh1=>?_,λh1=>?_⟩)))));exactλL E=>ko rfl (ax L E (by rw[C,cV (by rw[h1];rfl)]));refine dl (cO I rfl) (dl t1 (jx d 8 ar (dx (.agg (nI m[d]).toArray) (λL E=>ez (vs:=nI m[d]) (aK (hS.ext E)) fL) (il (.bool (gY H.tries m[d])) (λL E=>zB (aw.g.ext E) m[d]) λL E=>⟨λh2=>?_,λh2=>?_⟩))));exact ax L E (by rw[C,cV (by rw[h2];simp)]);rw[cS cL]at C;have a5:=aq _ (eG aJ);have bn:(0<=m[d].tries/\m[d].tries<=1000000)/\(0<=m[d].mornings/\m[d].mornings<=1000000)/\0<=m[d].evenings/\m[d].evenings<=1000000:=by have⟨z1,z2,z3⟩:=a5;omega
 have ay:=hS.ext E;have a7:=E.at_ N;refine dE dD (jx d 8 ar (dx (.agg (nI m[d]).toArray) (λaL aj=>ez (vs:=nI m[d]) (aK (ay.ext aj)) fL) (dl (cO a7 rfl) (il (.agg (nI (ik m[d] e.s false)).toArray) (λaL aj=>CW m[d] e.s false aL B bn) (jx d 8 ar λaL aj=>?_)))));have S:=E.trans aj;refine P5 (ay.ext aj) d 0 aJ dq (ik m[d] e.s false) (qJ rfl) (λi u hi=>?_) λbL T a8=>?_;have bo:i<8:=(nk.1 hi).1;rw[cV ⟨gh _,bo⟩];exact hi;have bM:=S.size;refine cY ⟨m.set d (ik m[d] e.s false),by trivial,(Q.trans S).cT T cM,iI T.size,T.fN (S.at_ I) cM,.inr ⟨sb,dc,a3,by rw[sJ,R],a8⟩,T.fN (S.at_ ah) cM,(ai.ext S).keep T cM,T.fN (S.at_ N) cM,fB R,λx U=>?_,C⟩;obtain U|rfl:=vR U;exact(aq x U).le dq;exact(a5.UM e.s false).le cM;rintro m ap ⟨Q,bm,I,ag,ah,ai,N,R,aq,C⟩;have C:jA H.tries e.s ys e.l=some m:=by rw[C];simp[jA]
 rw[C]at f;simp only at f;refine cY ⟨(m,r),by trivial,Q,cM,I,ag,ah,.inr ⟨eb,ec,bg,rfl,ai⟩,R,λx U=>(aq x U).le cM,aY,f⟩;rintro⟨ys,t⟩ w6 ⟨E6,s6,Z,aa,aC,aR,ab,aD,M,f⟩;simp only at aa ab f;have f:jZ H canv A (λ_=>0) (D.map NE)=some ys:=by rw[f,List.drop_of_length_le dq];rfl
 have⟨a6,c6,q1,q2⟩:=aa.Yu;injection q1 with q1 _ q3;subst q1;subst q3;have az:=NC (h.ext E6) Z q2 (c:=dc) cM;rw[ab]at az;refine ep az λw7 e7=>eK ⟨_,rfl,?_,E6.trans e7⟩;rw[Y,f];rfl
def zj.Xg{w b:cJ}{gp mk ms:Nat}{G:Gd}(h:zj w gp mk ms G b):mc (λ_=>False) mk ms G b:=
 ⟨⟨#[],0,h.sm,λe a=>by cases a⟩,⟨#[],0,h.km,λe a=>by cases a⟩,λh=>h,λh=>h⟩
def dK(G:Gd)(l:List Tq)(a b:Int):Int:=if kH G l=0 then(if qU G (dV l) a=0 then(if kT b 0 5 then 0 else 1)else qU G (dV l) a)else kH G l
def QG(w:cJ)(G:Gd)(l:List Tq)(e:Int)(v:cK)(b:cJ):Prop:=
 (e≠0/\v=.tuple #[.pointer none,.int .i64 e])\/(e=0/\∃a c mk d,v=.tuple #[dj a,.int .i64 0]/\Hl w a c mk d G (fA G l).2 (dV l) b/\∀x∈(fA G l).2,vw 100000 x)
section
variable{G:Gd}{da:Option Addr}{dc:Nat}{w:cJ}{l:List Tq}{la:Option Addr}{lc:Nat}
def od(o:gZ w da G.doors)(g:G.doors.length<=100000)(p:kz w la l)(h:l.length<=100000)(a b:Int):
 Calls V.prog 105 #[gV G da dc,.slice la l.length lc,.int .i64 a,.int .i64 b] w (fO λv m=>Ext w m/\QG w G l (dK G l a b) v m):=by
 refine jd Tryz.func105 Tryz.ntmps105 ?_;refine eJ λz A f q r=>eF r (cX (um (dc:=dc) (o.ext f) g (p.ext f) h) ?_);rintro v B ⟨i,⟨d,rfl⟩|⟨d,s,t,mk,u,rfl,n,y⟩⟩;exact gP (ko (fB d) ⟨_,rfl,f.trans i,.inl ⟨by unfold dK;rw[cS d];exact d,by unfold dK;rw[cS d];rfl⟩⟩);refine gP (kZ dq (dF (S8 n.k a) (gP ⟨λc=>?_,λc=>?_⟩)));have c:¬qU G (dV l) a=0:=fx c;exact⟨_,rfl,f.trans i,.inl ⟨by unfold dK;rw[cV d,cS c];exact c,by unfold dK;rw[cV d,cS c];rfl⟩⟩;have c:qU G (dV l) a=0:=fB c;refine dF (fw _ _ _ _) (eK ⟨λe=>?_,λe=>?_⟩);have e:kT b 0 5=false:=fB e;exact⟨_,rfl,f.trans i,.inl ⟨by unfold dK;rw[cV d,cV c,e];decide,by unfold dK;rw[cV d,cV c,e];rfl⟩⟩;have e:kT b 0 5=true:=fB e;exact⟨_,rfl,f.trans i,.inr ⟨by unfold dK;rw[cV d,cV c,e];rfl,s,t,mk,u,rfl,n.low f,λx j=>(y x j).le h⟩⟩
def ng(b:G.Ok)(h:dK G l I J=0):∃f:Nat,I=f/\f<=fl G/\f<2*G.days:=by unfold dK at h;split at h;split at h;rename_i a;unfold qU at a;split at a;rename_i c;simp only[kT,eW,kM]at c;have:=b.days;exact⟨I.toNat,cM,by unfold fl;omega,cM⟩;omega;rename_i a;exact absurd h a;rename_i d;exact absurd h d
def VU(a:Nat)(o:Option (List cN))(v:cK)(w:cJ):Prop:=match o with
 |none=>v=.tuple #[.slice none 0 0,.int .i64 11]
 |some b=>∃u,v=.tuple #[u,.int .i64 0]/\fh a w u b
def HG(y:gZ w da G.doors)(k:G.doors.length<=100000){ds:eY}{a:dW}{c:Nat}(D:iF w a ds)(m:ds.length<=100000)(H:ds.length<=c):
 Calls V.prog 69 #[gV G da dc,.slice a ds.length c] w (fO λv E=>Ext w E/\((nT G ds≠0/\v=.tuple #[.slice none 0 0,.int .i64 (nT G ds)])\/(nT G ds=0/\VU w.heap.size (fT G (eB (ds.map Int.toNat))) v E))):=by
 refine jd Tryz.func69 Tryz.ntmps69 ?_;refine eJ λT U i I z=>eF z (cX (AM (dc:=dc) (y.ext i) k (D.ext i) m H) ?_);rintro v J ⟨t,⟨n,rfl⟩|⟨n,W,mk,X,rfl,o⟩⟩;have e:nT G ds=eo G:=by simp[nT,n]
 exact gP (ko (fB n) ⟨_,rfl,i.trans t,.inl ⟨by rw[e];exact n,by rw[e];rfl⟩⟩);have e:nT G ds=je G.doors.length ds:=by simp[nT,n]
 refine gP ⟨λf=>?_,λf=>?_⟩;have f:¬je G.doors.length ds=0:=fx f;exact⟨_,rfl,i.trans t,.inl ⟨by rw[e];exact f,by rw[e];rfl⟩⟩;have f:je G.doors.length ds=0:=fB f;obtain⟨j,rfl,p⟩:=pO f;have A:=o.g.vL;have K:=A.many;have L:(nS j).length=j.length:=by simp[nS]
 have q:(nS j).map Int.toNat=j:=by simp[nS,zK]
 have B:=(D.ext (i.trans t)).Ha;rw[L]at m⊢;rw[q];have r:=ky.eB (G:=G) K (l:=j) p;refine dF (uk j a c J B (λd y=>iI (p d y)) m) (cX (AU (n0:=w.heap.size) o.g (λb z=>z.elim) o.Xg (Cq o.lo i.size) (Cq o.lo i.size) r) ?_);rintro v F ⟨M,u,b,rfl,h⟩;have C:Ext w F:=M.1.from (i.trans t) (di _);cases x:fT G (eB j)with
 |none=>
  rw[x]at h;obtain⟨rfl,rfl⟩:=h;exact eK (ko rfl ⟨_,rfl,C,.inr ⟨by rw[e];exact f,rfl⟩⟩)
 |some N=>
  rw[x]at h;obtain⟨rfl,O,P,rfl,s,_⟩:=h;have Q:=o9 x;refine eK (kZ rfl (cX (Jy N O P F s.rows cM λl m=>iI (Bb x l m)) ?_));rintro v Y ⟨R,S⟩;exact⟨_,rfl,C.trans R,.inr ⟨by rw[e];exact f,_,rfl,S.low C.size⟩⟩
end
def nB(G:Gd)(b:List Sx)(a:Nat)(d:Nat):Bool:=(jz G (b.getD d qw) a).isEmpty||!l5 G (eB [d])
def QH(G:Gd)(b:List Sx)(a:Nat):cN:=(dJ G.tries b).filter (nB G b a)
def TD(a:Nat)(o:Option (List (Nat×cN)))(v:cK)(w:cJ):Prop:=match o with
 |none=>v=.tuple #[.slice none 0 0,.int .i64 11]
 |some b=>∃u,v=.tuple #[u,.int .i64 0]/\nJ a w u b
section
variable{G:Gd}{da:Option Addr}{dc:Nat}{w:cJ}{l:List Tq}{la:Option Addr}{lc:Nat}
def JU(r:gZ w da G.doors)(d:G.doors.length<=100000)(s:kz w la l)(j:l.length<=100000)(a:Int):
 Calls V.prog 48 #[gV G da dc,.slice la l.length lc,.int .i64 a] w (uF λv m=>Ext w m/\((dK G l a 0≠0/\v=.tuple #[.slice none 0 0,.int .i64 (dK G l a 0)])\/(dK G l a 0=0/\TD w.heap.size (A9 G (ei G (fA G l).2 a.toNat)) v m))):=by
 refine jd Tryz.func48 Tryz.ntmps48 ?_;refine eJ λD E b t x=>eF x (cX (od (dc:=dc) (r.ext b) d (s.ext b) j a 0) ?_);rintro v F ⟨n,⟨e,rfl⟩|⟨e,H,I,mk,J,rfl,i,y⟩⟩;exact gP (ko cL (.inl ⟨_,rfl,b.trans n,.inl ⟨e,rfl⟩⟩));have z:=i.g.lo;have K:=b.size;obtain⟨f,rfl,o,_⟩:=ng i.k.g.vL e;refine gP (kZ dq (iM (TA (n0:=w.heap.size) i.k cL i.g.Xg cM cM y o) (λm h=>.inr ⟨rfl,h⟩) ?_));rintro v A ⟨B,c⟩;have p:Ext w A:=B.1.from (b.trans n) (di _);rw[ow];cases q:A9 G (ei G (fA G l).2 f)with
 |none=>
  rw[q]at c;have c:v=.tuple #[fo,.bool false]:=c;subst c;exact eK (ko rfl (.inl ⟨_,rfl,p,.inr ⟨e,rfl⟩⟩))
 |some L=>
  rw[q]at c;obtain⟨u,rfl,C⟩:=c;exact eK (kZ rfl (.inl ⟨_,rfl,p,.inr ⟨e,u,rfl,C.low (iI ((b.trans n).size))⟩⟩))
def yJ(q:gZ w da G.doors)(d:G.doors.length<=100000)(r:kz w la l)(m:l.length<=100000)(b canv:Int):
 Calls V.prog 55 #[gV G da dc,.slice la l.length lc,.int .i64 b,.int .i64 canv] w (uF λv n=>Ext w n/\((dK G l b canv≠0/\v=.tuple #[.slice none 0 0,.int .i64 (dK G l b canv)])\/(dK G l b canv=0/\∃a c,v=.tuple #[.slice a (jb (mF G (fA G l).2 b.toNat canv) (dJ G.tries (fA G l).2)).length c,.int .i64 0]/\fJ n a (jb (mF G (fA G l).2 b.toNat canv) (dJ G.tries (fA G l).2))/\(jb (mF G (fA G l).2 b.toNat canv) (dJ G.tries (fA G l).2)).length<=c))):=by
 refine jd Tryz.func55 Tryz.ntmps55 ?_;refine eJ λB C e s t=>eF t (cX (od (dc:=dc) (q.ext e) d (r.ext e) m b canv) ?_);rintro v D ⟨p,⟨i,rfl⟩|⟨i,E,F,mk,H,rfl,j,u⟩⟩;exact gP (ko cL (.inl ⟨_,rfl,e.trans p,.inl ⟨i,rfl⟩⟩));have x:=j.g.lo;have I:=e.size;obtain⟨f,rfl,o,_⟩:=ng j.k.g.vL i;refine gP (kZ dq (iM (QD (n0:=w.heap.size) (canv:=canv) j.k cL j.g.Xg cM cM u o) (λn h=>.inr ⟨rfl,h⟩) ?_));rintro v J ⟨y,a,c,rfl,z,A⟩;rw[ow];exact .inl ⟨_,rfl,y.1.from (e.trans p) (di _),.inr ⟨i,a,c,rfl,z,A⟩⟩
def JV(hd:gZ w da G.doors)(R:G.doors.length<=100000)(hr:kz w la l)(ab:l.length<=100000)(h:Int):
 Calls V.prog 53 #[gV G da dc,.slice la l.length lc,.int .i64 h] w (fO λv Q=>Ext w Q/\((dK G l h 0≠0/\v=.tuple #[.slice none 0 0,.int .i64 (dK G l h 0)])\/(dK G l h 0=0/\∃u,v=.tuple #[u,.int .i64 0]/\eO w.heap.size Q u (QH G (fA G l).2 h.toNat)))):=by
 refine jd Tryz.func53 Tryz.ntmps53 ?_;refine eJ λw1 gb S ap m=>eF m (cX (od (dc:=dc) (hd.ext S) R (hr.ext S) ab h 0) ?_);rintro v w2 ⟨e2,⟨y,rfl⟩|⟨y,wp,gp,mk,I,rfl,T,hx⟩⟩;exact gP (ko cL ⟨_,rfl,S.trans e2,.inl ⟨y,rfl⟩⟩);have aq:=T.g.lo;have s1:=S.size;have U:=T.k.g.vL;have h5:=U.many;have ac:=T.k.len;obtain⟨f,rfl,ad,_⟩:=ng U y;have⟨c,ae⟩:=ju ((fA G l).2);have hk:=T.k;rw[<-ae]at hk hx ac⊢;have ao:=uo G.tries c;refine gP (kZ dq (cX (EC hk) ?_));rintro ov J ⟨e3,af⟩;obtain⟨oa,oc,rfl,ag,ar⟩:=af.row;have E2:=S.trans e2;have E3:=E2.trans e3;have s2:=E2.size;rw[ow];have ah:∀b,¬cW fo b:=λb m=>by have⟨_,_,m⟩:=m;grind
 refine dm<|jK (n:=(dJ G.tries c).length) (λk v=>[(2,i64 f),(8,dj wp),(10,v),(24,.slice oa (dJ G.tries c).length oc),(25,i64 (dJ G.tries c).length),(26,i64 k)]) (λk v Q=>jL w.heap.size J Q/\mc (cW v) mk I G Q/\eO J.heap.size Q v (((dJ G.tries c).take k).filter (nB G c f))) (fo) ⟨by trivial,jL.refl _ _,(T.g.Xg.ext e3).more cL,dg.nil _ _ _ _⟩ ?_ ?_ ?_;rintro k v F W hJ;exact dN ⟨rfl,rfl,by trivial,hJ⟩;rintro k v F z ⟨K,A,s⟩;obtain⟨b,o,rfl,hc⟩:=(ag.iC K) k z;have⟨d,L⟩:=ju ((dJ G.tries c)[k]);have ai:d<c.length:=by rw[L];exact jm (eG z)
 rw[<-L]at hc;have M:=hk.iC ((e3.iC w.heap.size).trans K);have H:=ky.eB (G:=G) h5 (l:=[d]) cL;have⟨sa,sc,g1,g2,g3,g4⟩:=M.at_;have N:=wD w.heap.size mk I G (cW v);have aj:∀b,cW v b->b<F.heap.size:=λb m=>(dg.blk s m).2;have al:(dJ G.tries c).take (k+1)=(dJ G.tries c).take k++[d]:=by rw[iT z,L]
 have au:(((dJ G.tries c).take k).filter (nB G c f)).length<=5:=by grind
 have av:nB G c f d=((jz G c[d] f).isEmpty||!l5 G (eB [d])):=by unfold nB;grind
 have same:∀j,MA w.heap.size mk I G (cW v) F j->nB G c f d=false->jL w.heap.size J j/\mc (cW v) mk I G j/\eO J.heap.size j v (((dJ G.tries c).take (k+1)).filter (nB G c f)):=λj X hf=>by
  refine⟨K.trans X.1,X.2 A,?_⟩;have e:((dJ G.tries c).take (k+1)).filter (nB G c f)=((dJ G.tries c).take k).filter (nB G c f):=by grind
  rw[e];exact dg.iC s X.1
 have Y:∀j,MA w.heap.size mk I G (cW v) F j->nB G c f d=true->∀k':nu,(∀B p,jL w.heap.size J p->mc (cW B) mk I G p->eO J.heap.size p B (((dJ G.tries c).take (k+1)).filter (nB G c f))->k' B p)->∀(q:Nat) (p:cJ),Ext j p->p.heap[q]? =some (.cells [i64 d].toArray 3)->∀(t:cR) (cb:Array Bool),zd V.prog (builtin .append #[27,27] t cb #[v,eT q 1 1]) p k':=λj X ht k' W q p C m t cb=>by
  have D:MA w.heap.size mk I G (cW v) F p:=N.trans _ _ _ X (C.ma _ _ _ _ _);have Z:eO J.heap.size p v (((dJ G.tries c).take k).filter (nB G c f)):=dg.iC s D.1;have O:=D.2 A;refine hH oR Z (Cq K.size D.1.size) m cM λB w7 y x h3=>W B w7 ((K.trans D.1).iZ x Z (di _)) ?_ ?_;exact O.go cL (λb o v m hc=>x.fe hc m) λb o m ho=>x.fN ho λhf=>by obtain rfl|rfl:=m;exact O.ak hf;exact O.asm hf
  have e:((dJ G.tries c).take (k+1)).filter (nB G c f)=((dJ G.tries c).take k).filter (nB G c f)++[d]:=by grind
  rw[e];simpa[eO,gA]using y
 refine eX k z (cP hc ?_);refine dE N<| .rel (λu j=>fh F.heap.size j u (jz G c[d] f)) (λu a b hu e=>hu.iC e.1) (λj r=>cX (Hp (M.iC r.1) ai cL ad) λu p ⟨C,hu⟩=>⟨hu.low r.1.size,C.ma _ _ _ _ _⟩)<| .exact (i64 (jz G c[d] f).length) (λj r P am=>?_) ?_;obtain⟨a3,c3,rfl,_⟩:=fh.row (show fh F.heap.size j P (jz G c[d] f)from am);exact dm ⟨rfl,N.refl _⟩;refine Lj ⟨λx=>?_,λx=>?_⟩ N;have x:(jz G c[d] f).length=0:=by grind
 have hl:nB G c f d=true:=cL;exactλj r P _=>ko rfl (er [i64 d] 3 λp q C E m=>Y j r hl _ (λB w7 q1 q2 q3=>cY ⟨B,by trivial,q1,q2,q3⟩) q p C m _ _);have x:¬(jz G c[d] f).length=0:=cL;have aw:(jz G c[d] f).isEmpty=false:=by grind
 refine .exact (dj gp) (λj r=>cP (r.1.cell g1) ⟨rfl,N.refl _⟩)<| .rel (λu j=>∃q,u=eT q 1 1/\j.heap[q]? =some (.cells [Value.int .i64 d].toArray 3)) (λu a b ⟨q,y,x⟩ e=>⟨q,y,e.1.at_ x⟩) (λj r=>er [i64 d] 3 λp q C E m=>⟨cL,C.ma _ _ _ _ _⟩) ?_;refine .exact (.int .u8 (eB [d])) (λj r aa an=>?_) ?_;obtain⟨q,rfl,E⟩:∃q,aa=eT q 1 1/\j.heap[q]? =some (.cells [Value.int .i64 d].toArray 3):=an;exact dF (uk [d] _ 1 j (λi hi=>⟨q,0,rfl,cO E (by have:i=0:=cL;grind)⟩) cL dq) ⟨rfl,N.refl _⟩;refine .exact (.bool (l5 G (eB [d]))) (λj r=>cX (EK (M.g.iC r.1) (λb m=>ew (aj b m) r.1.size) (r.2 A) cM H.1 H.2) λu p ⟨y,x⟩=>⟨y,x⟩)<|mQ ?_ N;intro j r aa _ P _;refine⟨λh3=>?_,λh3=>?_⟩;have hl:nB G c f d=true:=cL;exact er [i64 d] 3 λp q C E m=>Y j r hl _ (λB w7 q1 q2 q3=>cY ⟨B,by trivial,q1,q2,q3⟩) q p C m _ _;have hl:nB G c f d=false:=cL;exact cY ⟨v,by trivial,cL⟩;rintro v F ⟨K,A,s⟩;rw[j5]at s;exact⟨_,rfl,K.from E3 (di _),.inr ⟨y,v,rfl,s.low E3.size⟩⟩
end
def Bf(w:cJ)(a:dW)(c:List (Int×eY)):Prop:=∀k (h:k<c.length),∃b o d e,a=some ⟨b,o,none⟩/\w.cell? ⟨b,o+k*2,none⟩=some (.int .i64 c[k].1)/\w.cell? ⟨b,o+k*2+1,none⟩=some (.slice d c[k].2.length e)/\iF w d c[k].2/\c[k].2.length<=e
theorem Bf.ext{w c:cJ}{a:dW}{d:List (Int×eY)}(h:Bf w a d)(e:Ext w c):Bf c a d:=λk f=>by have⟨b,o,g,i,j,l,m,n,p⟩:=h k f;exact⟨b,o,g,i,j,e.cell l,e.cell m,n.ext e,p⟩
def lH(n:Int)(a last:Int):List (Int×eY)->Int
 |[]=>0
 |p::r=>if kT p.1 a last then(if je n p.2=0 then lH n a last r else je n p.2)else 3
def EV(n a last:Int)(b:List (Int×eY))(k:Nat)(c:k<b.length):lH n a last (b.drop k)=if kT b[k].1 a last then(if je n b[k].2=0 then lH n a last (b.drop (k+1))else je n b[k].2)else 3:=by rw[nN c];rfl
def TE(p:Int×eY):Nat×cN:=(p.1.toNat,p.2.map Int.toNat)
theorem Bg{n:Nat}{a last:Int}:∀{c:List (Int×eY)},lH n a last c=0->∀p∈c,kT p.1 a last=true/\je n p.2=0
 |p::r,h,q,b=>by simp only[lH]at h;split at h;rename_i d;split at h;rename_i e;obtain rfl|b:=fi.1 b;grind;exact Bg h q b;grind;grind
theorem Bf.Ha{n:Nat}{c last:Int}{w:cJ}{a:dW}{e:List (Int×eY)}(h:Bf w a e)(F:0<=c)(v:lH n c last e=0):xM w a (e.map TE)/\∀p∈e.map TE,(p.1:Int)<=last/\∀d∈p.2,d<n:=by
 have s:=Bg v;refine⟨λk G=>?_,λp x=>?_⟩;have g:k<e.length:=cL;have⟨b,o,y,z,A,H,j,t,l⟩:=h k g;have⟨m,r⟩:=s _ (eG g);have⟨f,u,B⟩:=pO r;have i:(nS f).map Int.toNat=f:=by simp[nS,zK]
 have C:((e.map TE)[k]).2=f:=by grind [TE]
 have I:(((e.map TE)[k]).1:Int)=e[k].1:=by simp only[kT,eW,kM]at m;simp only[List.getElem_map,TE];omega
 rw[C];rw[u]at j t l;have D:(nS f).length=f.length:=cL;rw[D]at j l;exact⟨b,o,y,z,A,cL,j,t.Ha,l⟩;obtain⟨q,E,rfl⟩:=kJ.1 x;have⟨m,r⟩:=s q E;have⟨f,u,B⟩:=pO r;have i:(nS f).map Int.toNat=f:=by simp[nS,zK]
 simp only[kT,eW,kM]at m;grind [TE]
def pS(G:Gd)(l:List Tq)(a b:Int)(c:List (Int×eY)):Bool×Int:=
 if dK G l a b=0 then(if lH G.doors.length a (2*G.days-1) c=0 then(ur G (fA G l).2 b (c.map TE),0)else(false,lH G.doors.length a (2*G.days-1) c))else(false,dK G l a b)
section
variable{G:Gd}{da:Option Addr}{dc:Nat}{w:cJ}{l:List Tq}{la:Option Addr}{lc:Nat}
def EX(S:gZ w da G.doors)(C:G.doors.length<=100000)(hr:kz w la l)(T:l.length<=100000)(h canv:Int){ps:List (Int×eY)}{O:dW}{pc:Nat}(hp:Bf w O ps)(U:ps.length<=20)(D:∀p∈ps,p.2.length<=1000):
 Calls V.prog 38 #[gV G da dc,.slice la l.length lc,.int .i64 h,.int .i64 canv,.slice O ps.length pc] w (fO λv u=>Ext w u/\v=.tuple #[.bool (pS G l h canv ps).1,.int .i64 (pS G l h canv ps).2]):=by
 refine jd Tryz.func38 Tryz.ntmps38 ?_;refine eJ λw1 gb P ae hb=>eF hb (cX (od (dc:=dc) (S.ext P) C (hr.ext P) T h canv) ?_);rintro v w2 ⟨e2,⟨A,rfl⟩|⟨A,wp,gp,mk,ms,rfl,hg,hx⟩⟩;exact gP (ko (fB A) ⟨_,rfl,P.trans e2,by unfold pS;rw[cS A];rfl⟩);have E:=hg.k;have x:=E.g.vL;have h5:=x.many;have W:=E.len;obtain⟨f,rfl,af,ag⟩:=ng x A;have Q:=P.trans e2;have⟨sa,sc,g1,g2,g3,g4⟩:=E.at_;refine gP (kZ dq (dm ?_));refine fu (n:=ps.length) (λk=>[(2,i64 f),(3,i64 canv),(4,.slice O ps.length pc),(12,dj wp),(28,.slice O ps.length pc),(29,i64 ps.length),(30,i64 k)]) (λk u=>Ext w2 u/\lH G.doors.length f (2*G.days-1) ps=lH G.doors.length f (2*G.days-1) (ps.drop k)) ⟨by trivial,Ext.refl _,rfl⟩ ?_ ?_ ?_;rintro k X ah hJ;exact dN ⟨rfl,rfl,by trivial,hJ⟩;rintro k X s ⟨B,a⟩;obtain⟨b,o,a',c',rfl,q1,q2,q3,q4⟩:=(hp.ext (Q.trans B)) k s;rw[EV _ _ _ _ _ s]at a;have y:=D _ (eG s);have⟨p,Y⟩:=ju (ps[k]);rw[<-Y]at q1 q2 q3 q4 a y;refine fH k 2 s (ez (vs:=[i64 p.1,.slice a' p.2.length c']) (λj v F=>?_) (eU λw4 xb Z aa H=>dI H λw5 k5 t=>?_));match j,F with
 |0,F=>cases F;exact q1
 |1,F=>cases F;exact q2
 have t:fF w5 xb #[i64 p.1,.slice a' p.2.length c'] 29:=t;have I:Ext X w5:=Z.cT k5 aa;have m:=B.trans I;have J:=E.ext m;have K:∀u (c:Int),Ext w5 u->lH G.doors.length f (2*G.days-1) ps=c->c≠0->∃v,Ending.returned (one [.bool false,i64 c])=.returned v/\Ext w u/\v=.tuple #[.bool (pS G l f canv ps).1,i64 (pS G l f canv ps).2]:=λu c e hc h0=>⟨_,rfl,(Q.trans m).trans e,by unfold pS;rw[cV A,hc,cS h0];rfl⟩;refine dE dD (dl (cO t rfl) (dl (m.cell g1) (iY dD _ (λR r=>last_at (J.g.ext r)) (iY dD _ (λR r=>fw _ _ _ R) (mQ λR r=>⟨λz=>?_,λz=>?_⟩)))));have z:kT p.1 f (2*G.days-1)=false:=fB z;exact K R 3 r (by rw[a,cS (by rw[z];simp)]) cM;have z:kT p.1 f (2*G.days-1)=true:=fB z;rw[cV z]at a;have ab:=J.ext r;refine dE dD (dl (r.cell (m.cell g1)) (dl (cO (r.at_ t) rfl) (iY dD _ (λw7 L=>CV (ab.g.ext L) ((q3.ext (I.trans r)).ext L) cM q4) λw7 L=>gP ⟨λi=>?_,λi=>?_⟩)));have i:¬je G.doors.length p.2=0:=fx i;exact K w7 _ (r.trans L) (by rw[a,cS i]) i;have i:je G.doors.length p.2=0:=fB i;rw[cV i]at a;exact cY ⟨by trivial,(m.trans r).trans L,a⟩;rintro X ⟨B,a⟩;have a:lH G.doors.length f (2*G.days-1) ps=0:=by rw[a,List.drop_of_length_le (di _)];rfl
 have⟨ac,M⟩:=(hp.ext (Q.trans B)).Ha cM a;have ai:=x.days;have N:=NF (canv:=canv) (pc:=pc) (E.ext B) hx ac (fB U) λq hq=>⟨iI ((M q hq).1),by obtain⟨q',ad,rfl⟩:=kJ.1 hq;have:=D q' ad;simpa[TE]using this,λd S=>by rw[W];exact(M q hq).2 d S⟩;rw[nP]at N;refine ep N λw4 Z=>⟨_,rfl,(Q.trans B).trans Z,?_⟩;unfold pS;rw[cV A,cV a];rfl
end
def HH(l a:List (Nat×cN))(la j:dW)(lc n:Nat)(w:cJ)(B:xM w la l)(r:xM w j a)(A:l.length<=100000)(C:∀x∈l,x.2.length<=100000):
 Calls V.prog 42 #[.slice la l.length lc,.slice j a.length n] w (fO λv q=>v=.bool (decide (l=a))/\Ext w q):=by
 refine jd Tryz.func42 Tryz.ntmps42 ?_;refine dm (dm (gP ⟨λh=>?_,λh=>?_⟩));have h:¬l=a:=cL;exact⟨_,rfl,by simp[h],Ext.refl _⟩;have h:l.length=a.length:=cL;refine fc l.length (λk (_:Unit)=>[(0,.slice la l.length lc),(1,.slice j a.length n),(5,i64 k)]) (λk _ q=>Ext w q/\l.take k=a.take k) () ⟨by trivial,Ext.refl _,dq⟩ ?_;rintro k _ q I ⟨e,D⟩;refine dm (dN ⟨λf=>?_,λs=>?_⟩);have f:k<l.length:=cL;have d:k<a.length:=cM;obtain⟨b,o,x,c,rfl,E,t,F,_⟩:=(B.iC (e.iC 0)) k f;obtain⟨J,K,G,H,rfl,u,p,y,_⟩:=(r.iC (e.iC 0)) k d;refine dE dD (jx k 2 f (dl E (jx k 2 d (dl u (UF ⟨λg=>?_,λg=>?_⟩)))));have g:¬l[k].1=a[k].1:=cL;have:¬l=a:=cL;exactλz m=>ko rfl ⟨_,rfl,by simp[this],e.trans m⟩;have g:l[k].1=a[k].1:=by grind
 refine jx k 2 f (dl t (jx k 2 d (dl p (il (.bool (decide (l[k].2=a[k].2))) (λz m=>rN l[k].2 a[k].2 x G c H z (F.ext m) (y.ext m) cL) (mQ λz m=>⟨λi=>?_,λi=>?_⟩)))));have i:¬l[k].2=a[k].2:=cL;have:¬l=a:=cL;exact⟨_,rfl,by simp[this],e.trans m⟩;have i:l[k].2=a[k].2:=cL;refine cY ⟨f,(),by trivial,e.trans m,?_⟩;rw[iT f,iT d,D,Prod.ext g i];have s:¬k<l.length:=cL;have:l=a:=by grind
 exact⟨_,rfl,by simp[this],e⟩
def pi:List Tq:=[⟨0,0,false⟩,⟨1,0,true⟩,⟨2,1,false⟩]
theorem HI:ji gK [0,1,2,3]=38/\iA gK [0,1,2,3]=55/\nT gK [0,1,2,3]=0:=by decide+kernel
def HJ:nT gK [3,2,1,0]=0/\fT gK (eB [3,2,1,0])=some [[0,1],[2,3]]:=by decide+kernel
def EY:List Sx:=[⟨1,1,0,false,true,false,false,false⟩,⟨1,1,0,true,true,false,false,false⟩,⟨1,0,1,false,true,false,false,false⟩,qw]
def QI:fA gK pi=(0,EY):=by rfl
theorem Bh:dK gK pi 5 0=0/\dK gK pi 2 0=0/\dK gK pi 2 1=0/\dK gK [] 3 1=0:=by decide+kernel
def TF:QH gK EY 5=[2,3]:=by decide+kernel
def Yv:eR:=⟨[0,2,3],[[[3],[5]],[[2],[4]],[[2,5],[3,4]]],[0,1,-1,-1,1,1,-1,-1,1,1,-1,-1,1,2,-1,-1,0,0,0,0,0,0,0,0,0,0,0,0,0,0,0,0]⟩
def QJ:ei gK EY 2=Yv:=by unfold ei Yv;rw[eR.mk.injEq];exact⟨by decide+kernel,by decide+kernel,by decide+kernel⟩
def TG:gO Yv=some ([0,1,1],1,2):=by decide+kernel
def TH:A9 gK (ei gK EY 2)=some [(3,[0,3]),(4,[2,3])]:=by rw[QJ];unfold A9;rw[TG];decide+kernel
def NG:pS gK pi 2 1 [(3,[0,3]),(4,[2,3])]=(true,0):=by decide+kernel
def JW:List Sx:=[qw,qw,qw,qw]
def TJ:fA gK []=(0,JW):=by rfl
def QK:jb (mF gK JW 3 1) (dJ gK.tries JW)=[0,1]:=by decide+kernel
def mY{l:eY}(h:w.heap[m]? =some (.cells (l.map (Value.int .i64)).toArray T)):iF w (some ⟨m,0,none⟩) l:=λk a=>⟨m,0,rfl,cO h (by grind)⟩
def om(h:w.heap[m]? =some (.cells (gA l).toArray T)):fJ w (some ⟨m,0,none⟩) l:=λk a=>⟨m,0,rfl,cO h (by rw[dn];simp[gA,ft a])⟩
theorem Df:∀(l:List Tq) (k:Nat) (a:k<l.length) (j:Nat) (v:cK),(uP l[k])[j]? =some v->(l.flatMap uP)[k*3+j]? =some v
 |x::r,0,_,j,v,h=>by grind
 |x::r,k+1,a,j,v,h=>by have b:=Df r k cL j v cL;have c:(uP x).length=3:=rfl;grind
def NH{l:List Tq}(h:w.heap[m]? =some (.cells (l.flatMap uP).toArray T)):kz w (some ⟨m,0,none⟩) l:=λk a=>⟨m,0,rfl,λj v b=>cO h (by rw[dn];grind [Df])⟩
def QL(w:cJ):kz w none []:=λk a=>by simp at a
def ut{k:nu}{c:List PanicEntry->dC}(d:∀a b,Ext w a->gZ a (some ⟨b,0,none⟩) gK.doors->k (gV gK (some ⟨b,0,none⟩) 4) a):SL V.prog 95 [] w k c:=
 cX (P3 w) λv a ⟨e,b,_,f,g⟩=>by subst f;exact d a b e (MW g)
def Bi{k:nu}{c:List PanicEntry->dC}(d:∀a b,Ext w a->kz a (some ⟨b,0,none⟩) pi->k (.slice (some ⟨b,0,none⟩) 3 3) a):SL V.prog 96 [] w k c:=
 cX (MY w) λv a ⟨e,b,_,f,g⟩=>by subst f;exact d a b e (NH g)
def QM:gK.doors.length<=100000/\ -1000000<=gK.streets/\gK.streets<=1000000:=kg
def NI:xy gK [0,1,2,3]=.tuple #[.agg (oU 38 55).toArray,.int .i64 0]:=by unfold xy;rw[cV HI.2.2];grind [HI]
def TK{a:Func}{c:Code}{R:Ending->dC}(d:V.prog.funcs[K]? =some a)(e:a.ntmps=m)(h:dX V.prog m c (W.toList.zipIdx.map λp=>(p.2,p.1)) w (QR V.prog a.results.toList R))
 (f:a.body=some c:=by rfl)(b:Nat.ble W.toList.length m=true:=by rfl):Calls V.prog K W w R:=by
 have:=Uz (args:=W.toList) m d f e (qJ b) h;simpa using this
def TL{a:Func}{c:Code}{R:Ending->dC}(d:Tryz.prog.funcs[K]? =some a)(e:a.ntmps=m)(h:dX V.prog m c (W.toList.zipIdx.map λp=>(p.2,p.1)) w (QR V.prog a.results.toList R))
 (f:a.body=some c:=by rfl)(b:Nat.ble W.toList.length m=true:=by rfl)(g:K≠163:=by decide):Calls V.prog K W w R:=TK (V.fn d g) e h f b
def tI(w:cJ):Calls V.prog 26 #[] w (uF λv w'=>v=.bool true/\Ext w w'):=by
 have⟨c,bm⟩:=QM;refine TL Tryz.func26 Tryz.ntmps26 (dX.seq dB ?_);refine dX.seq dB<|ut λw1 b1 e1 aB=>er [i64 0,i64 1,i64 2,i64 3] 3 λw2 bs e2 bn aC=>ep (MV (l:=[0,1,2,3]) (aB.ext e2) c (mY aC) cL cL) λw3 e3=>?_;rw[NI];refine eU λw4 G e4 aD R=>dI R λw5 k5 H=>?_;have H:w5.heap[G]? =some (.cells (oU 38 55).toArray 56):=H;have E5:Ext w w5:=((e1.trans e2).trans e3).trans (e4.cT k5 aD);refine dX.jJ (l0:=[(1,dj G),(2,i64 0)]) (by trivial) (dX.seq dB ?_);refine ut λw6 b6 e6 aE=>er [i64 3,i64 2,i64 1,i64 0] 3 λw7 bt e7 bo aF=>cX (HG (ds:=[3,2,1,0]) (aE.ext e7) c (mY aF) cL cL) ?_;rintro v w8 ⟨e8,⟨h,_⟩|⟨_,S⟩⟩;exact absurd HJ.1 h;have aG:fT gK (eB (([3,2,1,0]:eY).map Int.toNat))=some [[0,1],[2,3]]:=HJ.2;rw[aG]at S;obtain⟨T,rfl,aH⟩:=S;have E8:=((E5.trans e6).trans e7).trans e8;have aI:=((e6.trans e7).trans e8).at_ H;refine dX.jJ (l0:=[(1,dj G),(2,i64 0),(3,T),(4,i64 0)]) (by trivial) (dX.seq dB ?_);refine ut λw9 b9 e9 aJ=>Bi λbu bv I U=>cX (JV (l:=pi) (aJ.ext I) c U kg 5) ?_;rintro v bw ⟨W,⟨h,_⟩|⟨_,lv,rfl,X⟩⟩;exact absurd Bh.1 h;have aK:QH gK (fA gK pi).2 (5:Int).toNat=[2,3]:=by rw[QI];exact TF
 rw[aK]at X;have aL:=((E8.trans e9).trans I).trans W;have y:=(e9.trans I).trans W;refine dX.jJ (l0:=[(1,dj G),(2,i64 0),(3,T),(4,i64 0),(5,lv),(6,i64 0)]) (by trivial) (dX.seq dB ?_);refine ut λbx bz Y Z=>Bi λbA bB J aa=>iM (JU (l:=pi) (Z.ext J) c aa kg 2) (λw' h=>.inr ⟨rfl,h⟩) ?_;rintro v bC ⟨ab,⟨h,_⟩|⟨_,S⟩⟩;exact absurd Bh.2.1 h;have aM:A9 gK (ei gK (fA gK pi).2 (2:Int).toNat)=some [(3,[0,3]),(4,[2,3])]:=by rw[QI];exact TH
 rw[aM]at S;obtain⟨pv,rfl,aN⟩:=S;have aO:=((aL.trans Y).trans J).trans ab;have d:=(Y.trans J).trans ab;refine dX.jJ (l0:=[(1,dj G),(2,i64 0),(3,T),(4,i64 0),(5,lv),(6,i64 0),(7,pv),(8,i64 0)]) (by trivial) (dX.seq dB ?_);refine ut λbD bE aP ac=>iM (yJ (l:=[]) (la:=none) (lc:=0) ac c (QL _) cL 3 1) (λw' h=>.inr ⟨rfl,h⟩) ?_;rintro v bF ⟨aQ,⟨h,_⟩|⟨_,va,vc,rfl,ad,_⟩⟩;grind [Bh];have aR:jb (mF gK (fA gK []).2 (3:Int).toNat 1) (dJ gK.tries (fA gK []).2)=[0,1]:=by rw[TJ];exact QK
 rw[aR]at ad⊢;have b:=aP.trans aQ;have ae:=aO.trans b;refine dX.jJ (l0:=[(1,dj G),(2,i64 0),(3,T),(4,i64 0),(5,lv),(6,i64 0),(7,pv),(8,i64 0),(9,.slice va 2 vc),(10,i64 0)]) (by trivial) (dX.seq dB ?_);refine ut λbG bH aS af=>Bi λbI bJ ag ah=>er [i64 0,i64 3] 3 λbK z aT aU ai=>ep (EE 3 _ 2 2 _) λbL aV=>er [i64 2,i64 3] 3 λbM A aW aX aj=>ep (EE 4 _ 2 2 _) λbN ak=>er [i64 3,eT z 2 2,i64 4,eT A 2 2] 29 λaY m al aZ f=>?_;have n:=(aV.trans aW).trans (ak.trans al);have K:Bf aY (pr m 0) [(3,[0,3]),(4,[2,3])]:=λk hk=>by have am:k<2:=hk;obtain rfl|rfl:k=0\/k=1:=cM;exact⟨m,0,some (dt z 0),2,rfl,cO f rfl,cO f rfl,mY (n.at_ ai),di _⟩;exact⟨m,0,some (dt A 0),2,rfl,cO f rfl,cO f rfl,mY ((ak.trans al).at_ aj),di _⟩
 have e:=aT.trans n;refine cX (EX (l:=pi) (ps:=[(3,[0,3]),(4,[2,3])]) ((af.ext ag).ext e) c (ah.ext e) kg 2 1 K cL cL) ?_;rintro v bO ⟨a0,rfl⟩;rw[NG];have a:=((aS.trans ag).trans e).trans a0;have bP:=ae.trans a;refine dX.jJ (l0:=[(1,dj G),(2,i64 0),(3,T),(4,i64 0),(5,lv),(6,i64 0),(7,pv),(8,i64 0),(9,.slice va 2 vc),(10,i64 0),(11,.bool true),(12,i64 0)]) (by trivial) (dX.seq dB ?_);have bp:=(((y.trans d).trans b).trans a).at_ aI;refine eZ (ko rfl ?_);refine eZ (ko rfl ?_);refine eZ (ko rfl ?_);refine eZ (ko rfl ?_);refine eZ (ko rfl ?_);refine eZ (ko rfl ?_);refine ko rfl ?_;refine ez (vs:=oU 38 55) (λj v hj=>by rw[dn];grind [cO]) ?_;refine eC (.agg (oU 38 55).toArray)<|eC (.bool true)<|ko rfl<|er [i64 0,i64 1] 3 λbQ B u a1 an=>er [i64 2,i64 3] 3 λbR C o a2 ao=>er [eT B 2 2,eT C 2 2] 27 λap p i a3 D=>?_;obtain⟨wa,wc,rfl,a4,_⟩:=aH.row;have aq:=((((y.trans d).trans b).trans a).trans u).trans (o.trans i);have x:xx ap (pr p 0) [[0,1],[2,3]]:=λk hk=>by have am:k<2:=hk;obtain rfl|rfl:k=0\/k=1:=cM;exact⟨p,0,some (dt B 0),2,rfl,cO D rfl,om (l:=[0,1]) ((o.trans i).at_ an),di _⟩;exact⟨p,0,some (dt C 0),2,rfl,cO D rfl,om (l:=[2,3]) (i.at_ ao),di _⟩
 refine ep (G9 [[0,1],[2,3]] [[0,1],[2,3]] wa _ wc 2 ap (a4.ext aq) x cL cL) λbS L=>ko cL<|er [i64 2,i64 3] 3 λa5 bq M a6 ar=>?_;obtain⟨a7,a8,rfl,a9,_⟩:=X.row;have N:=(((((d.trans b).trans a).trans u).trans (o.trans i)).trans L).trans M;refine ep (rN [2,3] [2,3] a7 _ a8 2 a5 (a9.ext N) (om ar) cL) λbT au=>ko cL<|er [i64 0,i64 3] 3 λbU E ba bb av=>ep (EE 3 _ 2 2 _) λbV aw=>er [i64 2,i64 3] 3 λbW F ax bc ay=>ep (EE 4 _ 2 2 _) λbX O=>er [i64 3,eT E 2 2,i64 4,eT F 2 2] 29 λaz q P bd g=>?_;obtain⟨be,bf,rfl,bg,_⟩:=aN.row;have r:=((ba.trans aw).trans (ax.trans O)).trans P;have Q:=((((((b.trans a).trans u).trans (o.trans i)).trans L).trans M).trans au).trans r;have s:xM az (pr q 0) [(3,[0,3]),(4,[2,3])]:=λk hk=>by have am:k<2:=hk;obtain rfl|rfl:k=0\/k=1:=cM;exact⟨q,0,some (dt E 0),2,rfl,cO g rfl,cO g rfl,om (l:=[0,3]) (((aw.trans (ax.trans O)).trans P).at_ av),di _⟩;exact⟨q,0,some (dt F 0),2,rfl,cO g rfl,cO g rfl,om (l:=[2,3]) ((O.trans P).at_ ay),di _⟩
 refine ep (HH [(3,[0,3]),(4,[2,3])] [(3,[0,3]),(4,[2,3])] be _ bf 2 az (bg.iC (Q.iC 0)) s cL cL) λbY bh=>ko cL<|er [i64 0,i64 1] 3 λbi br bj bk aA=>?_;have t:=((((((a.trans u).trans (o.trans i)).trans L).trans M).trans au).trans r).trans (bh.trans bj);refine ep (rN [0,1] [0,1] va _ vc 2 bi (ad.ext t) (om aA) cL) λbZ bl=>dX.of dB (.inl ⟨_,rfl,?_,(ae.trans t).trans bl⟩);simp
def u64(n:Int):Int:=IntKind.wrap .u64 n
def LK(n:Int):0<=u64 n:=by unfold u64 IntKind.wrap;simp only[IntKind.signed,Bool.false_and,iR,fq];omega
def VV(a b:Int):Int:=u64 (BitVec.ofInt 64 a^^^BitVec.ofInt 64 b).toNat
section
variable{w:cJ}{t:cR}{x y:dU}{a b:Int}
def rU:Sem.run V.prog (do eqGuard .xor t x y (.int .u64 a) (.int .u64 b);binOp .xor t (.int .u64 a) (.int .u64 b)) w=.ok (.int .u64 (VV a b)) w:=rfl
def Bj:Sem.run V.prog (do eqGuard .mul t x y (.int .u64 a) (.int .u64 b);binOp .mul t (.int .u64 a) (.int .u64 b)) w=.ok (.int .u64 (u64 (a*b))) w:=rfl
def QN:Sem.run V.prog (do eqGuard .add t x y (.int .u64 a) (.int .u64 b);binOp .add t (.int .u64 a) (.int .u64 b)) w=.ok (.int .u64 (u64 (a+b))) w:=rfl
def LL(n:Nat)(d:n<=64)(c:b=n:=by rfl):Sem.run V.prog (do eqGuard .shl t x y (.int .u64 a) (.int .u64 b);binOp .shl t (.int .u64 a) (.int .u64 b)) w=.ok (.int .u64 (u64 (a*2^n))) w:=by
 subst c;show Sem.run jV (Op.shift .shl .u64 a .u64 n) w=_;unfold Op.shift;rw[cS dq];have:min (n:Int).toNat IntKind.u64.bits=n:=by simp[IntKind.bits];omega
 rw[this];rfl
def uu(n:Nat)(d:n<=64)(c:b=n:=by rfl):Sem.run V.prog (do eqGuard .shr t x y (.int .u64 a) (.int .u64 b);binOp .shr t (.int .u64 a) (.int .u64 b)) w=.ok (.int .u64 (a.fdiv (2^n))) w:=by
 subst c;show Sem.run jV (Op.shift .shr .u64 a .u64 n) w=_;unfold Op.shift;rw[cS dq];have:min (n:Int).toNat IntKind.u64.bits=n:=by simp[IntKind.bits];omega
 rw[this];rfl
def QO(h:b≠0):Sem.run V.prog (do eqGuard .rem t x y (.int .u64 a) (.int .u64 b);binOp .rem t (.int .u64 a) (.int .u64 b)) w=.ok (.int .u64 (a.tmod b)) w:=by show Sem.run jV (Op.intDiv .rem .u64 a b) w=_;unfold Op.intDiv;rw[cS h];rfl
def Md:Tryz.prog.underlying 3=some (.int .i64):=dq
def QP:Tryz.prog.underlying 119=some (.int .u64):=dq
def LM:Sem.run V.prog (convert 3 119 (.int .i64 a)) w=.ok (.int .u64 (u64 a)) w:=by unfold convert;simp only[Sem.run_bind,iz Md,iz QP,Result.andThen_ok];rfl
def TM:Sem.run V.prog (convert 119 3 (.int .u64 a)) w=.ok (.int .i64 (IntKind.wrap .i64 a)) w:=by unfold convert;simp only[Sem.run_bind,iz Md,iz QP,Result.andThen_ok];rfl
end
section
variable{E:cJ->cJ->Prop}{w:cJ}{kx:cK->Prop}{kr kp kl:io->Prop}{lb ea:Bool}
def rV{s:Sem cK}(v:cK)(b:gH E)(c:∀w,Sem.run V.prog s w=.ok v w)(k:kx v):xq E E w (λa d=>jO V.prog s a d) kx kr kp lb kl ea:=.exact v (λa _=>⟨v,a,c a,rfl,b.refl _⟩) k
end
structure jM(db:Nat)(w:cJ):Prop where
 at_:∃(la:Option Addr) (ns:List Int) (lc i:Nat) (s:Int),w.heap[db]? =some (.cells #[.slice la ns.length lc,.int .i64 i,.int .u64 s] 121)/\iF w la ns/\(∀b o,ns≠[]->la=some ⟨b,o,none⟩->b<db)/\i<=ns.length/\ns.length<=9223372036854775807
def iF.keep{w c:cJ}{a:dW}{l:eY}{F:dp}(h:iF w a l)(k:dz F w c)(g:∀b o,l≠[]->a=some ⟨b,o,none⟩->¬F b):iF c a l:=λi d=>by have⟨b,o,e,f⟩:=h i d;exact⟨b,o,e,k.fe f cL⟩
def jM.lt{w:cJ}(h:jM m w):m<w.heap.size:=by have⟨a,b,c,i,s,d,_⟩:=h.at_;grind
theorem jM.keep{w a:cJ}{F:dp}(h:jM m w)(k:dz F w a)(c:∀b,F b->m<b):jM m a:=by have⟨f,g,j,i,s,l,n,d,p⟩:=h.at_;refine⟨f,g,j,i,s,k.fN l λx=>Nat.lt_irrefl _ (c _ x),n.keep k λb o q e r=>?_,d,p⟩;have:=d b o q e;have:=c b r;omega
def jM.ext{w a:cJ}(h:jM m w)(e:Ext w a):jM m a:=h.keep (e.keep λ_=>False) cL
def DE(c:Nat)(a b:cJ):Prop:=dz (λx=>x=c) a b/\(jM c a->jM c b)
def Ext.de{a b:cJ}(h:Ext a b)(c:Nat):DE c a b:=⟨h.keep _,λk=>k.ext h⟩
theorem DE.trans{a b c:cJ}(h:DE m a b)(k:DE m b c):DE m a c:=⟨h.1.trans k.1 cL cL,λx=>k.2 (h.2 x)⟩
def zo(d:Nat):gH (DE d):=⟨λw=>(Ext.refl w).de d,λa b c h k=>h.trans k,λw=>(Ext.drew w).de d⟩
def TN{w:cJ}(h:jM m w):Calls V.prog 104 #[dj m] w (fO λv p=>(∃z:Int,v=.int .u64 z/\0<=z)/\DE m w p):=by
 have⟨r,g,l,i,s,B,J,R,g4,S⟩:=h.at_
 have C:∀p (D:Int) (t:Nat),dz (λx=>x=m) w p->fF p m #[.slice r g.length l,i64 t,.int .u64 D] 121->t<=g.length->DE m w p:=λp D t k T U=>
  ⟨k,λ_=>⟨r,g,l,t,D,T,J.keep k cL,R,U,S⟩⟩
 refine jd Tryz.func104 Tryz.ntmps104 ?_;refine dE dD (dl (cO B rfl) (dl (cO B rfl) (rV _ dD (λ_=>LL 13 cL) (rV _ dD (λ_=>rU) λw1 K=>dI (K.at_ B) λW E d=>?_))));replace d:fF W m #[.slice r g.length l,i64 i,.int .u64 (VV s (u64 (s*2^13)))] 121:=d;generalize VV s (u64 (s*2^13))=u at d;replace E:=(K.keep (λx=>x=m)).trans E (λ_ _ h=>h) cL;refine dE dD (dl (cO d rfl) (dl (cO d rfl) (rV _ dD (λ_=>uu 7 cL) (rV _ dD (λ_=>rU) λw3 L=>dI (L.at_ d) λX F e=>?_))));replace e:fF X m #[.slice r g.length l,i64 i,.int .u64 (VV u (u.fdiv (2^7)))] 121:=e;generalize VV u (u.fdiv (2^7))=y at e;replace F:=(E.trans (L.keep (λx=>x=m)) (λ_ _ h=>h) cL).trans F (λ_ _ h=>h) cL;refine dE dD (dl (cO e rfl) (dl (cO e rfl) (rV _ dD (λ_=>LL 17 cL) (rV _ dD (λ_=>rU) λw5 M=>dI (M.at_ e) λY j a=>?_))));replace a:fF Y m #[.slice r g.length l,i64 i,.int .u64 (VV y (u64 (y*2^17)))] 121:=a;generalize VV y (u64 (y*2^17))=N at a;replace j:=(F.trans (M.keep (λx=>x=m)) (λ_ _ h=>h) cL).trans j (λ_ _ h=>h) cL;refine dE dD (dl (cO a rfl) (dl (cO a rfl) (mu (G4 λw7 A=>⟨λn=>?_,λZ=>?_⟩))));have n:i<g.length:=cL;replace a:=A.at_ a;replace j:=j.trans (A.keep (λx=>x=m)) (λ_ _ h=>h) cL;have⟨b,o,G,O⟩:=J.keep j cL i n;subst G;generalize g[i]=q at O;refine dE dD (dl (cO a rfl) (dl (cO a rfl) (dl (cO a rfl) (gl i n (dl O ?_)))));refine rV (.int .u64 (u64 q)) dD (λ_=>LM)<|rV (.int .u64 (u64 (u64 q*13787848793156543929))) dD (λ_=>Bj)<|rV (.int .u64 (u64 (N+u64 (u64 q*13787848793156543929)))) dD (λ_=>QN)<|λw8 P=>dI (P.at_ a) λw9 k9 f=>?_;generalize u64 (N+u64 (u64 q*13787848793156543929))=Q at f;replace f:fF w9 m #[FF b o g.length l,i64 i,.int .u64 Q] 121:=f;refine cP (cO f rfl) (cY (dI f λH I c=>?_));replace c:fF H m #[FF b o g.length l,i64 ((i+1:Nat):Int),.int .u64 Q] 121:=c;refine cP (cO c rfl)<|eC _ (eC _ (eC _ (eC _ (eC _ ⟨_,rfl,⟨_,rfl,LK _⟩,?_⟩ λ_=>rU) λ_=>uu 31 cL) λ_=>Bj) λ_=>rU) λ_=>uu 30 cL;exact C _ _ _ (((j.trans (P.keep (λx=>x=m)) (λ_ _ h=>h) cL).trans k9 (λ_ _ h=>h) cL).trans I cL cL) c cM;replace a:=A.at_ a;replace j:=j.trans (A.keep (λx=>x=m)) (λ_ _ h=>h) cL;refine cP (cO a rfl)<|eC _ (eC _ (eC _ (eC _ (eC _ ⟨_,rfl,⟨_,rfl,LK _⟩,?_⟩ λ_=>rU) λ_=>uu 31 cL) λ_=>Bj) λ_=>rU) λ_=>uu 30 cL;grind
def qz{w:cJ}(h:jM m w)(n:Int)(f:n<=1000000):Calls V.prog 35 #[dj m,.int .i64 n] w (fO λv b=>(∃z:Int,v=.int .i64 z/\0<=z/\(z<=n\/z=0))/\DE m w b):=by refine jd Tryz.func35 Tryz.ntmps35 ?_;refine dN ⟨λ_=>⟨_,rfl,⟨0,rfl,dq,.inr rfl⟩,(zo m).refl _⟩,λa=>?_⟩;have a:1<=n:=cL;refine cX (TN h) ?_;rintro v g ⟨⟨z,rfl,i⟩,c⟩;refine eC _ (cY (eC _ (eC _ (eC _ ⟨_,rfl,⟨_,rfl,?_⟩,c⟩ λ_=>TM) λ_=>QO ?_) λ_=>LM)) λ_=>uu 16 cL;have e:u64 (n+1)=n+1:=IntWalk.u64_in _ cM;rw[e];have d:0<=z.fdiv (2^16):=cL;have j:=Int.tmod_nonneg (n+1) d;have k:(z.fdiv (2^16)).tmod (n+1)<n+1:=Int.tmod_lt_of_pos _ cM;grind [IntWalk.i64_in];grind [IntWalk.u64_in,u64]
def my{w:cJ}(h:jM m w)(a b:Int)(g: -1000000<=a/\a<=1000000)(i: -1000000<=b/\b<=1000000)(c:b-a<=1000000):Calls V.prog 30 #[dj m,.int .i64 a,.int .i64 b] w (fO λv d=>(∃z:Int,v=.int .i64 z/\a<=z/\(z<=b\/z=a))/\DE m w d):=by refine jd Tryz.func30 Tryz.ntmps30 ?_;refine fI (cX (qz h _ c) ?_);rintro v j ⟨⟨z,rfl,k,e⟩,f⟩;exact cY ⟨_,rfl,⟨a+z,rfl,cM,cM⟩,f⟩
def EZ{w:cJ}(h:jM m w){l:eY}{c:dW}(f:iF w c l)(p:0<l.length)(g:l.length<=1000)(q:∀b o,c=some ⟨b,o,none⟩->b≠m):Calls V.prog 59 #[dj m,.slice c l.length k] w (fO λv i=>(∃z∈l,v=.int .i64 z)/\DE m w i):=by refine jd Tryz.func59 Tryz.ntmps59 ?_;refine dm (fI (cX (qz h _ cM) ?_));rintro v r ⟨⟨z,rfl,s,j⟩,e⟩;obtain⟨a,rfl⟩:∃a:Nat,z=a:=⟨z.toNat,cM⟩;have d:a<l.length:=cM;obtain⟨b,o,rfl,n⟩:=f.keep e.1 cL a d;exact eX a d (cP n ⟨_,rfl,⟨_,eG d,rfl⟩,e⟩)
def HK{w:cJ}{l:eY}{a:dW}(h:iF w a l)(j:l.length<=9223372036854775807):Calls V.prog 27 #[.slice a l.length m] w (fO λv i=>Ext w i/\∃d,v=dj d/\w.heap.size<=d/\jM d i):=by refine jd Tryz.func27 Tryz.ntmps27 ?_;refine eC (.agg #[.slice a l.iw m,i64 0,.int .u64 11400714819323198485]) (eJ λr k f g n=>?_);refine⟨_,rfl,f,k,rfl,g,a,l,m,0,11400714819323198485,n,h.ext f,λb o s e=>?_,gh _,j⟩;have p:0<l.iw:=cL;have⟨t,u,c,q⟩:=h 0 p;rw[e]at c;injection c with c;injection c with f x;have:=vh q;grind
def eO.at_(h:eO m w x l)(d:0<l.length):∃b c,x=.slice (some ⟨b,0,none⟩) l.length c/\m<=b/\∀k (a:k<l.length),w.cell? ⟨b,0+k,none⟩=some (.int .i64 l[k]):=by have⟨b,c,e,f,g⟩:=dg.cell h d;exact⟨b,c,e,f,λk a=>by rw[dn];exact g k _ (by simp[gA,ft a])⟩
def fJ.keep(h:fJ w a l)(k:dz A w t)(d:∀b o,a=some ⟨b,o,none⟩->¬A b):fJ t a l:=λi e=>by have⟨b,o,c,f⟩:=h i e;exact⟨b,o,c,k.fe f (d b o c)⟩
def mz(b:Nat)(w:cJ)(v:cK)(a:List Dr):Prop:=dg b 81 [.int .i64 0,.int .i64 0,.int .i64 0] w v a.length (a.flatMap dL)
theorem re:∀a:List Dr,(a.flatMap dL).length=a.length*3
 |[]=>rfl
 |d::r=>by have:=re r;simp[dL,this];omega
def mz.row{d:List Dr}(h:mz m w x d):∃a c,x=.slice a d.length c/\gZ w a d/\d.length<=c:=by obtain⟨j,⟨g,rfl⟩|⟨b,c,l,n,rfl,e,o,i,p,q,r⟩⟩:=h;exact⟨none,0,cL,λk f=>cM,cM⟩;refine⟨_,c,rfl,λk f=>?_,i⟩;have⟨s,t,u⟩:=wu d k f;have g:=re d;refine⟨b,0,rfl,cO e ?_,cO e ?_,cO e ?_⟩;grind;grind;grind
def mz.VX{b:List Dr}(h:mz m w (.slice a b.length k) b):gZ w a b:=by have⟨c,d,e,h,_⟩:=h.row;grind
structure Dg(n:Int)(d:Dr):Prop where
 st:0<=d.st/\d.st<=n-1
 at_:0<=d.at_/\d.at_<=20
 talk:1<=d.talk/\d.talk<=9
theorem yK:∀{f:List Dr},(∀d∈f,Dg I d)->mS I f=0
 |[],_=>rfl
 |d::r,h=>by
  have e:=h d fW;have:oQ I d=0:=by have a:=e.st;have b:=e.at_;have c:=e.talk;grind [oQ,kT]
  simp only[mS,this,em];exact yK cL
def GE(c:Nat)(v:cK)(a b:cJ):Prop:=dz (λx=>x=c\/cW v x) a b/\(jM c a->jM c b)
def DE.ge(h:DE m w t):GE m x w t:=⟨h.1.trans (dz.refl (λ_=>False) _) cL cL,h.2⟩
def Yw(d:Nat)(v:cK):gH (GE d v):=⟨λw=>((Ext.refl w).de d).ge,λa b c h k=>⟨h.1.trans k.1 cL cL,λx=>k.2 (h.2 x)⟩,λw=>((Ext.drew w).de d).ge⟩
structure Z2(n0 gb:Nat)(st co kn mi da tr:Int)(ds:List Dr)(v:cK)(w:cJ):Prop where
 g:w.heap[gb]? =some (.cells #[.int .i64 st,.int .i64 co,.int .i64 kn,.int .i64 mi,.int .i64 da,.int .i64 tr,v] 24)
 r:mz n0 w v ds
 ok:∀d∈ds,Dg st d
def NJ(p:Int->Prop)(v:cK):Prop:=∃z:Int,v=.int .i64 z/\p z
def mz.low{a:List Dr}(h:mz m w x a)(g:k<=m):mz k w x a:=by obtain⟨d,h|⟨b,c,e,i,f⟩⟩:=h;exact⟨d,.inl h⟩;exact⟨d,.inr ⟨b,c,e,cM,f⟩⟩
def Fa(h:jM m w)(n:Nat)(hn:n<=5):Calls V.prog 28 #[dj m,.int .i64 n] w (fO λv Z=>DE m w Z/\∃G a c,v=gV G a c/\mz w.heap.size Z (.slice a G.doors.length c) G.doors/\gZ Z a G.doors/\eo G=0/\G.doors.length<=n):=by
 have aE:=h.lt;refine jd Tryz.func28 Tryz.ntmps28 ?_;refine eU λw1 rb e1 aF hr=>?_;have f:=h.ext e1;have aD:=dA.lt_of_heap hr;have ar:=e1.size;refine cX (my f 1 3 cM cM cM) ?_;rintro _ w2 ⟨⟨F,rfl,s1,s2⟩,O⟩;refine cX (my (O.2 f) 1 5 cM cM cM) ?_;rintro _ t ⟨⟨co,rfl,c1,c2⟩,d3⟩;replace d3:=O.trans d3;refine cX (my (d3.2 f) 1 3 cM cM cM) ?_;rintro _ B ⟨⟨kn,rfl,k1,k2⟩,d4⟩;replace d4:=d3.trans d4;refine cX (my (d4.2 f) 20 45 cM cM cM) ?_;rintro _ w5 ⟨⟨a1,rfl,a2,a3⟩,d5⟩;replace d5:=d4.trans d5;refine cX (my (d5.2 f) 30 60 cM cM cM) ?_;rintro _ w6 ⟨⟨b1,rfl,b2,b3⟩,d6⟩;replace d6:=d5.trans d6;refine cX (my (d6.2 f) 1 90 cM cM cM) ?_;rintro _ w7 ⟨⟨x1,rfl,x2,x3⟩,d7⟩;replace d7:=d6.trans d7;refine er [i64 a1,i64 b1,i64 x1] 3 λw8 mb e8 aG D=>?_;have d8:=d7.trans (e8.de m);have s7:=d7.1.size;refine cX (EZ (l:=[a1,b1,x1]) (d8.2 f) (mY D) dq dq (λb o e=>by injection e with e;injection e with e;omega)) ?_;rintro _ w9 ⟨⟨S,ad,rfl⟩,d9⟩;replace d9:=d8.trans d9;have ad:1<=S/\S<=90:=by simp only[fi,pA,mh]at ad;omega
 refine er [i64 1,i64 2,i64 2,i64 3,i64 3] 3 λaH yb au aI hy=>?_;have aa:=d9.trans (au.de m);have s9:=d9.1.size;refine cX (EZ (l:=[1,2,2,3,3]) (aa.2 f) (mY hy) dq dq (λb o e=>by injection e with e;injection e with e;omega)) ?_;rintro _ aJ ⟨⟨P,ae,rfl⟩,J⟩;replace J:=aa.trans J;have ae:1<=P/\P<=3:=by simp only[fi,pA,mh]at ae;omega
 refine eC (.agg #[i64 F,i64 co,i64 kn,i64 S,i64 P,i64 0,fo]) (eU λaK Q av aw hg=>dI hg λaf ax H=>?_);replace H:fF af Q #[i64 F,i64 co,i64 kn,i64 S,i64 P,i64 0,fo] 24:=H;have aL:=J.1.size;have T:DE m w1 af:=J.trans ((Ext.cT av ax aw).de m);refine cP (cO H rfl) (cX (my (T.2 f) 1 P cM cM cM) ?_);rintro _ aM ⟨⟨tr,rfl,t1,t2⟩,U⟩;have ag:=U.1.fN H (show¬Q=m by omega);refine dI ag λah ai K=>?_;replace K:fF ah Q #[i64 F,i64 co,i64 kn,i64 S,i64 P,i64 tr,fo] 24:=K;have aj:DE m w1 ah:=⟨(T.trans U).1.trans ai (λ_ _ h=>h) (λx A e=>cM),λx=>((T.trans U).2 x).keep ai λb e=>cM⟩;refine cX (qz (aj.2 f) n cM) ?_;rintro _ aN ⟨⟨z,rfl,z1,z2⟩,L⟩;have ak:=L.1.fN K (show¬Q=m by omega);replace L:=aj.trans L;have al:=L.1.fN hr (show¬rb=m by omega);clear U T J aa d9 d8 d7 d6 d5 d4 d3 O;refine fc z.toNat (λ_ (s:(List Dr×cK)×Int)=>[(0,dj m),(4,dj rb),(5,dj Q),(6,i64 s.2)]) (λk s Z=>DE m w1 Z/\Z2 w1.heap.size Q F co kn S P tr s.1.1 s.1.2 Z/\Z.heap[rb]? =some (.cells (pJ 24).toArray 24)/\s.1.1.length=k/\s.2=z-k) (([],fo),z) ⟨by trivial,L,⟨ak,dg.nil _ _ _ _,λd M=>by cases M⟩,al,rfl,dq⟩ ?_;rintro k ⟨⟨R,v⟩,i⟩ w2 hk ⟨O,D,X,am,hi⟩;simp only at D am hi;refine mI ⟨λan=>?_,λab=>?_⟩;have an:0<i:=fB an;have W:∀b,cW v b->w1.heap.size<=b/\b<w2.heap.size:=λb E=>dg.blk D.r E;have ay:¬(Q=m\/cW v Q):=by rintro(e|E);omega;have⟨cs,q⟩:=dg.c_ D.r E;exact lf q D.g kg
 have hg:∀t,GE m v w2 t->fF t Q #[i64 F,i64 co,i64 kn,i64 S,i64 P,i64 tr,v] 24:=λt p=>p.1.fN D.g ay;have hD:=O.2 f;have s2:=O.1.size;have fresh:∀{a b:cJ} {x:Nat} {o:Obj},a.heap[x]? =some o->GE m v a b->w2.heap.size<=x->b.heap[x]? =some o:=λA e ab=>e.1.fN A (by rintro(e|E);omega;have:=(W _ E).2;omega);refine gQ 20 (zo m) (Yw m v) (λa b h=>h.ge)<| .exact v (λt p=>cP (cO (hg t p) rfl) ⟨rfl,(zo m).refl _⟩)<| .exact (i64 F) (λt p=>cP (cO (hg t p) rfl) ⟨rfl,(zo m).refl _⟩)<| .exact (i64 (F-1)) (λt p=>fI ⟨rfl,(zo m).refl _⟩)<| .rel (λu _=>NJ (λx=>0<=x/\x<=F-1) u) (λ_ _ _ h _=>h) (λt p=>cX (qz (p.2 hD) _ cM) λu B ⟨⟨x,e,f,I⟩,d⟩=>⟨⟨x,e,cM⟩,d⟩)<| .rel (λu _=>NJ (λx=>0<=x/\x<=20) u) (λ_ _ _ h _=>h) (λt p _ _=>cX (qz (p.2 hD) 9 cM) λu B ⟨⟨x,e,f,I⟩,d⟩=>⟨⟨x,e,cM⟩,d⟩)<| .rel (λu _=>NJ (λx=>0<=x/\x<=20) u) (λ_ _ _ h _=>h) (λt p _ _=>cX (qz (p.2 hD) 9 cM) λu B ⟨⟨x,e,f,I⟩,d⟩=>⟨⟨x,e,cM⟩,d⟩)<| .rel (λu _=>NJ (λx=>0<=x/\x<=20) u) (λ_ _ _ h _=>h) (λt p _ _=>cX (qz (p.2 hD) 20 cM) λu B ⟨⟨x,e,f,I⟩,d⟩=>⟨⟨x,e,cM⟩,d⟩)<| .rel (λu B=>∃b x y z:Int,∃C:Nat,u=eT C 3 3/\w2.heap.size<=C/\B.heap[C]? =some (.cells ([x,y,z].map (Value.int .i64)).toArray 3)/\∀j∈[x,y,z],0<=j/\j<=20) (λu a b ⟨_,x,y,z,C,f,I,Y,h4⟩ e=>⟨0,x,y,z,C,f,I,fresh Y e I,h4⟩) (λt p u1 f u2 I u3 Y=>?_) ?_;obtain⟨x,rfl,A⟩:=f;obtain⟨y,rfl,hy⟩:=I;obtain⟨z,rfl,hz⟩:=Y;have:=p.1.size;refine er [i64 z,i64 y,i64 x] 3 λB C N ao E=>⟨⟨0,z,y,x,C,rfl,cM,E,?_⟩,N.de m⟩;intro j hj;simp only[fi,pA,mh]at hj;omega;refine .rel (λu _=>NJ (λx=>0<=x/\x<=20) u) (λ_ _ _ h _=>h) (λt p u1 f _ _=>?_) ?_;obtain⟨_,x,y,z,C,rfl,g1,g2,g3⟩:=f;refine cX (EZ (l:=[x,y,z]) (p.2 hD) (mY g2) dq dq (λb o e=>by injection e with e;injection e with e;omega)) λu B ⟨⟨j,hj,e⟩,d⟩=>⟨⟨j,e,g3 j hj⟩,d⟩;refine .rel (λu _=>NJ (λx=>1<=x/\x<=9) u) (λ_ _ _ h _=>h) (λt p _ _=>cX (my (p.2 hD) 1 6 cM cM cM) λu B ⟨⟨x,e,f,I⟩,d⟩=>⟨⟨x,e,cM⟩,d⟩)<| .rel (λu _=>∃d,Dg F d/\u=.agg (dL d).toArray) (λ_ _ _ h _=>h) (λt p u1 f u2 I u3 Y=>?_) ?_;obtain⟨x,rfl,A⟩:=f;obtain⟨y,rfl,hy⟩:=I;obtain⟨z,rfl,hz⟩:=Y;exact eC (.agg (dL ⟨z,y,x⟩).toArray) ⟨⟨⟨z,y,x⟩,⟨hz,hy,A⟩,rfl⟩,(zo m).refl _⟩;refine .rel (λu B=>∃(d:Dr) (C:Nat),Dg F d/\u=eT C 1 1/\w2.heap.size<=C/\B.heap[C]? =some (.cells (dL d).toArray 81)) (λu a b ⟨d,C,f,I,Y,h4⟩ e=>⟨d,C,f,I,Y,fresh h4 e Y⟩) (λt p u1 f=>?_) ?_;obtain⟨d,M,rfl⟩:=f;have:=p.1.size;exact er (dL d) 81 λB C N ao E=>⟨⟨d,C,M,rfl,cM,E⟩,N.de m⟩;refine .spec (λu B=>∃d,Dg F d/\mz w1.heap.size B u (R++[d])) (λu a b ⟨d,M,hu⟩ e=>⟨d,M,dg.keep hu e.1 λx A e=>Cq ((dg.blk hu A).1) f.lt⟩) (λB N u1 f _ _=>?_) ?_;obtain⟨d,C,M,rfl,ao,E⟩:=f;have az:mz w1.heap.size B v R:=dg.keep D.r N.1 λx A e=>Cq ((dg.blk D.r A).1) h.lt;have:=N.1.size;refine hH SY az cM E cM λv' w5 g1 g2 g3=>⟨⟨d,M,by simpa[mz]using g1⟩,g2.trans (dz.refl (λ_=>False) _) (λ_ _ h=>.inr h) (λ_ _ h=>h.elim),λx=>x.keep g2 λb E=>?_⟩;have:=(W b E).1;omega;rintro B N u1 ⟨d,M,hu⟩ _ _ _ _ _ _ _ _ _ _ _ _ _ _ _ _ _ _;obtain⟨a9,c9,rfl,_⟩:=mz.row hu;have q4:=hg B N;refine dI q4 λw5 k5 aA=>fI ⟨cM,((R++[d],.slice a9 (R++[d]).length c9),i-1),by trivial,⟨(O.1.trans N.1 (λ_ _ h=>h) λx A e=>?_).trans k5 (λ_ _ h=>h) λx A e=>cM,λx=>(N.2 (O.2 x)).keep k5 λb e=>cM⟩,⟨aA,dg.keep hu k5 λx A e=>?_,λx A=>?_⟩,?_,rp,by simp only;omega⟩;obtain e|e:=e;exact e;have:=(W x e).1;omega;subst e;have⟨cs,q⟩:=dg.c_ hu A;exact lf q q4 kg;obtain A|A:=jQ.1 A;exact D.ok x A;obtain rfl:=jE.1 A;exact M;refine k5.fN (N.1.fN X ?_) cM;rintro(e|E);omega;have:=(W _ E).1;omega;have ab:i<=0:=fB ab;obtain⟨a,c,rfl,aO,hc⟩:=mz.row D.r;have⟨G,hG⟩:=ju (⟨F,co,kn,S,P,tr,R⟩:Gd);have ac:R=G.doors:=by rw[hG]
 have hg:w2.heap[Q]? =some (.cells (gL G a c).toArray 24):=by rw[hG];exact D.g
 refine eF hg (dI X λt k3 ap=>?_);have aB:t.heap[rb]? =some (.cells (gL G a c).toArray 24):=ap.trans (dH (λa=>some (Obj.cells a 24)) (ef (pJ 24).toArray (gL G a c) rfl));have hl:Sem.run V.prog (loadVar 24 (dt rb 0)) t=.ok (gV G a c) t:=jy (gL G a c) aB λj v hj=>by rw[dn];simpa using hj
 clear ap;have aq:∀x,cW (.slice a R.length c) x->¬x=rb:=λx A e=>by have:=(dg.blk D.r A).1;omega
 refine⟨gV G a c,hl,_,rfl,⟨((e1.keep _).trans O.1 (λ_ _ h=>h) λ_ _ h=>h).trans k3 (λ_ _ h=>h) λx A e=>cM,λx=>(O.2 (x.ext e1)).keep k3 λb e=>cM⟩,G,a,c,rfl,?_,?_,?_,by rw[<-ac];omega⟩;rw[<-ac];exact mz.low (dg.keep D.r k3 aq) ar;rw[<-ac];exact mz.VX (dg.keep D.r k3 aq);have aC:∀d∈R,Dg F d:=D.ok;rw[hG];have M:=yK aC;have hh:lj ⟨F,co,kn,S,P,tr,R⟩=true:=by simp only[lj,kT,eW,kM];omega
 have h5:¬(5:Int)<R.length:=cM;simp only[eo,hh,em,h5,fq];exact M
def tJ(W:Nat->Nat->Int)(a:Nat):cN->Nat->Int
 |[],z=>W a z
 |d::r,z=>W a (d+1)+tJ W (d+1) r z
def tK(W:Nat->Nat->Int)(l:cN):pL W l=tJ W 0 l 0:=by
 have b:∀k,k<=l.iw->vp W l k+tJ W (wY l k) (l.drop k) 0=tJ W 0 l 0:=by
  intro k;induction k with
  |zero=>intro _;simp[vp,wY]
  |succ k c=>
   intro d;have a:k<l.iw:=d;rw[<-c cM,nN a];have:wY l (k+1)=l[k]+1:=by simp[wY,ft a]
   simp only[vp,tJ,getD_eq a,this];omega
 rw[<-b l.iw (di _),List.drop_length];rfl
theorem Dh{W:Nat->Nat->Int}(b:∀i j,W i j<=W i (d+1)+W (d+1) j)(y:cN):∀(x:cN) (a z:Nat),tJ W a (x++y) z<=tJ W a (x++d::y) z
 |[],a,z=>by
  cases y with
  |nil=>exact b a z
  |cons e r=>
   have:=b a (e+1);simp only[qI,tJ];omega
 |e::r,a,z=>by have:=Dh b y r (e+1) z;simp only[nM,tJ];omega
def QQ(f:0<=I){a b x:Dr}(j:0<=a.at_)(k:0<=b.at_)(l:0<=x.at_):xw I a b<=xw I a x+xw I x b:=by
 have h:∀p q,0<=mR p q:=λp q=>by unfold mR;omega
 have i:mR a.st b.st<=mR a.st x.st+mR x.st b.st:=by unfold mR;omega
 have m:=Int.mul_le_mul_of_nonneg_left i f;rw[Int.mul_add]at m;have n:=zM f (h a.st x.st);have o:=zM f (h x.st b.st);unfold xw;by_cases d:a.st=b.st;by_cases c:a.st=x.st;rw[cV d,cV c,cV (c.symm.trans d)];unfold mR;omega;rw[cV d,cS c,cS (λe=>c (d.trans e.symm))];unfold mR at*;omega;by_cases c:a.st=x.st;rw[cS d,cV c,cS (λe=>d (c.trans e)),<-c];have:a.at_<=mR a.at_ x.at_+x.at_:=by unfold mR;omega
 omega;by_cases g:x.st=b.st;rw[cS d,cS c,cV g,g];have:b.at_<=x.at_+mR x.at_ b.at_:=by unfold mR;omega
 omega;rw[cS d,cS c,cS g];omega
def QS(h:H.Ok)(m:d<H.doors.length)(i j:Nat):lA H i j<=lA H i (d+1)+lA H (d+1) j:=by
 have e:=(n4 h i (d+1)).1;have f:=(n4 h (d+1) j).1;have g:∀x∈eA H,0<=x.at_:=λx c=>by obtain rfl|c:=fi.1 c;simp;exact(h.door x c).2.1.1
 have⟨x,c⟩:∃x,(eA H)[d+1]? =some x:=⟨H.doors[d],by simp[eA,ft m]⟩;unfold lA at e f⊢;rw[c]at e f⊢;cases k:(eA H)[i]? with
 |none=>rw[k]at e;simpa using f
 |some a=>
  cases l:(eA H)[j]? with
  |none=>
   rw[k]at e;rw[l]at f;simpa using e
  |some b=>exact QQ (iI h.corner) (g a (pz k)) (g b (pz l)) (g x (pz c))
theorem HN:∀(l m:eY),(l++m).sum=l.sum+m.sum
 |[],m=>dq
 |a::r,m=>by have:=HN r m;simp only[nM,List.sum_cons];omega
def lh(G:Gd)(l m:cN):kC G (l++m)=kC G l+kC G m:=by unfold kC;rw[qH,HN]
def NK(h:H.Ok)(d:Nat):0<=kC H [d]:=by
 have e:kC H [d]=((H.doors[d]?).map (·.talk)).getD 0:=by simp[kC]
 rw[e];cases a:H.doors[d]? with
 |none=>simp
 |some x=>
  have:=(h.door x (pz a)).2.2;simp only[mg,kK];omega
def HQ(h:H.Ok)(a:d<H.doors.length)(x y:cN):ji H (x++y)<=ji H (x++d::y):=by have b:=Dh (QS h a) y x 0 0;have c:=h.knock;unfold ji xv;rw[tK,tK];have e:(((x++d::y).length:Nat):Int)=((x++y).length:Nat)+1:=rp;rw[e,Int.add_mul];omega
def JX(h:H.Ok)(a:d<H.doors.length)(x y:cN):iA H (x++y)<=iA H (x++d::y):=by have b:=HQ h a x y;have c:=NK h d;have e:=lh H x y;have f:=lh H x (d::y);have g:kC H (d::y)=kC H [d]+kC H y:=lh H [d] y;unfold iA;omega
theorem LN:∀{l:eY} (i:Nat),I∉l->sC I l i= -1
 |[],_,_=>rfl
 |y::r,i,h=>by have a:¬I=y:=λe=>h (by rw[e];exact fW);simp only[sC,cS a];exact LN (i+1) λb=>h (jD _ b)
def HT(h:jM m w)(n:Int)(c: -1000000<=n/\n<=1000000):Calls V.prog 93 #[dj m,.int .i64 n] w (fO λv a=>(∃b,v=.bool b)/\DE m w a):=by refine jd Tryz.func93 Tryz.ntmps93 ?_;refine fI (cX (qz h (n-1) cM) ?_);rintro _ e ⟨⟨z,rfl,_⟩,d⟩;exact eZ ⟨_,rfl,⟨_,rfl⟩,d⟩
def Wj(t:Ty):Tq:=⟨t.door,t.shift,t.opened⟩
def Bl(w:cJ)(a:dW)(l:List Ty):Prop:=∀k (h:k<l.length),∃b o,a=some ⟨b,o,none⟩/\∀j v,(tL l[k])[j]? =some v->w.cell? ⟨b,o+k*3+j,none⟩=some v
def Bl.ext{l:List Ty}(h:Bl w a l)(e:Ext w t):Bl t a l:=λk c=>by have⟨b,o,d,f⟩:=h k c;exact⟨b,o,d,λj v g=>e.cell cL⟩
def Bl.q{l:List Ty}(h:Bl w a l):kz w a (l.map Wj):=λk c=>by have⟨b,o,d,e⟩:=h k cL;grind [uP,Wj,tL]
def nC(l:List Ty)(d h:Nat):Nat:=(l.filter λt=>decide (t.door=d/\t.shift%2=h)).length
def Bm(l:List Ty)(d:Nat):Bool:=l.any λt=>decide (t.door=d)&&t.opened
def NL(l:List Ty)(d a:Nat):Bool:=l.any λt=>decide (t.door=d)&&decide (t.shift/2=a)
def vB(l:List Ty)(t:Ty)(d h:Nat):nC (l++[t]) d h=nC l d h+if t.door=d/\t.shift%2=h then 1 else 0:=by grind [List.length_append,nC,List.filter]
def vC(l:List Ty)(t:Ty)(d:Nat):Bm (l++[t]) d=(Bm l d||(decide (t.door=d)&&t.opened)):=by simp[Bm]
def Bn(l:List Ty)(t:Ty)(d a:Nat):NL (l++[t]) d a=(NL l d a||(decide (t.door=d)&&decide (t.shift/2=a))):=by simp[NL]
def Bo(l:List Ty)(d h:Nat):nC l d h<=l.length:=List.length_filter_le ..
def LO{m n:Nat}(a:0<n)(w:cJ):Calls V.prog 34 #[.int .i64 m,.int .i64 n] w (fO λv b=>v=.int .i64 ((m%n:Nat):Int)/\b=w):=by refine go (V.fn Tryz.func34 cL) Tryz.ntmps34 ?_;exact tx a (dN (kZ cL ⟨_,rfl,rfl,rfl⟩))
def HU{l:List Ty}{lc:Nat}(r:Bl w a l)(q:l.length<=100000)(d h:Nat):Calls V.prog 74 #[.slice a l.length lc,.int .i64 d,.int .i64 h] w (fO λv m=>v=.tuple #[.int .i64 (nC l d h),.bool (Bm l d)]/\m=w):=by refine go (V.fn Tryz.func74 cL) Tryz.ntmps74 ?_;refine fc l.length (λk (_:Unit)=>[(0,.slice a l.length lc),(1,i64 d),(2,i64 h),(8,i64 (nC (l.take k) d h)),(9,.bool (Bm (l.take k) d)),(10,i64 k)]) (λ_ _ m=>m=w) () ⟨by trivial,rfl⟩ ?_;rintro k _ x y rfl;refine dm (dN ⟨λs=>?_,λt=>?_⟩);have c:k<l.length:=cL;obtain⟨b,o,rfl,j⟩:=r k c;have u:=Bo (l.take k) d h;rw[Oy]at u;have g:=vB (l.take k) l[k] d h;have i:=vC (l.take k) l[k] d;rw[<-iT c]at g i;refine fH k 3 c (cP (j 0 _ rfl) (eZ ⟨λf=>?_,λf=>?_⟩));have f:l[k].door=d:=cL;rw[decide_eq_true f,Bool.true_and]at i;refine⟨λp=>?_,λp=>?_⟩;rw[p,Bool.true_or]at i;refine fH k 3 c (cP (j 1 _ rfl) (dF (LO (n:=2) dq _) (eZ ⟨λe=>?_,λe=>?_⟩)));have e:l[k].shift%2=h:=cL;rw[cV ⟨f,e⟩]at g;refine cY (cY ⟨c,(),⟨rfl,rfl,rfl,?_,?_,rfl,trivial⟩,rfl⟩);show some _=some _;grind;show some _=some _;grind;have e:¬l[k].shift%2=h:=cL;rw[cS cM,pB (nC (l.take k) d h)]at g;refine cY ⟨c,(),⟨rfl,rfl,rfl,?_,?_,rfl,trivial⟩,rfl⟩;show some _=some _;grind;show some _=some _;grind;rw[p,Bool.false_or]at i;refine fH k 3 c (cP (j 2 _ rfl) (fH k 3 c (cP (j 1 _ rfl) (dF (LO (n:=2) dq _) (eZ ⟨λe=>?_,λe=>?_⟩)))));have e:l[k].shift%2=h:=cL;rw[cV ⟨f,e⟩]at g;refine cY (cY ⟨c,(),⟨rfl,rfl,rfl,?_,?_,rfl,trivial⟩,rfl⟩);show some _=some _;grind;show some _=some _;grind;have e:¬l[k].shift%2=h:=cL;rw[cS cM,pB (nC (l.take k) d h)]at g;refine cY ⟨c,(),⟨rfl,rfl,rfl,?_,?_,rfl,trivial⟩,rfl⟩;show some _=some _;grind;show some _=some _;grind;have f:¬l[k].door=d:=cL;rw[cS cM,pB (nC (l.take k) d h)]at g;rw[lK f,Bool.false_and,Bool.or_false]at i;refine cY ⟨c,(),⟨rfl,rfl,rfl,?_,?_,rfl,trivial⟩,rfl⟩;show some _=some _;grind;show some _=some _;grind;obtain rfl:k=l.length:=cL;rw[j5];exact⟨_,rfl,rfl,rfl⟩
def Bp(G:Gd)(a b:Nat):Bool:=decide (G.tries<=(a:Int)+b)&&(decide (G.tries<2)||(decide (0<(a:Int))&&decide (0<(b:Int))))
def QT{G:Gd}{h:dW}{i:Nat}{w:cJ}(a b:Nat)(m:a<=1000000)(j:b<=1000000):Calls V.prog 75 #[gV G h i,.int .i64 a,.int .i64 b] w (fO λv k=>v=.bool (Bp G a b)/\Ext w k):=by refine go (V.fn Tryz.func75 cL) Tryz.ntmps75 ?_;refine eJ λn o e l g=>cY (cP (cO g rfl) (uN ⟨λd=>?_,λd=>?_⟩));refine cP (cO g rfl) (dN ⟨λf=>?_,λf=>?_⟩);exact⟨_,rfl,by simp[Bp,d,f],e⟩;refine mI ⟨λc=>?_,λc=>?_⟩;have c:0<(a:Int):=fx c;exact mI ⟨_,rfl,by rw[Bp,d,f,decide_eq_true c];rfl,e⟩;have c:¬0<(a:Int):=ie c;exact⟨_,rfl,by rw[Bp,d,f,lK c];rfl,e⟩;exact⟨_,rfl,by simp[Bp,d],e⟩
def JY(G:Gd)(l:List Ty)(d:Nat):Bool:=Bm l d||Bp G (nC l d 0) (nC l d 1)
def Fb{G:Gd}{g:dW}{dc:Nat}{l:List Ty}{e:dW}{lc:Nat}{w:cJ}(f:Bl w e l)(a:l.length<=100000)(d:Nat):Calls V.prog 49 #[gV G g dc,.slice e l.length lc,.int .i64 d] w (fO λv h=>v=.bool (JY G l d)/\Ext w h):=by refine go (V.fn Tryz.func49 cL) Tryz.ntmps49 ?_;refine eJ λm n b i j=>?_;have o:=Bo l d 0;have p:=Bo l d 1;refine dF (HU (f.ext b) a d 0) (dF (HU (f.ext b) a d 1) ⟨λc=>?_,λc=>?_⟩);exact⟨_,rfl,by simp[JY,c],b⟩;refine eF j (ep (QT (nC l d 0) (nC l d 1) cM cM) λq k=>⟨_,rfl,by simp[JY,c],b.trans k⟩)
def HV{l:List Ty}(r:Bl w a l)(p:l.length<=100000)(s:∀t∈l,t.shift<=1000000)(d c:Nat):Calls V.prog 98 #[.slice a l.length m,.int .i64 d,.int .i64 c] w (fO λv i=>v=.bool (NL l d c)/\i=w):=by refine go (V.fn Tryz.func98 cL) Tryz.ntmps98 ?_;refine fc l.length (λk (_:Unit)=>[(0,.slice a l.length m),(1,i64 d),(2,i64 c),(7,i64 k)]) (λk _ i=>i=w/\NL (l.take k) d c=false) () ⟨by trivial,rfl,by simp[NL]⟩ ?_;rintro k _ A B ⟨rfl,f⟩;refine dm (dN ⟨λu=>?_,λx=>?_⟩);have e:k<l.length:=cL;obtain⟨b,o,rfl,q⟩:=r k e;have y:=Bn (l.take k) l[k] d c;rw[<-iT e,f,Bool.false_or]at y;have z:=s _ (eG e);have j:l[k].door=d->l[k].shift/2=c->NL l d c=true:=λg h=>List.any_eq_true.2 ⟨_,eG e,by simp[g,h]⟩;refine fH k 3 e (cP (q 0 _ rfl) (eZ ⟨λg=>?_,λg=>?_⟩));have g:l[k].door=d:=cL;refine fH k 3 e (cP (q 1 _ rfl) (lQ (n:=2) cM cM (eZ ⟨λh=>?_,λh=>?_⟩)));have h:l[k].shift/2=c:=cL;exact⟨_,rfl,by rw[j g h];rfl,rfl⟩;have h:¬l[k].shift/2=c:=cL;exact cY ⟨e,(),by trivial,rfl,cL⟩;have g:¬l[k].door=d:=cL;exact kZ rfl (cY ⟨e,(),by trivial,rfl,cL⟩);obtain rfl:k=l.length:=cL;rw[j5]at f;exact⟨_,rfl,by rw[f];rfl,rfl⟩
def wI(l:List Ty)(d:Nat):Sx:=⟨((nC l d 0+nC l d 1:Nat):Int),(nC l d 0:Nat),(nC l d 1:Nat),Bm l d,NL l d 0,NL l d 1,NL l d 2,false⟩
def NM(G:Gd)(l:List Ty)(d:Nat):gY G.tries (wI l d)=JY G l d:=by simp only[gY,wI,JY,Bp,Bool.false_or,Int.natCast_add];rfl
theorem QU(l:List Ty)(d k:Nat)(a:k<3):px (wI l d) k=NL l d k:=by obtain rfl|rfl|rfl:k=0\/k=1\/k=2:=cM;all_goals rfl
def JZ(l:List Ty)(d s:Nat)(o:Bool)(c:s<6):ik (wI l d) s o=wI (l++[⟨d,s,o⟩]) d:=by have b:s%2=0\/s%2=1:=cM;have a:s/2=0\/s/2=1\/s/2=2:=cM;simp only[ik,wI,vB,vC,Bn,true_and,decide_true,Bool.true_and];obtain b|b:=b<;>obtain a|a|a:=a<;>simp[b,a]<;>omega
theorem J0(l:List Ty)(t:Ty)(d:Nat)(h:t.door≠d):wI (l++[t]) d=wI l d:=by simp only[wI,vB,vC,Bn,h,false_and,fq,pB,decide_false,Bool.false_and,Bool.or_false]
def lastT(b:Int)(l:List Tq):Int:=match l.getLast? with
 |some t=>t.shift
 |none=>b
theorem Di(G:Gd)(t:Tq):∀(l:List Tq) (c a:List Sx) (b:Int),oZ G c b l=(0,a)->oZ G c b (l++[t])=oZ G a (lastT b l) [t]
 |[],c,a,b,h=>by simp only[oZ,Prod.mk.injEq,true_and]at h;subst h;rfl
 |x::r,c,a,b,h=>by
  have e:lastT b (x::r)=lastT x.shift r:=by unfold lastT;rw[List.getLast?_cons];cases r.getLast?<;>rfl
  rw[e,nM];simp only[oZ]at h;conv=>lhs;unfold oZ
  split at h;rename_i d;rw[cV d];split at h;simp at h;rename_i f;rw[cS f];split at h;simp at h;rename_i g;rw[cS g];split at h;simp at h;rename_i i;rw[cS i];exact Di G t r _ a _ h;simp at h
structure Made(G:Gd)(l:List Ty)(s:Nat):Prop where
 log:fA G (l.map Wj)=(0,(List.range G.doors.length).map (wI l))
 last:∀t∈l,t.shift<=s
def Made.nil(G:Gd):Made G [] 0:=⟨by simp only[fA,uI,oZ];congr 1;refine List.ext_getElem dq λi a b=>?_;simp only[List.getElem_replicate,List.getElem_map];rfl,λt h=>by cases h⟩
def Made.up{l:List Ty}(h:Made H l s)(a:s<=m):Made H l m:=⟨h.log,λt b=>du (h.last t b) a⟩
def Made.more{l:List Ty}{o:Bool}(h:Made H l s)(c:d<H.doors.length)(p:(s:Int)<2*H.days)(q:H.days<=3)(f:NL l d (s/2)=false)(g:JY H l d=false):Made H (l++[⟨d,s,o⟩]) s:=by
 refine⟨?_,λt a=>?_⟩;have j:((List.range H.doors.length).map (wI l)).getD d qw=wI l d:=by rw[gW,yf,List.getElem?_range c];rfl
 have r:lastT 0 (l.map Wj)<=s:=by
  unfold lastT;rw[List.getLast?_map];cases k:l.getLast? with
  |none=>exact Int.natCast_nonneg s
  |some t=>exact Int.ofNat_le.2 (h.last t (List.mem_of_getLast? k))
 have e:=Di H ⟨(d:Int),(s:Int),o⟩ _ _ _ 0 h.log;have m:(kT (d:Int) 0 ((H.doors.length:Int)-1)&&kT (s:Int) 0 (2*H.days-1))=true:=by simp[kT];omega
 rw[fA,qH,kI,uI];refine e.trans ?_;have b:((List.range H.doors.length).map (wI l)).getD ((d:Int)).toNat qw=wI l d:=j;simp only[oZ,m,em];rw[cS cM,b,QU l d _ cM,NM];simp only[ow];rw[f,g];simp only[iR,fq,oZ];congr 1;rw[JZ l d s o cM];refine List.ext_getElem dq λi u n=>?_;have v:i<H.doors.length:=fB n;rw[List.getElem_set];simp only[List.getElem_map,List.getElem_range];split;rename_i e;rw[e];rename_i e;exact(J0 l ⟨d,s,o⟩ i e).symm;obtain a|a:=jQ.1 a;exact h.last t a;rw[jE.1 a];exact di _
def UV:IA 25 84 [.int .i64 0,.int .i64 0,.bool false]:=⟨dq,Tryz.t84,_,eE,rfl,eE,eE,by decide+kernel,cL⟩
def sE(a:Nat)(w:cJ)(v:cK)(l:List Ty):Prop:=dg a 84 [.int .i64 0,.int .i64 0,.bool false] w v l.length (l.flatMap tL)
theorem Bq{a:Type}{f:a->dP}{n:Nat}(b:∀x,(f x).length=n):∀l:List a,(l.flatMap f).length=l.length*n
 |[]=>dq
 |t::r=>by rw[vQ,lx,b,Bq b r,fa,Nat.add_mul,Nat.one_mul,Nat.add_comm]
theorem rW{a:Type}{f:a->dP}{n:Nat}(b:∀x,(f x).length=n):∀(l:List a) (k:Nat) (c:k<l.length) (j:Nat) (v:cK),(f l[k])[j]? =some v->(l.flatMap f)[k*n+j]? =some v
 |x::r,0,_,j,v,h=>by grind
 |x::r,k+1,c,j,v,h=>by have d:=rW b r k cL j v cL;grind
def NN(l:List Ty):(l.flatMap tL).length=l.length*3:=Bq (f:=tL) (n:=3) (λ_=>rfl) l
theorem NO(l:List Ty)(k:Nat)(a:k<l.length)(j:Nat)(v:cK)(h:(tL l[k])[j]? =some v):(l.flatMap tL)[k*3+j]? =some v:=rW (f:=tL) (n:=3) (λ_=>rfl) l k a j v h
def sE.row{l:List Ty}(h:sE m w x l):∃a c,x=.slice a l.length c/\Bl w a l/\l.length<=c:=by obtain⟨p,⟨d,rfl⟩|⟨b,c,q,r,rfl,e,s,f,t,g,u⟩⟩:=h;exact⟨none,0,cL,λk i=>cM,cM⟩;refine⟨_,c,rfl,λk i=>⟨b,0,rfl,λj x v=>cO e ?_⟩,f⟩;have n:j<(tL l[k]).iw:=cL;have o:(tL l[k]).iw=3:=rfl;have d:=NN l;rw[dn,g _ cM];grind [NO]
def sE.low{l:List Ty}(h:sE m w x l)(f:k<=m):sE k w x l:=by obtain⟨a,h|⟨b,c,d,g,e⟩⟩:=h;exact⟨a,.inl h⟩;exact⟨a,.inr ⟨b,c,d,cM,e⟩⟩
def NP(h:jM m w){dc:Nat}(hG:eo N=0):Calls V.prog 29 #[dj m,gV N a dc] w (fO λv f=>DE m w f/\∃l s,sE w.heap.size f v l/\Made N l s/\(s:Int)<2*N.days/\l.length<=30):=by
 have ok:=eD hG;have hm:=ok.many;have Q:=ok.days;refine go (V.fn Tryz.func29 cL) Tryz.ntmps29 ?_;refine eJ λg E F ad u=>?_;have ae:=h.lt;have af:=dA.lt_of_heap u;refine cP (cO u rfl) (qo (fI (cX (qz (h.ext F) (2*N.days-1) cM) ?_)));rintro _ w2 ⟨⟨z,rfl,ag,hz⟩,d2⟩;have R:=d2.1.fN u cM;have ah:z<=2*N.days-1:=cM;refine fc z.toNat (λs (x:cK×List Ty)=>[(0,dj m),(3,dj E),(5,x.1),(6,i64 z),(7,i64 s)]) (λs x f=>DE m g f/\f.heap[E]? =some (.cells (gV N a dc).cells 24)/\sE g.heap.size f x.1 x.2/\Made N x.2 s/\x.2.length<=5*s) (fo,[]) ⟨by trivial,d2,R,dg.nil _ _ _ _,Made.nil N,di _⟩ ?_;rintro s ⟨v,l⟩ w3 hs ⟨d3,S,r,j,k⟩;simp only at r j k;refine dN ⟨λG=>?_,λI=>?_⟩;have T:(s:Int)<z:=fx G;refine fc N.doors.length (λi (x:cK×List Ty)=>[(0,dj m),(3,dj E),(5,x.1),(6,i64 z),(7,i64 s),(8,i64 i)]) (λi x f=>DE m g f/\f.heap[E]? =some (.cells (gV N a dc).cells 24)/\sE g.heap.size f x.1 x.2/\Made N x.2 s/\x.2.length<=5*s+i) (v,l) ⟨by trivial,d3,S,r,j,k⟩ ?_;rintro i ⟨v,l⟩ w4 hi ⟨U,y,r,j,k⟩;simp only at r j k;refine cP (cO y rfl) (dm (dN ⟨λG=>?_,λI=>?_⟩));have d:i<N.doors.length:=cL;refine cX (HT (U.2 (h.ext F)) 3 dq) ?_;rintro _ w5 ⟨⟨b,rfl⟩,W⟩;have A:=W.1.fN y cM;have B:=U.trans W;have o:sE g.heap.size w5 v l:=dg.keep r W.1 λb u e=>by have:=(dg.blk r u).1;grind
 obtain⟨J,c,rfl,K,hc⟩:=o.row;have L:∀C,Ext w5 C->DE m g C/\C.heap[E]? =some (.cells (gV N a dc).cells 24)/\sE g.heap.size C (.slice J l.length c) l/\Made N l s/\l.length<=5*s+(i+1):=λC p=>⟨B.trans (p.de m),p.at_ A,dg.ext o p,j,cM⟩;refine⟨λX=>?_,λX=>?_⟩;refine lQ (n:=2) dq cM (dF (HV K cM (λt ht=>iI (j.last t ht)) i (s/2)) (eK ⟨λY=>?_,λY=>?_⟩));have Y:NL l i (s/2)=false:=cL;refine eF A (ep (Fb K cM i) λC p=>eK ⟨λZ=>?_,λZ=>?_⟩);have Z:JY N l i=false:=cL;have aa:=p.at_ A;refine cX (HT ((p.de m).2 (B.2 (h.ext F))) 4 dq) ?_;rintro _ w7 ⟨⟨op,rfl⟩,d7⟩;have ab:=d7.1.fN aa cM;have q:sE g.heap.size w7 (.slice J l.length c) l:=dg.keep (dg.ext o p) d7.1 λb u e=>by have:=(dg.blk o u).1;grind
 have M:=(B.trans (p.de m)).trans d7;refine eC (.agg (tL ⟨i,s,op⟩).toArray) (er (tL ⟨i,s,op⟩) 84 λw8 nb D ai ac=>hH UV (dg.ext q D) (by have:=M.1.size;grind) ac cM λv' w9 aj k9 _=>cY ⟨d,(v',l++[⟨i,s,op⟩]),by trivial,?_,?_,?_,j.more d cM cM Y Z,cL⟩);have O:=M.trans (D.de m);refine⟨(O.1.trans k9 (H:=λx=>x=m\/g.heap.size<=x) cL λx _ P=>.inr (dg.blk (dg.ext q D) P).1).trans (dz.refl (λ_=>False) _) cL cL,λhD=>(O.2 hD).keep k9 λx P=>?_⟩;have:=(dg.blk (dg.ext q D) P).1;grind;refine k9.fN (D.at_ ab) λP=>?_;have:=(dg.blk (dg.ext q D) P).1;omega;unfold sE;grind;exact cY ⟨d,(.slice J l.length c,l),by trivial,L C p⟩;exact kZ rfl (cY ⟨d,(.slice J l.length c,l),by trivial,cL⟩);exact kZ rfl (kZ rfl (cY ⟨d,(.slice J l.length c,l),by trivial,cL⟩));obtain rfl:i=N.doors.length:=cL;exact cY ⟨cM,(v,l),by trivial,U,y,r,j.up dq,cL⟩;have T:¬(s:Int)<z:=ie I;exact⟨_,rfl,(F.de m).trans d3,l,s,r.low F.size,j,cM,cM⟩
def J1{n:nu}{r:Array Bool}(h:eO k w x l)(g:k<=w.heap.size)(s:m=f.length)(t:fJ w a f)(c:l.length+f.length<=1000000) (p:∀e d,eO k d e (l++f)->dz (cW x) w d->n e d):zd V.prog (builtin .append #[27,27] T r #[x,.slice a m i]) w n:=by
 subst s;obtain v|y:=nt f.iw;obtain rfl:f=[]:=oy v;obtain⟨A,B,rfl,_,q⟩:=h.row;exact wq oR q (p _ _ cL (dz.refl _ _));obtain C|⟨b,o,rfl,q⟩:=t.cells;have:(gA f).iw=0:=cL;have D:(gA f).iw=f.iw:=by simp[gA]
 omega;exact Ew oR h g (m:=f.iw) (news:=gA f) (by simp[gA]) y (λj u E=>by grind [iq]) (wz f) c λe d F z _=>p e d (by grind [eO,gA]) z
theorem Br{a b:Type}{f g:a->List b}:∀{l:List a},(∀x∈l,f x=g x)->l.flatMap f=l.flatMap g
 |[],_=>rfl
 |x::r,h=>by rw[vQ,vQ,h x fW,Br λy c=>h y (jD _ c)]
def gN:Nat->cN->List cN
 |0,_=>[[]]
 |n+1,l=>(List.range l.length).flatMap λi=>(gN n (l.eraseIdx i)).map (l.getD i 0::·)
def yL(l:cN):List cN:=gN l.length l
def getD_map{f:Nat->Nat}(h:i<l.length):(l.map f).getD i 0=f (l.getD i 0):=by rw[gW,gW,yf,ft h];rfl
theorem Dj(f:Nat->Nat):∀(l:cN) (i:Nat),(l.map f).eraseIdx i=(l.eraseIdx i).map f
 |[],_=>rfl
 |x::r,0=>rfl
 |x::r,i+1=>by simp only[kI,List.eraseIdx_cons_succ,Dj f r i]
theorem Dk(f:Nat->Nat):∀(n:Nat) (l:cN),gN n (l.map f)=(gN n l).map (·.map f)
 |0,l=>rfl
 |n+1,l=>by simp only[gN,List.map_flatMap,nP];refine Br λi a=>?_;rw[getD_map (gf.1 a),Dj,Dk f n,List.map_map,List.map_map];rfl
theorem Dl(d:l.length=m)(f:Nat->Nat)(g:∀i,i<m->l.getD i 0=f i):∀(n:Nat) (b:cN) (a:List Bool),oW l n (b.map f) a=(oW (List.range m) n b a).map (·.map f)
 |0,b,a=>rfl
 |n+1,b,a=>by
  simp only[oW,List.map_flatMap,List.length_range,d];refine Br λi c=>?_;have c:=gf.1 c;split;rfl;have e:(List.range m).getD i 0=i:=by rw[gW,ft (fB c)];simp
  rw[g i c,e,<-Dl d f g n,qH];rfl
def Fc:∀m:Nat,m<=5->gN m (List.range m)=oW (List.range m) m [] (List.replicate m false):=by decide+kernel
def wJ(h:l.length<=5):yL l=n6 l:=by
 have e:l=(List.range l.iw).map λi=>l.getD i 0:=by refine List.ext_getElem dq λi a b=>?_;simp[gW,ft a]
 have a:=Dl (l:=l) rfl (λi=>l.getD i 0) (λ_ _=>rfl) l.iw [] (List.replicate l.iw false);unfold yL n6;rw[uI]at a;rw[a,<-Fc _ h,<-Dk,<-e]
theorem QV:∀{a b:cN},a.Pairwise (·<·)->b.Pairwise (·<·)->(∀x,x∈a↔x∈b)->a=b
 |[],[],_,_,_=>rfl
 |[],y::b,_,_,h=>absurd ((h y).2 fW) dq
 |x::a,[],_,_,h=>absurd ((h x).1 fW) dq
 |x::a,y::b,j,k,h=>by
  have d:=List.pairwise_cons.1 j;have e:=List.pairwise_cons.1 k;have g:x=y:=by obtain c|c:=fi.1 ((h x).1 fW);exact c;obtain i|i:=fi.1 ((h y).2 fW);exact i.symm;have:=d.1 _ i;have:=e.1 _ c;omega
  subst g;rw[QV d.2 e.2 λz=>?_];constructor;intro f;obtain c|c:=fi.1 ((h z).1 (jD _ f));have:=d.1 _ f;omega;exact c;intro f;obtain c|c:=fi.1 ((h z).2 (jD _ f));have:=e.1 _ f;omega;exact c
def QX:∀a b c d e:Bool,eh (eB (([(0,a),(1,b),(2,c),(3,d),(4,e)].filter (·.2)).map (·.1)))=([(0,a),(1,b),(2,c),(3,d),(4,e)].filter (·.2)).map (·.1):=by decide+kernel
def Bs(h:l.Pairwise (·<·))(b:∀d∈l,d<5):eh (eB l)=l:=by
 have e:l=([(0,decide (0∈l)),(1,decide (1∈l)),(2,decide (2∈l)),(3,decide (3∈l)),(4,decide (4∈l))].filter (·.2)).map (·.1):=by
  have c:(List.range 5).filter (λx=>decide (x∈l))=([(0,decide (0∈l)),(1,decide (1∈l)),(2,decide (2∈l)),(3,decide (3∈l)),(4,decide (4∈l))].filter (·.2)).map (·.1):=by show [0,1,2,3,4].filter _=_;simp only[List.filter];cases decide (0∈l)<;>cases decide (1∈l)<;>cases decide (2∈l)<;>cases decide (3∈l)<;>cases decide (4∈l)<;>rfl
  rw[<-c];refine QV h (List.Pairwise.filter _ List.pairwise_lt_range) λx=>?_;simp only[py,gf,kM];exact⟨λa=>⟨b x a,a⟩,λa=>a.2⟩
 rw[e];exact QX ..
def xQ{x:nu}{F:Array Bool}(c:dP)(p:w.heap[k]? =some (.cells c.toArray 3))(G:c.length<=1000)(q:m<=k)(H:i=l.length)(r:fJ w a l)(y:l.length<=100000) (A:∀B s,dg m 3 [.int .i64 0] s B (c.length+l.length) (c++gA l)->Ext w s->x B s):zd V.prog (builtin .append #[27,27] T F #[.slice (some ⟨k,0,none⟩) c.length c.length,.slice a i j]) w x:=by
 subst H;obtain I|O:=nt l.length;obtain rfl:l=[]:=oy I;exact wq oR (di _) (A _ _ ⟨by simp[gA],.inr ⟨k,c.length,_,q,rfl,p,dq,di _,cM,λh _=>by simp[gA],λh e g=>by simp[gA]at e g;omega⟩⟩ (Ext.refl _));obtain J|⟨b,o,rfl,K⟩:=r.cells;have:(gA l).length=0:=by rw[J];rfl
 have C:(gA l).length=l.length:=by simp[gA]
 omega;have⟨L,D,z,C,M,E,n,N,Q⟩:=oR;have f:z.cells.size=1:=by rw[E];rfl
 have n:D.size=1:=n;have d:(gA l).length=l.length:=by simp[gA]
 have r:=run_append_grow (P:=V.prog) w 27 T 3 D z L C M (dt k 0) c.length c.length c (by rw[n,rm]) (λh u e=>by rw[iq,dn];exact cO p (fB e)) (dt b o) l.length j (gA l) (by rw[n,d,rm]) (λh u e=>by rw[iq];exact K h u e) cM cM (growslice_fits cM (du (Nat.mul_le_mul (show c.length+l.length<=1000000 by omega) N) kg));have t:=grownCap_ge w (c.length+l.length) c.length 3;have v:=grownCap_le_maxLen w (c.length+l.length) c.length 3 (by simp only[maxLen];omega);simp only[maxLen]at v;refine⟨_,_,(by unfold builtin;simp only[Sem.run_bind,r,Result.andThen_ok,Sem.run_pure];rfl),A _ _ ⟨by simp[d],.inr ⟨w.heap.size,grownCap w (c.length+l.length) c.length 3,_,iI (dA.lt_of_heap p),rfl,fY w.drew _,?_,t,cM,λh e=>?_,λh e g=>?_⟩⟩ ((Ext.drew w).trans (Ext.alloc _ _))⟩;simp only[x6,im,size_zeroCells,f,d,lx,fa,fP];omega;rw[DL (fB e)];simp;simp only[lx,d]at e;rw[DM (by simp[d];omega)];simp only[x6,im,size_zeroCells,f,d,lx]at g⊢;rw[qk _ _ _ cM (by rw[f];omega),f,E];simp[Nat.mod_one]
def Bt{f:nu}{h:Array Bool}{n0 c:Nat}(i:w.heap[c]? =some (.cells [x].toArray 3))(p:x.oneCell'=true)(d:n0<=c)(j:m=l.length)(n:fJ w a l)(b:l.length<=100000) (o:∀g e,dg n0 3 [.int .i64 0] e g (1+l.length) (x::gA l)->Ext w e->f g e):zd V.prog (builtin .append #[27,27] T h #[.slice (some ⟨c,0,none⟩) 1 1,.slice a m k]) w f:=xQ [x] i dq d j n b o
def tM{r:nu}{t:Array Bool}{b:List cN}(h:fh m w x b)(j:m<=w.heap.size)(n:eO m w y l)(u:w.heap[k]? =some (.cells [y].toArray 27))(c:b.length+1<=1000000) (v:∀d e,fh m e d (b++[l])->dz (cW x) w e->(∀k,cW d k->cW x k\/w.heap.size<=k)->r d e):zd V.prog (builtin .append #[66,66] T t #[x,.slice (some ⟨k,0,none⟩) 1 i]) w r:=by
 have⟨z,o,E,A⟩:=h;have f:y.oneCell'=true:=by obtain⟨a,i,rfl,_⟩:=n.row;rfl
 refine hH Jw o j u c (λd e F p B=>v d e ⟨z++[y],cL,cL,λq G=>?_⟩ p B) rfl (by simp[sB,f]);obtain g|C:=gC q b.length;have⟨D,H,s⟩:=A q g;refine⟨D,cL,?_⟩;rw[nm g];exact s.keep p (iB s o cL);obtain rfl:q=b.length:=cL;refine⟨y,cL,?_⟩;simp only[se (di _),lJ,nO];exact n.keep p (iB n o cL)
theorem fh.blk{a:List cN}(h:fh m w x a)(b:cW x k):m<=k/\k<w.heap.size:=by have⟨d,c,_⟩:=h;exact c.blk b
def fh.UW{e:List cN}(h:fh m w x e)(k:dz A w t)(f:∀b,m<=b->b<w.heap.size->¬A b):fh m t x e:=by have⟨g,c,j,l⟩:=h;refine⟨g,dg.keep c k λb a=>f b (c.blk a).1 (c.blk a).2,j,λi n=>?_⟩;have⟨u,o,d⟩:=l i n;exact⟨u,o,dg.keep d k λb a=>f b (dg.blk d a).1 (dg.blk d a).2⟩
def fh.Yx{s:Option Nat}{a:List cN}(h:fh m w (.slice (some ⟨k,o,s⟩) i j) a):m<=k/\k<w.heap.size:=by obtain⟨b,⟨c,⟨d,e⟩|⟨f,g,l,n,e,p,q⟩⟩,r⟩:=h;grind;grind
theorem xR:∀(n:Nat) (l:cN),l.length=n->∀x∈gN n l,x.length=n
 |0,l,_,x,a=>by obtain rfl:x=[]:=by grind [gN]
                rfl
 |n+1,l,h,x,a=>by simp only[gN,me,gf,kJ]at a;obtain⟨i,c,y,b,rfl⟩:=a;have:=xR n _ cL y b;grind
theorem uw:∀(n:Nat) (l:cN),l.length<=5->(gN n l).length<=5^n
 |0,l,_=>by simp[gN]
 |n+1,l,h=>by
  have a:∀(r:cN),(r.flatMap λi=>(gN n (l.eraseIdx i)).map (l.getD i 0::·)).length<=r.length*5^n:=λr=>by
   induction r with
   |nil=>simp
   |cons x r b=>
    have c:=uw n (l.eraseIdx x) cL;rw[vQ,lx,nP,fa,Nat.add_mul,Nat.one_mul];omega
  have:=a (List.range l.length);rw[List.length_range]at this;have d:=sK (5^n) h;grind [Nat.pow_succ,gN]
def sq(n:Nat)(l:cN)(i:Nat):List cN:=(List.range i).flatMap λi=>(gN n (l.eraseIdx i)).map (l.getD i 0::·)
def Bu(n:Nat)(l:cN)(i:Nat):sq n l (i+1)=sq n l i++(gN n (l.eraseIdx i)).map (l.getD i 0::·):=by simp only[sq,nq,List.flatMap_append,vQ,List.flatMap_nil,List.append_nil]
theorem Dm(n:Nat)(l:cN)(h:l.length<=5):∀i,(sq n l i).length<=i*5^n
 |0=>by simp[sq]
 |i+1=>by have a:=uw n (l.eraseIdx i) cL;have:=Dm n l h i;rw[Bu,lx,nP,Nat.add_mul,Nat.one_mul];omega
def yM(l:List Ty):Nat:=match l.getLast? with
 |some t=>t.shift
 |none=>0
def J2{l:List Ty}(e:Bl w a l)(c:l.length<=100000):Calls V.prog 31 #[.slice a l.length m] w (fO λv f=>v=.int .i64 (yM l)/\f=w):=by
 refine go (V.fn Tryz.func31 cL) Tryz.ntmps31 ?_;refine dm (eZ ⟨λh=>?_,λh=>?_⟩);have h:l.iw=0:=cL;obtain rfl:l=[]:=oy h;exact⟨_,rfl,rfl,rfl⟩;have h:¬l.iw=0:=cL;have d:l.iw-1<l.iw:=cM;obtain⟨b,o,rfl,g⟩:=e _ d;have i:yM l=l[l.iw-1].shift:=by unfold yM;grind
 rw[i];refine dm (fI ?_);rw[show((l.iw:Int)-1)=((l.iw-1:Nat):Int) by omega];exact fH (l.iw-1) 3 d (cP (g 1 _ rfl) ⟨_,rfl,rfl,rfl⟩)
theorem vD:∀{l:cN} {i:Nat} (a:i<l.length),(l[i]::l.eraseIdx i).Perm l
 |x::r,0,_=>List.Perm.refl _
 |x::r,i+1,a=>by have b:i<r.iw:=cL;exact(List.Perm.swap x r[i] _).trans ((vD b).cons x)
theorem qA:∀(n:Nat) (l:cN),l.length=n->∀r∈gN n l,r.Perm l
 |0,l,h,r,a=>by obtain rfl:=oy h;grind [gN]
 |n+1,l,h,r,a=>by simp only[gN,me,gf,kJ]at a;obtain⟨i,c,y,b,rfl⟩:=a;have d:=qA n _ cL y b;grind [getD_eq,vD]
theorem qB:∀(n:Nat) (l:cN),l.length=n->∀r,r.Perm l->r∈gN n l
 |0,l,h,r,a=>by obtain rfl:=oy h;rw[a.eq_nil];simp[gN]
 |n+1,l,h,r,a=>by
  have b:=a.length_eq;match r,a,b with
  |[],_,b=>grind
  |x::r,a,_=>
   obtain⟨i,c,rfl⟩:=List.getElem_of_mem (a.mem_iff.1 fW);have d:=List.Perm.cons_inv (a.trans (vD c).symm);simp only[gN,me,gf,kJ];exact⟨i,c,r,qB n _ cL r d,cL⟩
theorem Bv(h:l.length<=5)(r:cN):r∈n6 l↔r.Perm l:=by rw[<-wJ h];exact⟨qA _ _ rfl r,qB _ _ rfl r⟩
theorem yN{W:Nat->Nat->Int}(b:∀i j,0<=W i j):∀(l:cN) (a z:Nat),0<=tJ W a l z
 |[],a,z=>b a z
 |d::r,a,z=>by have:=yN b r (d+1) z;grind [tJ]
def yO(h:H.Ok)(l:cN):0<=mT H l:=by unfold mT;rw[tK];exact yN (λi j=>(n4 h i j).1) l 0 0
theorem vE(G:Gd)(d:G.Ok):∀(rows:List cN) (a:cN×Int),0<=a.2->a.2=mT G a.1->((rows.foldl (fG G) a).1=a.1\/(rows.foldl (fG G) a).1∈rows)/\(rows.foldl (fG G) a).2=mT G (rows.foldl (fG G) a).1/\(rows.foldl (fG G) a).2<=a.2/\∀r∈rows,(rows.foldl (fG G) a).2<=mT G r
 |[],a,f,h=>cL
 |x::rows,a,f,h=>by have g:=yO d x;simp only[jP];have⟨c,b⟩:=ju (fG G a x);rw[<-b];unfold fG at b;split at b;rename_i e;subst b;have⟨i,j,k,l⟩:=vE G d rows (x,mT G x) g rfl;grind;rename_i e;subst b;have⟨i,j,k,l⟩:=vE G d rows c f h;grind
theorem oe(c:H.Ok)(s:Nat):(dG H s).Perm (eh s)/\∀r,r.Perm (eh s)->mT H (dG H s)<=mT H r:=by
 have d:=xF s;have b:eh s∈n6 (eh s):=(Bv d _).2 (List.Perm.refl _);have⟨rows,a⟩:=ju (n6 (eh s));have f:(it H rows).1∈rows/\∀r∈rows,mT H (it H rows).1<=mT H r:=by
  rw[<-a]at b;match rows,b with
  |x::rows,_=>
   have g:=yO c x;have e:it H (x::rows)=rows.foldl (fG H) (x,mT H x):=by unfold it;rw[jP];congr 1
   grind [vE,List.mem_cons_self,List.mem_cons_of_mem]
 grind [Bv,dG]
def J3(G:Gd)(h:l.Perm f):kC G l=kC G f:=by
 induction h with
 |nil=>rfl
 | @cons x e g _ i=>
  have a:=lh G [x] e;have b:=lh G [x] g;grind
 |swap x y l=>
  have a:=lh G [y] (x::l);have b:=lh G [x] (y::l);have c:=lh G [x] l;have d:=lh G [y] l;grind
 |trans _ _ a b=>grind
def J4(h:l.Perm f)(a:mT H l<=mT H f):iA H l<=iA H f:=by have b:=J3 H h;have c:=h.length_eq;grind [mT,iA,ji,xv]
theorem rX(a:H.Ok)(q:Nat->Bool):∀(y x:cN),(∀d∈y,d<H.doors.length)->iA H (x++y.filter q)<=iA H (x++y)
 |[],x,_=>Int.le_refl _
 |d::y,x,h=>by have c:=h d fW;have b:∀d∈y,d<H.doors.iw:=cL;rw[List.filter_cons];split;have:=rX a q y (x++[d]) b;grind;exact Int.le_trans (rX a q y x b) (JX a c x y)
def QY(a:H.Ok)(h:l.Perm (eh s)):iA H (dG H s)<=iA H l:=
 J4 ((oe a s).1.trans h.symm) ((oe a s).2 l h)
theorem HW(h:∀d,d<5->s.testBit d=true->m.testBit d=true):(eh m).filter (s.testBit ·)=eh s:=by unfold eh nf;rw[List.filter_filter];grind [List.filter_congr]
def NQ(a:H.Ok)(c:∀d∈eh m,d<H.doors.length)(h:∀d,d<5->s.testBit d=true->m.testBit d=true):iA H (dG H s)<=iA H (dG H m):=by
 have e:=(oe a m).1;have b:((dG H m).filter (s.testBit ·)).Perm (eh s):=by grind [HW]
 have f:=rX a (s.testBit ·) (dG H m) [] cL;exact Int.le_trans (QY a b) cL
def ux(b:H.Ok)(c:∀d∈eh m,d<H.doors.length)(h:∀d,d<5->s.testBit d=true->m.testBit d=true)(a:l5 H m=true):l5 H s=true:=by unfold l5 at a⊢;have:=fx a;exact decide_eq_true (Int.le_trans (NQ b c h) this)
def gq(a:List cN)(d i:Nat):List cN:=if i<a.length then a.set i (a.getD i []++[d])else a++[[d]]
def iH:cN->List cN->List (List cN)
 |[],a=>[a]
 |d::r,a=>(List.range (a.length+1)).flatMap λi=>iH r (gq a d i)
def yP(G:Gd)(g:cN):Bool:=l5 G (eB g)
def lF(G:Gd)(D:List cN):Bool:=D.all (yP G)
theorem wK(d:Nat):∀(l:cN) (s:Nat),setFrom s (l++[d])=oi (setFrom s l) d
 |[],s=>rfl
 |x::r,s=>wK d r (oi s x)
theorem Dn(g:cN)(d:Nat):eB (g++[d])=oi (eB g) d:=wK d g 0
theorem TO:∀s:Nat,s<32->∀d:Nat,d<5->∀x:Nat,x<5->s.testBit x=true->(oi s d).testBit x=true:=by decide+kernel
def Sb(a b:cN):Prop:=∀x,x<5->(eB a).testBit x=true->(eB b).testBit x=true
theorem TP(h:∀d∈l,d<5):eB l<32:=mU l 0 dq h
def Sb.snoc(h:∀x∈l,x<5)(a:d<5):Sb l (l++[d]):=λx b c=>by grind [Dn,TO,TP]
theorem ot(a:List cN)(d i:Nat):(gq a d i).length=if i<a.length then a.length else a.length+1:=by grind [gq]
def xS{a:List cN}(h:∀g∈a,∀x∈g,x<m)(b:d<m):∀g∈gq a d i,∀x∈g,x<m:=by unfold gq;split;grind;grind
theorem rh(k:m<=5):∀(l:cN) (a:List cN),(∀d∈l,d<m)->(∀g∈a,∀x∈g,x<m)->∀D∈iH l a,a.length<=D.length/\(∀g∈D,∀x∈g,x<m)/\∀i (b:i<a.length),∃h:i<D.length,Sb a[i] D[i]
 |[],a,_,f,D,c=>by
  obtain rfl:D=a:=by grind [iH]
  exact⟨di _,f,λi b=>⟨b,λx _ h=>h⟩⟩
 |d::r,a,p,f,D,c=>by simp only[iH,me,gf]at c;have⟨j,B,c⟩:=c;have q:=p d fW;have⟨s,t,u⟩:=rh k r (gq a d j) cL (xS f q) D c;have C:=ot a d j;have n:a.length<=(gq a d j).length:=cL;refine⟨du n s,t,λi b=>?_⟩;have⟨v,w⟩:=u i cM;refine⟨v,λx o y=>w x o ?_⟩;have z:=f _ (eG b);simp only[gq];split;rename_i A;rw[List.getElem_set];split;rename_i e;subst e;rw[getD_eq b];exact Sb.snoc cL cM x o y;grind;grind
theorem mA{D:List cN}:lF H D=true↔∀g∈D,yP H g=true:=nj
def li{a:Type}{p:a->Bool}{l:List a}(h:∀x∈l,p x=false):l.find? p=none:=by grind
def ri(G:Gd)(most:Nat)(D:List cN):Bool:=decide (D.length<=most)&&lF G D
theorem Do(b:H.Ok){most:Nat}{a:List cN}(c:∀d∈l,d<H.doors.length)(e:∀g∈a,∀x∈g,x<H.doors.length)(f:i<a.length)(h:yP H a[i]=false):(iH l a).find? (ri H most)=none:=by
 refine li λD j=>?_;have⟨q,r,k⟩:=rh b.many l a c e D j;have⟨m,n⟩:=k i f;cases o:lF H D with
 |false=>unfold ri;grind
 |true=>
  have p:=mA.1 o _ (eG m);have s:=ux b (ky.eB b.many cL).2 n p;grind [yP]
theorem NR{a:List cN}(h:lF H a=true)(b:i<a.length)(c:yP H (a[i]++[d])=true):lF H (a.set i (a[i]++[d]))=true:=mA.2 λg e=>by grind [List.mem_or_eq_of_mem_set,mA]
theorem pj{a b:Type}{f g:a->Option b}:∀{l:List a},(∀x∈l,f x=g x)->l.findSome? f=l.findSome? g
 |[],_=>rfl
 |x::r,h=>by simp only[List.findSome?_cons,h x fW,pj λy c=>h y (jD _ c)]
theorem yQ(j:H.Ok)(most:Nat):∀(l:cN) (a:List cN),(∀d∈l,d<H.doors.length)->(∀g∈a,∀x∈g,x<H.doors.length)->lF H a=true->a.length<=most->fE H most l (a.map eB)=((iH l a).find? (ri H most)).map (·.map eB)
 |[],a,_,_,f,n=>by simp only[fE,iH,List.find?_cons,ri,decide_eq_true n,f,Bool.true_and,mg]
 |d::r,a,p,u,f,n=>by
  have v:=p d fW;have k:∀x∈r,x<H.doors.length:=cL;have q:=yQ j most r
  have w:((List.range a.length).findSome? λi=>if l5 H (oi ((a.map eB).getD i 0) d)then fE H most r ((a.map eB).set i (oi ((a.map eB).getD i 0) d))else none)=((List.range a.length).findSome? λi=>(iH r (gq a d i)).find? (ri H most)).map (·.map eB):=by
   rw[List.map_findSome?];refine pj λi h=>?_;have h:=gf.1 h;have e:(a.map eB).getD i 0=eB a[i]:=cL;have m:gq a d i=a.set i (a[i]++[d]):=by rw[gq,cV h,getD_eq h]
   have b:∀g∈a.set i (a[i]++[d]),∀x∈g,x<H.doors.length:=cL;simp only[Function.comp];rw[e,<-Dn,<-List.map_set,m];grind [NR,List.length_set,Do,List.getElem_set_self,yP]
  have y:(if(a.map eB).length<most/\l5 H (eB [d])=true then fE H most r (a.map eB++[eB [d]])else none)=((iH r (gq a d a.length)).find? (ri H most)).map (·.map eB):=by
   have m:gq a d a.length=a++[[d]]:=by rw[gq,cS dq]
   have b:∀g∈a++[[d]],∀x∈g,x<H.doors.length:=cL;rw[m,nP];split;rename_i o;have:=q (a++[[d]]) k b (mA.2 λg c=>by obtain c|c:=jQ.1 c;grind [mA];rw[jE.1 c];exact o.2) cL;grind;rename_i o;by_cases s:a.length<most;rw[Do j k b (i:=a.length) dq (by simp only[se (di _),lJ,nO];grind [yP,l5,eB,absurd])];rfl;rw[li λD t=>?_];rfl;have:=(rh j.many r _ k b D t).1;simp only[lx,fa,fP]at this;unfold ri;grind
  simp only[fE,iH];grind [List.length_map,List.range_succ]
def HX(p:List cN->Bool)(a:Option (List cN))(D:List cN):Option (List cN):=match a with
 |some b=>if b.length<=D.length then some b else if p D then some D else some b
 |none=>if p D then some D else none
def uT(p:List cN->Bool)(a:List (List cN)):Option (List cN):=a.foldl (HX p) none
def J5(p:List cN->Bool)(a:List (List cN))(D:List cN):uT p (a++[D])=HX p (uT p a) D:=by simp only[uT,qG,jP,List.foldl_nil]
def xT{a:Type}(p:a->Bool)(l:List a)(x:a):(l++[x]).find? p=(l.find? p).or (if p x then some x else none):=by rw[List.find?_append];congr 1;simp only[List.find?_cons,List.find?_nil];cases p x<;>rfl
def QZ(p:List cN->Bool)(a:List (List cN)):Option (List cN)->Prop
 |none=>∀D∈a,p D=false
 |some b=>b∈a/\(∀D∈a,p D=true->b.length<=D.length)/\a.find? (λD=>decide (D.length<=b.length)&&p D)=some b
theorem tN(p:List cN->Bool)(d:List (List cN)):∀k,k<=d.length->QZ p (d.take k) (uT p (d.take k))
 |0,_=>λD i=>by simp at i
 |k+1,v=>by
  have e:=tN p d k cM;have⟨D,i⟩:=ju (d[k]);rw[iT cM,<-i,J5];have⟨l,r⟩:=ju (d.take k);rw[<-r]at e⊢;cases q:uT p l with
  |none=>
   rw[q]at e;have e:∀D∈l,p D=false:=e;cases g:p D with
   |false=>
    simp only[HX,g,iR,fq];intro E a;obtain a|a:=jQ.1 a;exact e E a;rw[jE.1 a];exact g
   |true=>
    simp only[HX,g,em];refine⟨dq,λE a c=>?_,?_⟩;obtain a|a:=jQ.1 a;rw[e E a]at c;cases c;rw[jE.1 a];exact di _;rw[xT,li λx j=>by rw[e x j,Bool.and_false]];simp[g]
  |some b=>
   rw[q]at e;have⟨s,m,t⟩:b∈l/\(∀D∈l,p D=true->b.length<=D.length)/\l.find? (λD=>decide (D.length<=b.length)&&p D)=some b:=e;have f:(b.length<=D.length\/p D=false)->QZ p (l++[D]) (some b):=λh=>by refine⟨List.mem_append_left _ s,λE a c=>?_,?_⟩;obtain a|a:=jQ.1 a;exact m E a c;rw[jE.1 a]at c⊢;obtain h|h:=h;exact h;rw[h]at c;cases c;rw[xT,t];rfl
   simp only[HX];split;rename_i n;exact f (.inl n);rename_i u;cases g:p D with
   |false=>simpa using f (.inr g)
   |true=>
    simp only[em];refine⟨dq,λE a c=>?_,?_⟩;obtain a|a:=jQ.1 a;have:=m E a c;omega;rw[jE.1 a];exact di _;rw[xT,li λx j=>?_];simp[g];cases o:p x with
    |false=>rw[Bool.and_false]
    |true=>
     have:=m x j o;rw[lK cM,Bool.false_and]
theorem Bw:∀(l:cN) (a:List cN),∀D∈iH l a,D.length<=a.length+l.length
 |[],a,D,b=>by
  obtain rfl:D=a:=by simpa[iH]using b
  exact di _
 |d::r,a,D,b=>by simp only[iH,me,gf]at b;have⟨j,e,b⟩:=b;have f:=Bw r _ D b;have c:=ot a d j;rw[fa];split at c<;>omega
def Q0:∀s:Nat,s<32->s≠0->0<(eh s).length:=by decide+kernel
def vF(v:H.Ok)(w:ky H s):fT H s=(uT (lF H) (iH (eh s) [])).map λD=>D.map λg=>dG H (eB g):=by
 have z:=v.many;unfold fT;split;rename_i h;subst h;rfl;rename_i h;have⟨l,n⟩:=ju (eh s);have o:0<l.length:=by rw[n];exact Q0 s w.1 h
 have a:∀d∈l,d<H.doors.length:=by rw[n];exact w.2
 rw[<-n];have A:((List.range l.length).findSome? λm=>fE H (m+1) l [])=(List.range l.length).findSome? λm=>((iH l []).find? (ri H (m+1))).map (·.map eB):=pj λm _=>yQ v (m+1) l [] a (λg p=>by cases p) rfl (gh _);rw[A];have f:∀D∈iH l [],1<=D.length:=by
  match l,o,a with
  |d::r,_,a=>
   intro D c;simp only[iH,me,gf]at c;have⟨j,G,c⟩:=c;have q:=(rh z r (gq [] d j) (λx B=>a x (jD _ B)) (xS (λg p=>by cases p) (a d fW)) D c).1;have t:=ot [] d j;simp at t;omega
 have e:=tN (lF H) (iH l []) _ (di _);rw[j5]at e;cases y:uT (lF H) (iH l [])with
 |none=>
  rw[y]at e;have e:∀D∈iH l [],lF H D=false:=e;have:((List.range l.length).findSome? λm=>((iH l []).find? (ri H (m+1))).map (·.map eB))=none:=by rw[List.findSome?_eq_none_iff];intro m _;rw[li λD c=>by unfold ri;rw[e D c,Bool.and_false]];rfl
  rw[this];rfl
 |some b=>
  rw[y]at e;have⟨q,t,C⟩:b∈iH l []/\(∀D∈iH l [],lF H D=true->b.length<=D.length)/\(iH l []).find? (λD=>decide (D.length<=b.length)&&lF H D)=some b:=e;have u:=Bw l [] b q;have E:=f b q;simp only[fP,dn]at u
  have:((List.range l.length).findSome? λm=>((iH l []).find? (ri H (m+1))).map (·.map eB))=some (b.map eB):=by
   refine l8 (k:=b.length-1) cM (λi I=>?_) ?_;rw[li λD c=>?_];rfl;unfold ri;cases F:lF H D with
   |false=>rw[Bool.and_false]
   |true=>
    have:=t D c F;rw[lK cM,Bool.false_and]
   rw[show b.length-1+1=b.length by omega,show ri H b.length=λD=>decide (D.length<=b.length)&&lF H D from rfl,C];rfl
  rw[this];simp[zK]
def nW(G:Gd)(s:Nat):Int:=match fT G s with
 |some a=>(a.length:Int)
 |none=> -1
def TQ:∀s:Nat,s<32->∀d:Nat,d<5->∀x:Nat,x<5->(oi s d).testBit x=(s.testBit x||decide (x=d)):=by decide+kernel
theorem yR{x:Nat}:∀(l:cN) (s:Nat),s<32->(∀d∈l,d<5)->x<5->((setFrom s l).testBit x=true↔s.testBit x=true\/x∈l)
 |[],s,_,_,_=>by simp[setFrom]
 |d::r,s,a,h,b=>by have c:=h d fW;have:=yR (x:=x) r (oi s d) (Ei s a d c) (λy e=>h y (jD _ e)) b;show(setFrom (oi s d) r).testBit x=true↔_;rw[this,TQ s a d c x b,Kt,decide_eq_true_iff,fi,or_assoc]
theorem nD(h:∀d∈l,d<5)(a:m<5):(eB l).testBit m=true↔m∈l:=by have:=yR l 0 cM h a;unfold eB;rw[this];simp
theorem rj:m∈eh s↔m<5/\s.testBit m=true:=by unfold eh nf;rw[py,gf]
theorem Bx:∀(l:cN) (b:List cN),∀D∈iH l b,∀x,(x∈l\/∃g∈b,x∈g)->∃g∈D,x∈g
 |[],b,D,c,x,h=>by
  obtain rfl:D=b:=by simpa[iH]using c
  obtain h|h:=h;cases h;exact h
 |d::r,b,D,c,x,h=>by
  simp only[iH,me,gf]at c;have⟨j,o,c⟩:=c;refine Bx r _ D c x ?_;have m:∀g∈b,x∈g->∃g∈gq b d j,x∈g:=λg k e=>by obtain⟨i,n,rfl⟩:=List.getElem_of_mem k;unfold gq;split;rename_i a;by_cases f:j=i;subst f;exact⟨_,List.mem_set a _,by rw[getD_eq a];exact List.mem_append_left _ e⟩;exact⟨b[i],List.mem_iff_getElem.2 ⟨i,fB n,by rw[List.getElem_set_ne f]⟩,e⟩;exact⟨_,List.mem_append_left _ k,e⟩
  obtain h|⟨g,k,e⟩:=h;obtain rfl|h:=fi.1 h;refine .inr ?_;unfold gq;split;rename_i a;exact⟨_,List.mem_set a _,dq⟩;exact⟨[x],dq,dq⟩;exact .inl h;exact .inr (m g k e)
def TR:((List.range 6).all λn=>(List.range 32).all λs=>!((List.range 5).all λx=>!s.testBit x||decide (x<n))||decide (s<2^n))=true:=by decide+kernel
def VY{n s:Nat}(a:n<6)(b:s<32)(h:∀x,x<5->s.testBit x=true->x<n):s<2^n:=by
 have:=nj.1 (nj.1 TR n (gf.2 a)) s (gf.2 b)
 have c:((List.range 5).all λx=>!s.testBit x||decide (x<n))=true:=nj.2 λx d=>by
  cases e:s.testBit x with
  |false=>rfl
  |true=>simp[h x (gf.1 d) e]
 rw[c]at this;exact fx (fB this)
theorem By{a:List Sx}(j:a.length<=5)(f:Nat)(k:s<32)(h:∀x,x<5->s.testBit x=true->x∈dJ H.tries a):(ei H a f).counts.getD s 0=nW H s:=by
 have e:∀d∈dJ H.tries a,d<5:=λd l=>iI (jm l)
 have b:Qh s (eB (dJ H.tries a))=true:=nj.2 λx c=>by
  cases g:s.testBit x with
  |false=>rfl
  |true=>rw[(nD e (gf.1 c)).2 (h x (gf.1 c) g)];rfl
 have i:=VY (n:=a.length) cM k λx j g=>jm (h x j g);show(iK H _ _).getD s 0=_;unfold iK;rw[gW,yf,List.getElem?_range k];show(if s<2^a.length then o8 H (eB (dJ H.tries a)) s else 0)=_;rw[cV i,o8,cV b];rfl
section
variable{G:Gd}{xs:List Sx}
end
theorem wL:∀(n:Nat) (l:cN),l.Nodup->(∀x∈l,x<n)->l.length<=n
 |0,l,_,h=>by
  match l,h with
  |[],_=>grind
  |x::r,h=>exact absurd (h x fW) (Nat.not_lt_zero _)
 |n+1,l,a,h=>by have b:=wL n (l.erase n) (a.erase n) cL;grind
def TS(s:Nat)(c:Nat->Nat)(j:Nat):Nat:=eB ((eh s).filter λd=>c d==j)
def Xh(G:Gd)(s n:Nat)(c:Nat->Nat):Prop:=(∀d∈eh s,c d<n)/\∀j,j<n->l5 G (TS s c j)=true
theorem Bz{c:Nat->Nat}(a:m<5):(TS s c j).testBit m=true↔s.testBit m=true/\c m=j:=by grind [nD,rj,TS]
def LP(a:H.Ok)(b:ky H s)(c:Nat->Nat)(j:Nat):ky H (TS s c j):=ky.eB a.many λd e=>b.2 d cL
def Zh(c:Nat->Nat)(P:dp)(a:List cN)(b:cN):Prop:=a.length=b.length/\∀i (h:i<a.length) (d:i<b.length),∀x∈a[i],c x=b[i]/\P x
theorem Fe{n:Nat}{c:Nat->Nat}{P:dp}:∀(l:cN) (f:List cN) (a:cN),Zh c P f a->a.Nodup->(∀k∈a,k<n)->(∀d∈l,c d<n/\P d)->∃D∈iH l f,∃a:cN,Zh c P D a/\a.Nodup/\∀k∈a,k<n
 |[],f,a,h,p,q,_=>⟨f,by simp[iH],a,h,p,q⟩
 |d::r,f,a,h,p,q,u=>by
  have t:∀d∈r,c d<n/\P d:=cL;have v:=u d fW;by_cases w:c d∈a;have⟨j,A,B⟩:=List.getElem_of_mem w;have s:j<f.length:=by rw[h.1];grind
  have⟨D,y,z⟩:=Fe r (gq f d j) a (by unfold gq;rw[cV s];refine⟨by rw[sJ];exact h.1,λi m g x b=>?_⟩;rw[sJ]at m;rw[List.getElem_set]at b;split at b;rename_i e;subst e;rw[getD_eq m]at b;obtain b|b:=jQ.1 b;exact h.2 _ m g x b;grind;exact h.2 i m g x b) p q t;grind [iH];have⟨D,y,z⟩:=Fe r (gq f d f.length) (a++[c d]) (by unfold gq;rw[cS dq];refine⟨by simp[h.1],λi m g x b=>?_⟩;by_cases o:i<f.length;rw[nm o]at b;have:=h.2 i o (by rw[<-h.1];grind) x b;grind;obtain rfl:i=f.length:=cL;simp only[se (di _),lJ,nO,jE]at b;subst b;refine⟨?_,v.2⟩;rw[se (by rw[h.1];grind)];simp) cL cL t;grind [iH]
def Xi(f:H.Ok){s n:Nat}{c:Nat->Nat}(r:ky H s)(h:Xh H s n c):0<=nW H s/\nW H s<=n:=by
 have A:=f.many;have⟨D,v,j,l,w,t⟩:=Fe (n:=n) (c:=c) (P:=λx=>x∈eh s) (eh s) [] [] ⟨rfl,λi m=>by simp at m⟩ List.nodup_nil cL λd k=>⟨h.1 d k,k⟩;have u:=wL n j w t
 have o:lF H D=true:=mA.2 λg y=>by
  obtain⟨i,m,rfl⟩:=List.getElem_of_mem y;have e:i<j.length:=by rw[<-l.1];grind
  have p:=l.2 i m e;have z:∀d∈D[i],d<5:=λd k=>(rj.1 (p d k).2).1;refine ux f (LP f r c j[i]).2 (λx B q=>?_) (h.2 j[i] (t _ (eG e)));grind [nD,Bz,rj]
 have a:=tN (lF H) (iH (eh s) []) _ (di _);rw[j5]at a;unfold nW;rw[vF f r];cases q:uT (lF H) (iH (eh s) [])with
 |none=>
  rw[q]at a;have a:∀D∈iH (eh s) [],lF H D=false:=a;grind
 |some b=>
  rw[q]at a;have:=a.2.1 D v o;have:=l.1;grind
def TT(e:H.Ok)(l:ky H s)(h:nW H s=m):∃c,Xh H s m c:=by
 have n:=e.many;have f:=tN (lF H) (iH (eh s) []) _ (di _);rw[j5]at f;unfold nW at h;rw[vF e l]at h;cases o:uT (lF H) (iH (eh s) [])with
 |none=>
  grind
 |some b=>
  rw[o]at h f;simp only[mg,nP]at h;have⟨p,v,w⟩:=f;have a:lF H b=true:=by grind
  have q:b.length=m:=cM;have i:=(rh n (eh s) [] l.2 cL b p).2.1;have r:∀d∈eh s,∃h:b.findIdx (λg=>g.contains d)<b.length,d∈b[b.findIdx (λg=>g.contains d)]:=λd y=>by grind [Bx,List.findIdx_lt_length_of_exists,List.findIdx_getElem]
  refine⟨λd=>b.findIdx λg=>g.contains d,cL,λj k=>?_⟩;have k:j<b.length:=cM;have t:=i _ (eG k);refine ux e (ky.eB n t).2 (λx z u=>?_) (mA.1 a _ (eG k));grind [Bz,rj,nD]
def TU(a:H.Ok){s t:Nat}(f:ky H s)(b:ky H t)(h:∀x,x<5->s.testBit x=true->t.testBit x=true)(k:0<=nW H t):0<=nW H s/\nW H s<=nW H t:=by have⟨n,e⟩:∃n:Nat,nW H t=n:=⟨(nW H t).toNat,cM⟩;have⟨c,l,g⟩:=TT a b e;rw[e];refine Xi a f (c:=c) ⟨λd m=>?_,λj i=>?_⟩;grind [rj];refine ux a (LP a b c j).2 (λx o p=>?_) (g j i);grind [Bz]
section
variable{G H:Gd}{σ τ:Nat->Nat}
end
section
variable{G H:Gd}{σ τ:Nat->Nat}{xs ys:List Sx}
end
section
variable{G:Gd}{L:Nat->Nat}
end
section
variable{G:Gd}{xs:List Sx}
end
section
variable{G:Gd}{da:Option Addr}{dc:Nat}{w:cJ}
end
def J6(a:Ext w t)(d:DE m t e)(h:w.heap.size<=m):Ext w e:=⟨d.1.os.trans a.os,d.1.tape.trans a.tape,d.1.output.trans a.output,du a.size d.1.size,du a.drawn d.1.drawn,λx b=>(d.1.block x (ew b a.size) cM).trans (a.block x b)⟩
def sE.rowOf{l:List Ty}(h:sE m w (.slice a k i) l):Bl w a l:=by have⟨b,c,e,d,f⟩:=h.row;grind
def Q2{l:List Ty}(h:Made H l s):yM l<=s:=by
 unfold yM;cases a:l.getLast? with
 |none=>grind
 |some t=>exact h.last t (List.mem_of_getLast? a)
section
variable{G H:Gd}{σ τ:Nat->Nat}
end
section
variable{H G:Gd}
end
def dX.iu{x y:Code}{l:L}{Q:QW}(h:dX P m x l w (Pw (λc d=>dX P m y c d Q) Q)):dX P m (.seq x y) l w Q:=⟨λa g=>by
 refine ll (lL (h.out a g) ?_);rintro e i d ⟨c,b,f⟩;cases e with
 |normal=>exact f.out i b
 |_=>exact⟨c,b,f⟩⟩
def UX{Q:QW}{e:Exit}{a:Act}(h:∃g,Fr k g a/\jW m Q e g w):Exit.inBlock m (lift k Q) e a w:=by
 have⟨f,b,d⟩:=h;cases e with
 |exit j=>
  simp only[Exit.inBlock];by_cases c:j=m;subst c;rw[cV rfl];simp only[jW,Cp]at d;exact⟨f,b,d⟩;rw[cS c];have:Nat.beq j m=false:=by
   cases i:Nat.beq j m with
   |false=>rfl
   |true=>exact absurd (nQ i) c
  simp only[jW,this]at d;exact⟨f,b,d⟩
 |_=>exact⟨f,b,d⟩
theorem dX.block{c:Code}{l:L}{Q:QW}(h:dX P m c l w (jW k Q)):dX P m (.block k c) l w Q:=⟨λa b=>by refine wp_block (lL (h.out a b) ?_);intro e f g d;exact UX d⟩
def pT{i:Type}(n:Nat){c:Code}{l:L}{Q:QW}(g:Nat->i->L)(J:Nat->i->dC)(o:i)(r:Sub (g 0 o) l/\J 0 o w)
 (d:∀b s w,b<=n->J b s w->dX V.prog m c (g b s) w (λe t u=>match e with
  | .normal=>b<n/\∃h,Sub (g (b+1) h) t/\J (b+1) h u
  |e=>jW k Q e t u)):dX V.prog m (Code.block k (Code.loop c)) l w Q:=by
 refine⟨λa p=>?_⟩;refine wp_block<|nY (λj a w=>∃b s,b<=n/\j=n-b/\Fr m (g b s) a/\J b s w) n ⟨0,o,gh _,cM,p.sub r.1,r.2⟩ ?_;rintro j a w ⟨b,s,x,rfl,p,y⟩;refine lL ((d b s w x y).out a p) ?_;rintro e C D ⟨v,f,q⟩;cases e with
 |normal=>
  have⟨z,h,A,B⟩:=q;exact⟨n-(b+1),cM,b+1,h,cM,rfl,f.sub A,B⟩
 |exit j=>
  simp only[Exit.then];exact UX (e:=.exit j) ⟨v,f,q⟩
 |_=>exact⟨v,f,q⟩
theorem uy{T:zf}{Q:Exit->Act->dC}{r0:Option Nat}{ds:List Deferred}(F:mH P T)(z:cN){K:L->dC}{q:L->List PanicEntry->dC}{e:Array Oper}(G:∀l a w,pu ds m l a->K l w->wpOpsIn (wd r0) 0 P e Q z a w)(H:∀l c a w,pu ds m l a->q l c w->Q (.panic c) a w):∀(r:List Oper) (i:Nat) (f:cN) (l:L) (a:Act) (w:cJ),(∀j,j<r.length->r[j]? =e[i+j]?)->pu ds m l a->nZ P T m K q e.toList r f l w->wpOpsIn (wd r0) 0 P e Q (List.range' i r.length++z) a w
 |[],i,f,l,a,w,_,k,h=>by rw[fP,List.range'_zero,qI];exact G l a w k h
 |o::r,i,f,l,a,w,N,k,h=>by
  have O:e[i]? =some o:=(N 0 dq).symm;have A:∀j,j<r.length->r[j]? =e[i+1+j]? :=λj S=>by have:=N (j+1) (fB S);simpa[Kw,Nat.add_comm 1 j]using this
  have⟨h,J⟩:=wn h
  have t:∀f l,pu ds m l a->Region.wanted o (yielded e a.tmps)=true->vj P T f l w o (λv y=>nZ P T m K q e.toList r f (ins m o.dst v l) y) (λy=>nZ P T m K q e.toList r f (ins m o.dst undef l) y) (q l)->
   wpOpsIn (wd r0) 0 P e Q (List.range' i (o::r).length++z) a w:=by
   intro f l k s h;rw[fa,Co,nM];simp only[wpOpsIn,O,s,em];refine(vk F k.b h (λv y B=>?_) (λy B=>?_) λc y B=>H l c a y k B);exact uy F z G H r (i+1) f _ _ y A (k.put o.dst v J) B;exact uy F z G H r (i+1) f _ _ y A (k.put o.dst undef J) B
  have skip:∀f l,pu ds m l a->Region.wanted o (yielded e a.tmps)=false->nZ P T m K q e.toList r f (ins m o.dst undef l) w->wpOpsIn (wd r0) 0 P e Q (List.range' i (o::r).length++z) a w:=by intro f l k s h;rw[fa,Co,nM];simp only[wpOpsIn,O,s,iR,fq];refine⟨λ_ _=>trivial,?_⟩;exact uy F z G H r (i+1) f _ _ w A (k.put o.dst undef J) h
  split at h;rename_i I;exact t f l k (by simp[Region.wanted,I]) h;rename_i g p I;split at h;exact h.elim;rename_i d C;rw[mO]at C;have D:(e[g]?).bind (·.dst)=some d:=fB C;split at h;rename_i b E;have n:a.eval (.tmp d)=.bool b:=k.b.at_ d _ E;have M:yielded e a.tmps g=some b:=by
   rw[kS]at n;unfold yielded;rw[D];simp only[zO];cases R:a.tmps[d]? with
   |none=>rw[R]at n;simp[undef]at n
   |some x=>rw[R]at n;simp at n;subst n;rfl
  have s:Region.wanted o (yielded e a.tmps)=(b==p):=by simp[Region.wanted,I,M]
  split at h;cases b<;>cases p<;>simp only at h;exact t f l k (by rw[s];rfl) h;exact skip f l k (by rw[s];rfl) h;exact skip f l k (by rw[s];rfl) h;exact t f l k (by rw[s];rfl) h;cases b with
  |true=>
   have h:=h.1 rfl;have u:=k.vi E;cases p with
   |true=>simp only at h;exact t (d::f) ((d,.bool true)::l) u (by rw[s];rfl) h
   |false=>exact skip (d::f) ((d,.bool true)::l) u (by rw[s];rfl) h
  |false=>
   have h:=h.2 rfl;have u:=k.vi E;cases p with
   |true=>exact skip (d::f) ((d,.bool false)::l) u (by rw[s];rfl) h
   |false=>simp only at h;exact t (d::f) ((d,.bool false)::l) u (by rw[s];rfl) h
  rename_i U E;have n:a.eval (.tmp d)=.tuple U:=k.b.at_ d _ E;have M:yielded e a.tmps g=none:=pI D n;exact skip f l k (by simp[Region.wanted,I,M]) h;exact h.elim
structure mJ(P:cU)(N:Nat)(ops:Array Oper)(i:Nat)(l:L)(w:cJ)(Q:QW):Prop where
 out:∀a,Fr N l a->wpOpsIn (wd none) 0 P ops (lift N Q) (List.range' i (ops.size-i)) a w
def mJ.start{N id:Nat}{b:Array Oper}{l:L}{Q:QW}(h:mJ P N b 0 l w Q):dX P N (.region id b false) l w Q:=⟨λa c=>by refine wpIn_wide.1 (wpIn_region (n:=0) ?_);have:=h.out a c;rw[Nat.sub_zero,<-List.range_eq_range']at this;exact this⟩
def mJ.cut{T:zf}(n:Nat)(g:mH P T){b:Array Oper}{l:L}{Q:QW}(h:nZ P T m (λl w=>mJ P m b (i+n) l w Q) (λl c w=>Q (.panic c) l w) b.toList ((b.toList.drop i).take n) [] l w)(f:Nat.ble (i+n) b.size=true:=by rfl):mJ P m b i l w Q:=⟨λa d=>by
 have f:=qJ f;have k:((b.toList.drop i).take n).length=n:=by rw[Oy,List.length_drop,Array.length_toList];omega
 have:=uy (r0:=none) (ds:=[]) g (List.range' (i+n) (b.size-(i+n))) (Q:=lift m Q) (λl a w d e=>e.out a d.fr) (λl c a w d e=>⟨l,d.fr,e⟩) ((b.toList.drop i).take n) i [] l a w (λj o=>by rw[List.getElem?_take_of_lt cM,List.getElem?_drop,Array.getElem?_toList]) d.Ya h;rw[k,List.range'_append_1,show n+(b.size-(i+n))=b.size-i by omega]at this;exact this⟩
def mJ.fin{b:Array Oper}{l:L}{Q:QW}(h:Q .normal l w)(c:Nat.ble b.size i=true:=by rfl):mJ P m b i l w Q:=⟨λa d=>by have c:=qJ c;rw[show b.size-i=0 by omega];exact⟨l,d,h⟩⟩
def mJ.jJ{b:Array Oper}{l l0:L}{Q:QW}(c:Sub l0 l)(h:mJ P m b i l0 w Q):mJ P m b i l w Q:=⟨λa d=>h.out a (d.sub c)⟩
def UY(a:List Dr)(c:m<a.length)(d:k<3):(a.flatMap dL)[m*3+k]? =(dL a[m])[k]? :=by have b:k<(dL a[m]).iw:=d;rw[ft b];exact rW (f:=dL) (n:=3) (λ_=>rfl) a m c k _ (ft b)
def NS(b:List Dr):∀u∈b.flatMap dL,u.oneCell'=true:=λu c=>by have⟨d,_,a⟩:=me.1 c;simp only[dL,fi,pA,mh]at a;obtain rfl|rfl|rfl:=a<;>rfl
def Cb(O:iP w a (H.doors.flatMap dL))(D:H.doors.length<=100000):Calls V.prog 36 #[gV H a m] w (fO λv E=>Ext w E/\∃b c,v=gV H b c/\mz w.heap.size E (.slice b H.doors.length c) H.doors):=by
 refine go (V.fn Tryz.func36 cL) Tryz.ntmps36 ?_;refine eJ λX l F n G=>eU λI o i P h=>er [] 81 λY Z k p q=>?_;have d:=F.trans i;have s1:=F.size;have s2:=i.size;have s3:=k.size;refine cP (cO ((i.trans k).at_ G) rfl) (n5 (n0:=I.heap.size) SY q p (re H.doors) ((O.ext d).ext k) (NS _) cM λv4 J K Q=>?_);have f:=Q I k (di _);have R:=d.trans f;obtain⟨b,c,rfl,S,hc⟩:=mz.row K;have r:J.heap[l]? =some (.cells (gV H a m).cells 24):=f.at_ (i.at_ G);have s:=f.at_ h;refine dI r λT u g=>?_;replace g:T.heap[l]? =some (.cells (gL H b c).toArray 24):=g;have y:o≠l:=cL;have z:=u.fN s y;refine eF g (dI z λA L B=>?_);have C:A.heap[o]? =some (.cells (gL H b c).toArray 24):=B.trans (dH (λb=>some (Obj.cells b 24)) (ef (pJ 24).toArray (gL H b c) rfl));have U:Sem.run V.prog (loadVar 24 (dt o 0)) A=.ok (gV H b c) A:=jy (gL H b c) C λj v hj=>cL;refine⟨gV H b c,U,_,rfl,(R.cT u n).cT L cM,b,c,rfl,?_⟩;have W:∀x,cW (.slice b H.doors.length c) x->∀M t,J.heap[x]? =some (.cells M t)->t=81:=λx N M t ht=>by grind [dg.c_]
 exact mz.low (dg.keep (dg.keep K u λx N e=>cL) L (λx N e=>cL)) d.size
theorem mz.set{a:List Dr}(h:mz m w (.slice (some ⟨k,0,none⟩) a.length j) a)(p:w.heap[k]? =some (.cells W 81))(E:i<a.length)(g:t.heap[k]? =some (.cells (W.setIfInBounds (i*3+2) (.int .i64 I)) 81)):mz m t (.slice (some ⟨k,0,none⟩) (a.set i ⟨a[i].st,a[i].at_,I⟩).length j) (a.set i ⟨a[i].st,a[i].at_,I⟩):=by obtain⟨F,⟨G,_⟩|⟨s,H,u,v,e,c,J,K,x,y,L⟩⟩:=h;omega;injection e with e _ z;obtain rfl:k=s:=dH Addr.block (dT e);rw[p]at c;injection c with c;injection c with c;subst c;subst z;have A:=re a;have b:=re (a.set i ⟨a[i].st,a[i].at_,I⟩);rw[sJ]at b;refine⟨cL,.inr ⟨k,j,_,v,rfl,g,cL,cL,x,λf n=>?_,λf n B=>?_⟩⟩;rw[b]at n;obtain⟨q,r,rfl,o⟩:∃q r,f=q*3+r/\r<3:=⟨f/3,f%3,cM,cM⟩;have C:q<a.length:=cM;rw[UY _ cL o,List.getElem_set];have d:=y (q*3+r) cM;rw[UY a C o]at d;split;rename_i l;subst l;by_cases D:r=2;subst D;rw[ou cL];rfl;rw[gd cM,d];obtain rfl|rfl:r=0\/r=1:=cM;rfl;rfl;grind;grind
def dg.st{o b a c:Nat}{t:cR}{p i k:dP}{w q:cJ}{l d:eH}(h:dg o t p w (.slice (some ⟨b,0,none⟩) a c) a i)(r:w.heap[b]? =some (.cells l t))(m:q.heap[b]? =some (.cells d t))(s:d.size=l.size)(u:k.length=i.length)(n:∀j,j<i.length->d[j]? =k[j]?)(g:∀j,i.length<=j->d[j]? =l[j]?)(I:0<a):dg o t p q (.slice (some ⟨b,0,none⟩) a c) a k:=by obtain⟨v,⟨x,_⟩|⟨y,J,z,A,e,f,B,C,D,K,E⟩⟩:=h;omega;injection e with e _ F;obtain rfl:b=y:=dH Addr.block (dT e);rw[r]at f;injection f with f;injection f with f;subst f;subst F;refine⟨by rw[u];exact v,.inr ⟨b,c,d,A,rfl,m,by rw[s];exact B,C,D,λj G=>n j cM,λj G H=>?_⟩⟩;rw[g j cM];exact E j cM cM
theorem HY:∀{l:eY} (i:Nat),I∈l->0<=sC I l i
 |y::r,i,h=>by simp only[sC];by_cases a:I=y;rw[cV a];exact Int.natCast_nonneg _;rw[cS a];exact HY (i+1) ((fi.1 h).resolve_left a)
def HZ:Ey (d:Int) (nS l)=decide (d∈l):=by
 have a:((d:Int)∈nS l)↔d∈l:=by unfold nS;rw[kJ];constructor;rintro⟨e,b,h⟩;rw[<-Int.ofNat.inj h];exact b;exactλh=>⟨d,h,rfl⟩
 unfold Ey;by_cases h:d∈l;rw[decide_eq_true h,decide_eq_true (HY 0 (a.2 h))];rw[lK h,LN 0 λc=>h (a.1 c)];rfl
section
variable{G:Gd}{xs:List Sx}{f:Nat}{ps:List (Nat×List Nat)}
end
section
variable{H G:Gd}{ns:List Nat}
def NT(xs:List Sx)(d k:Nat):(leave1 xs d)[k]? =(xs[k]?).map λx=>if d=k then{x with left:=true}else x:=by grind [List.getElem?_eq_some_iff,List.getElem?_set_self,List.getElem?_set_ne,leave1]
theorem xU:∀(S:cN) (xs:List Sx) (k:Nat),(iG xs S)[k]? =(xs[k]?).map λx=>if k∈S then{x with left:=true}else x
 |[],xs,k=>by simp[iG]
 |d::r,xs,k=>by show(iG (leave1 xs d) r)[k]? =_;rw[xU r,NT];grind
section
variable{xs ys:List Sx}{S:List Nat}{f:Nat}
end
end
def jN:Nat->cN->List cN
 |0,_=>[[]]
 |_+1,[]=>[]
 |k+1,a::l=>(jN k l).map (a::·)++jN (k+1) l
def l9(p:cN->Bool)(a:cN)(b:Bool×Option cN)(x:cN):Bool×Option cN:=if b.1 then b else(p (a++x),some (a++x))
theorem H0{p:cN->Bool}{a:cN}:∀(b:List cN) (o:Option cN),b.foldl (l9 p a) (false,o)=((b.foldl (l9 p a) (false,none)).1,(b.foldl (l9 p a) (false,none)).2.or o)
 |[],o=>dq
 |x::r,o=>by
  rw[jP,jP];have e:∀o,l9 p a (false,o) x=(p (a++x),some (a++x)):=λo=>rfl;rw[e,e];cases d:p (a++x)with
  |true=>
   have:∀b:List cN,b.foldl (l9 p a) (true,some (a++x))=(true,some (a++x)):=λb=>by
    induction b with
    |nil=>rfl
    |cons y r c=>rw[jP];exact c
   grind
  |false=>
   rw[H0 r (some (a++x))];grind
theorem vG{p:cN->Bool}{a:cN}{b:Bool×Option cN}(h:b.1=true):∀c:List cN,c.foldl (l9 p a) b=b
 |[]=>rfl
 |y::r=>by rw[jP,show l9 p a b y=b from cV h];exact vG h r
theorem Dp{p:cN->Bool}{b:cN}(a:Nat):∀(d:List cN) (c:Bool×Option cN),(d.map (a::·)).foldl (l9 p b) c=d.foldl (l9 p (b++[a])) c
 |[],_=>rfl
 |x::r,c=>by
  rw[kI,jP,jP];have:l9 p b c (a::x)=l9 p (b++[a]) c x:=by unfold l9;grind
  rw[this];exact Dp a r _
theorem vH(p:cN->Bool):∀(k:Nat) (l b:cN),gR p k l b=(jN k l).foldl (l9 p b) (false,none)
 |0,l,b=>by simp[gR,jN,l9]
 |k+1,l,b=>by
  have e:∀(l:cN) (c:Bool×Option cN),(List.range l.length).foldl (λc i=>if c.1 then c else((gR p k (l.drop (i+1)) (b++[l.getD i 0])).1,(gR p k (l.drop (i+1)) (b++[l.getD i 0])).2.or c.2)) c=(jN (k+1) l).foldl (l9 p b) c:=λl=>by
   induction l with
   |nil=>exactλc=>rfl
   |cons a r f=>
    intro c;rw[fa,List.range_succ_eq_map,jP,List.foldl_map];simp only[jN,qG];rw[Dp]
    have g:(if c.1=true then c else((gR p k ((a::r).drop (0+1)) (b++[(a::r).getD 0 0])).1,(gR p k ((a::r).drop (0+1)) (b++[(a::r).getD 0 0])).2.or c.2))=(jN k r).foldl (l9 p (b++[a])) c:=by
     cases d:c.1 with
     |true=>rw[cV rfl,vG d]
     |false=>
      rw[cS dq];show((gR p k r (b++[a])).1,(gR p k r (b++[a])).2.or c.2)=_;rw[vH p k r (b++[a])];grind [H0]
    rw[g,<-f];rfl
  grind [gR]
theorem BA         {p : List Nat → Bool} : ∀ (ls : List (List Nat)) (st : Bool × Option (List Nat)), st.1 = false → match ls.find? p with
    | some x => ls.foldl (l9    p []) st = (true, some x)
    | none => (ls.foldl (l9    p []) st).1 = false
  | [], st, h => h
  | x :: r, st, h => by
    rw [List.find?_cons, List.foldl_cons]
    have e : l9    p [] st x = (p x, some x) := by grind [l9]
    rw [e]
    cases hp : p x with
    | true => exact vG         rfl r
    | false => exact BA         r (false, some x) rfl
def sr(l:cN)(n:Nat):List cN:=(List.range n).flatMap λk=>jN k l
theorem rY(l:cN)(n:Nat):sr l (n+1)=sr l n++jN n l:=by unfold sr;rw[nq,List.flatMap_append];simp
theorem wM           (p : List Nat → Bool) (l : List Nat) : ∀ n, match (sr    l n).find? p with
    | some x => iQ      p l n = (true, x)
    | none => (iQ      p l n).1 = false
  | 0 => rfl
  | n + 1 => by
    have ih := wM           p l n
    rw [rY,         List.find?_append, n9]
    cases hf : (sr    l n).find? p with
    | some x =>
      grind
    | none =>
      rw [hf] at ih
      have ih : (iQ      p l n).1 = false := ih
      rw [ih, if_neg (by simp), vH]
      have := BA         (p := p) (jN   n l) (false, none) rfl
      grind
theorem H1:∀l:cN,jN l.length l=[l]
 |[]=>rfl
 |a::r=>by
  have more:∀(l:cN) (k:Nat),l.length<k->jN k l=[]:=λl=>by
   induction l with
   |nil=>
    intro k b;match k,b with
    |k+1,_=>rfl
   |cons a r c=>
    intro k b;match k,b with
    |k+1,b=>
     grind [List.length_cons,jN]
  simp only[fa,jN];rw[H1 r,more r _ (Nat.lt_succ_self _)];rfl
theorem wN:∀(l:cN) (k:Nat),(jN k l).length<=2^l.length
 |l,0=>by simp only[jN,List.length_singleton];exact Nat.one_le_two_pow
 |[],k+1=>by simp[jN]
 |a::r,k+1=>by have b:=wN r k;have c:=wN r (k+1);simp only[jN,lx,nP,fa,Nat.pow_succ];omega
theorem tO:∀{k:Nat} {l t:cN},t∈jN k l->t.length=k/\t.Sublist l
 |0,l,t,h=>by obtain rfl:t=[]:=by simpa[jN]using h
              exact⟨rfl,List.nil_sublist _⟩
 |k+1,[],t,h=>by cases h
 |k+1,a::l,t,h=>by simp only[jN,jQ,kJ]at h;obtain⟨y,b,rfl⟩|h:=h;have:=tO b;exact⟨by rw[fa,this.1],this.2.cons_cons a⟩;have:=tO h;exact⟨this.1,this.2.cons a⟩
theorem fh.M4{d:List cN}(h:fh m w x d)(f:∀b,A b->b<m):∃a c,x=.slice a d.length c/\l7 A w a d/\d.length<=c:=by obtain⟨y,⟨z,⟨i,rfl⟩|⟨b,c,B,C,rfl,j,D,l,E,n,F⟩⟩,G,e⟩:=h;exact⟨none,0,by rw[i],λk g=>cM,cM⟩;refine⟨_,c,rfl,λk g=>?_,l⟩;have⟨u,o,p⟩:=e k g;obtain⟨q,r,rfl,s,t⟩:=p.M4 f;refine⟨b,0,q,r,λv=>iI (f b v),rfl,?_,s,t⟩;refine cO j ?_;rw[dn,n k cM,o]
def BB(G:Gd)(m:Nat)(D:List cN):Bool:=decide (D.length=m)&&lF G D
def vI(G:Gd)(D:List cN):List cN:=D.map λg=>dG G (eB g)
def lR(G:Gd)(m:Nat)(l:cN)(a:List cN):Option (List cN):=((iH l a).find? (BB G m)).map (vI G)
theorem find_congr{a:Type}{p q:a->Bool}:∀{l:List a},(∀x∈l,p x=q x)->l.find? p=l.find? q
 |[],_=>rfl
 |x::r,h=>by rw[List.find?_cons,List.find?_cons,h x fW,find_congr λy b=>h y (jD _ b)]
theorem LQ:∀(l:cN) (a:List cN),∀D∈iH l a,a.length<=D.length
 |[],a,D,b=>by
  obtain rfl:D=a:=by simpa[iH]using b
  exact di _
 |d::r,a,D,b=>by simp only[iH,me,gf]at b;have⟨j,e,b⟩:=b;have f:=LQ r _ D b;have c:=ot a d j;split at c<;>omega
def BC(G:Gd)(m:Nat)(a:List cN):lR G m [] a=if a.length=m/\lF G a=true then some (vI G a)else none:=by unfold lR;simp only[iH,List.find?_cons,List.find?_nil,BB];by_cases h:a.iw=m;cases b:lF G a<;>simp[h,b];simp[h]
theorem Dq(G:Gd)(m d:Nat)(r:cN)(a:List cN)(h:a.length<=m):lR G m (d::r) a=(List.range (min (a.length+1) m)).findSome? λi=>lR G m r (gq a d i):=by
 have c:a.length=m->lR G m r (gq a d m)=none:=λe=>by unfold lR;rw[li λD f=>?_];rfl;have k:=LQ r _ D f;have g:=ot a d m;rw[cS cM]at g;unfold BB;rw[lK cM,Bool.false_and]
 have j:lR G m (d::r) a=(List.range (a.length+1)).findSome? λi=>lR G m r (gq a d i):=by unfold lR;rw[iH,List.find?_flatMap,List.map_findSome?];rfl
 rw[j];by_cases e:a.length<m;rw[Nat.min_eq_left cM];have b:a.length=m:=cM;rw[Nat.min_eq_right cM,nq,List.findSome?_append,b];cases(List.range m).findSome? λi=>lR G m r (gq a d i)with
 |some x=>rfl
 |none=>simp[c b]
def NU(h:H.Ok)(j:ky H s):((List.range ((eh s).length+1)).findSome? λm=>lR H m (eh s) [])=fT H s:=by
 rw[vF h j];have⟨l,n⟩:=ju (eh s);rw[<-n];have a:=tN (lF H) (iH l []) _ (di _);rw[j5]at a;cases f:uT (lF H) (iH l [])with
 |none=>
  rw[f]at a;have a:∀D∈iH l [],lF H D=false:=a;rw[Option.map_none,List.findSome?_eq_none_iff];intro m _;unfold lR;rw[li λD c=>by unfold BB;rw[a D c,Bool.and_false]];rfl
 |some b=>
  rw[f]at a;have⟨o,g,p⟩:b∈iH l []/\(∀D∈iH l [],lF H D=true->b.length<=D.length)/\(iH l []).find? (λD=>decide (D.length<=b.length)&&lF H D)=some b:=a;have d:=Bw l [] b o;simp only[fP,dn]at d;refine l8 (k:=b.length) cM (λi q=>?_) ?_;unfold lR;rw[li λD c=>?_];rfl;unfold BB;cases e:lF H D with
  |false=>rw[Bool.and_false]
  |true=>
   have:=g D c e;rw[lK cM,Bool.false_and]
  unfold lR
  have:(iH l []).find? (BB H b.length)=(iH l []).find? (λD=>decide (D.length<=b.length)&&lF H D):=by
   refine find_congr λD c=>?_;unfold BB;cases e:lF H D with
   |false=>rw[Bool.and_false,Bool.and_false]
   |true=>
    have:=g D c e;rw[Bool.and_true,Bool.and_true,decide_eq_decide];omega
  rw[this,p];rfl
def NV:∀(n:Nat) (l:cN),l.length=n->0<(gN n l).length:=λn l h=>by have:=qB n l h l (List.Perm.refl l);exact List.length_pos_of_mem this
def uU(G:Gd)(a:List cN)(i b:Nat):Prop:=∃h:b<a.length,it G (a.take i)=(a[b],mT G a[b])
def uU.init{a:List cN}(h:0<a.length):uU H a 1 0:=by refine⟨h,?_⟩;rw[iT h];rfl
theorem uU.step{G:Gd}{a:List cN}{i b:Nat}(h:uU G a i b)(f:i<a.length)(j:∀r∈a,0<=mT G r):uU G a (i+1) (if mT G a[i]<mT G (a.getD b [])then i else b):=by
 have⟨d,h⟩:=h;have e:a.getD b []=a[b]:=by rw[gW,ft d];rfl
 have k:=j _ (eG d);have g:it G (a.take (i+1))=fG G (a[b],mT G a[b]) a[i]:=by rw[<-h,iT f,it,qG];rfl
 rw[e];split;rename_i c;refine⟨f,?_⟩;rw[g,fG,cV (.inr c)];rename_i c;refine⟨d,?_⟩;rw[g,fG,cS (by rintro(h|h)<;>simp only at h<;>omega)]
def uU.fin{b:Nat}(h:uU H (yL l) (yL l).length b)(a:l.Pairwise (·<·))(c:∀d∈l,d<5)(e:l.length<=5):(yL l).getD b []=dG H (eB l):=by have⟨f,h⟩:=h;rw[j5]at h;rw[gW,ft f];show(yL l)[b]=_;unfold dG;rw[Bs a c,<-wJ e,h]
def H2(h:∀d∈l,d<m):∀r∈yL l,∀d∈r,d<m:=λr a d b=>h d ((qA _ l rfl r a).mem_iff.1 b)
def Yy(a:cN):dU->Bool
 | .const _=>true
 | .tmp t=>mem t a
 |_=>false
def Wk(l:L)(a:cN)(o:Oper):Option Nat:=match o.op with
 | .move x=>(match Yy a x with
  |true=>o.dst
  |false=>none)
 | .pick (.tmp c) x y=>(match mem c a with
  |true=>(match lk l c with
   |some (.bool true)=>(match Yy a x with
    |true=>o.dst
    |false=>none)
   |some (.bool false)=>(match Yy a y with
    |true=>o.dst
    |false=>none)
   |_=>none)
  |false=>none)
 |_=>none
variable{N:Nat}
def nK(P:cU)(T:zf)(N:Nat)(K:L->dC)(a:L->List PanicEntry->dC)(c:List Oper):List Oper->cN->L->dC
 |[],_,l,w=>K l w
 |o::r,f,l,w=>Wd N o.dst (match o.guard with
  |none=>vj P T f l w o (λv h=>match Wk l f o with
         |some e=>nK P T N K a c r (e::f) (ins N o.dst v l) h
         |none=>nK P T N K a c r f (ins N o.dst v l) h) (λh=>nK P T N K a c r f (ins N o.dst undef l) h) (a l)
  |some (g,i)=>match Av c g with
   |none=>False
   |some d=>match lk l d with
    |some (.bool b)=>(match mem d f with
     |true=>(match b,i with
      |true,true=>vj P T f l w o (λv h=>match Wk l f o with
       |some e=>nK P T N K a c r (e::f) (ins N o.dst v l) h
       |none=>nK P T N K a c r f (ins N o.dst v l) h) (λh=>nK P T N K a c r f (ins N o.dst undef l) h) (a l)
      |false,false=>vj P T f l w o (λv h=>match Wk l f o with
       |some e=>nK P T N K a c r (e::f) (ins N o.dst v l) h
       |none=>nK P T N K a c r f (ins N o.dst v l) h) (λh=>nK P T N K a c r f (ins N o.dst undef l) h) (a l)
      |_,_=>nK P T N K a c r f (ins N o.dst undef l) w)
     |false=>(b=true->match i with
      |true=>vj P T (d::f) ((d,.bool true)::l) w o (λv h=>match Wk ((d,.bool true)::l) (d::f) o with
       |some e=>nK P T N K a c r (e::d::f) (ins N o.dst v ((d,.bool true)::l)) h
       |none=>nK P T N K a c r (d::f) (ins N o.dst v ((d,.bool true)::l)) h) (λh=>nK P T N K a c r (d::f) (ins N o.dst undef ((d,.bool true)::l)) h) (a ((d,.bool true)::l))
      |false=>nK P T N K a c r (d::f) (ins N o.dst undef ((d,.bool true)::l)) w)/\
      (b=false->match i with
       |false=>vj P T (d::f) ((d,.bool false)::l) w o (λv h=>match Wk ((d,.bool false)::l) (d::f) o with
        |some e=>nK P T N K a c r (e::d::f) (ins N o.dst v ((d,.bool false)::l)) h
        |none=>nK P T N K a c r (d::f) (ins N o.dst v ((d,.bool false)::l)) h) (λh=>nK P T N K a c r (d::f) (ins N o.dst undef ((d,.bool false)::l)) h) (a ((d,.bool false)::l))
       |true=>nK P T N K a c r (d::f) (ins N o.dst undef ((d,.bool false)::l)) w))
    |some (.tuple _)=>nK P T N K a c r f (ins N o.dst undef l) w
    |_=>False)
theorem uz{T:zf}{N:Nat}{Q:Exit->Act->dC}{r0:Option Nat}{ds:List Deferred}(x:mH P T)(s:cN){K:L->dC}{k:L->List PanicEntry->dC}{f:Array Oper}(y:∀l a w,pu ds N l a->K l w->wpOpsIn (wd r0) 0 P f Q s a w)(B:∀l c a w,pu ds N l a->k l c w->Q (.panic c) a w):∀(r:List Oper) (i:Nat) (m:cN) (l:L) (a:Act) (w:cJ),(∀j,j<r.length->r[j]? =f[i+j]?)->pu ds N l a->nK P T N K k f.toList r m l w->wpOpsIn (wd r0) 0 P f Q (List.range' i r.length++s) a w
 |[],i,m,l,a,w,_,n,h=>by rw[fP,List.range'_zero,qI];exact y l a w n h
 |o::r,i,m,l,a,w,G,n,h=>by
  have H:f[i]? =some o:=(G 0 dq).symm;have t:∀j,j<r.length->r[j]? =f[i+1+j]? :=λj I=>by have:=G (j+1) (fB I);simpa[Kw,Nat.add_comm 1 j]using this
  have⟨h,C⟩:=wn h
  have J:∀m l,pu ds N l a->Region.wanted o (yielded f a.tmps)=true->vj P T m l w o (λv p=>match Wk l m o with
   |some e=>nK P T N K k f.toList r (e::m) (ins N o.dst v l) p
   |none=>nK P T N K k f.toList r m (ins N o.dst v l) p) (λp=>nK P T N K k f.toList r m (ins N o.dst undef l) p) (k l)->
   wpOpsIn (wd r0) 0 P f Q (List.range' i (o::r).length++s) a w:=by
   intro m l n z h;rw[fa,Co,nM];simp only[wpOpsIn,H,z,em];refine(vk x n.b h (λv p A=>?_) (λp A=>?_) cL);split at A<;>exact uz x s y B r (i+1) _ _ _ p t (n.put o.dst v C) A;exact uz x s y B r (i+1) m _ _ p t (n.put o.dst undef C) A
  have skip:∀m l,pu ds N l a->Region.wanted o (yielded f a.tmps)=false->nK P T N K k f.toList r m (ins N o.dst undef l) w->wpOpsIn (wd r0) 0 P f Q (List.range' i (o::r).length++s) a w:=by intro m l n z h;rw[fa,Co,nM];simp only[wpOpsIn,H,z,iR,fq];refine⟨λ_ _=>trivial,?_⟩;exact uz x s y B r (i+1) m _ _ w t (n.put o.dst undef C) h
  split at h;grind [Region.wanted];rename_i g q M;split at h;grind;rename_i d D;rw[mO]at D;have O:(f[g]?).bind (·.dst)=some d:=cL;split at h;rename_i b u;have E:a.eval (.tmp d)=.bool b:=n.b.at_ d _ u;have R:yielded f a.tmps g=some b:=by grind [kS,yielded,undef]
  have z:Region.wanted o (yielded f a.tmps)=(b==q):=by simp[Region.wanted,M,R]
  split at h;cases b<;>cases q<;>simp only at h;grind;grind;grind;grind;cases b with
  |true=>
   have h:=h.1 rfl;have F:=n.vi u;grind
  |false=>
   have h:=h.2 rfl;have F:=n.vi u;grind
  rename_i S u;have E:a.eval (.tmp d)=.tuple S:=n.b.at_ d _ u;grind [pI,yielded,Region.wanted];grind
def mJ.Cc{T:zf}{N:Nat}(n:Nat)(g:mH P T){b:Array Oper}{i:Nat}{l:L}{Q:QW}(h:nK P T N (λl w=>mJ P N b (i+n) l w Q) (λl c w=>Q (.panic c) l w) b.toList ((b.toList.drop i).take n) [] l w)(f:Nat.ble (i+n) b.size=true:=by rfl):mJ P N b i l w Q:=⟨λa d=>by have f:=qJ f;have j:((b.toList.drop i).take n).length=n:=cL;have:=uz (r0:=none) (ds:=[]) g (List.range' (i+n) (b.size-(i+n))) (Q:=lift N Q) (λl a w d e=>e.out a d.fr) (λl c a w d e=>⟨l,d.fr,e⟩) ((b.toList.drop i).take n) i [] l a w cL d.Ya h;rw[j,List.range'_append_1,show n+(b.size-(i+n))=b.size-i by omega]at this;grind⟩
theorem yS:∀(n:Nat) (l:List Nat) (a:Option Addr) (c:Nat) (w:cJ),l.length=n->n<=5->fJ w a l->l.length<=c->Calls V.prog 182 #[.slice a l.length c] w (fO λv E=>Ext w E/\fh w.heap.size E v (gN n l))
 |0,l,a,c,w,hl,_,S,T=>by
  refine go (V.fn Tryz.func182 cL) Tryz.ntmps182 ?_;refine dm (eZ (ko cL (er [.slice none 0 0] 27 λd f e1 A q=>⟨_,rfl,e1,[.slice none 0 0],⟨rfl,.inr ⟨f,1,_,A,rfl,q,rfl,di _,cL,cL,cL⟩⟩,rfl,λk U=>?_⟩)));obtain rfl:k=0:=by grind [gN]
  exact⟨_,rfl,dg.nil _ _ _ _⟩
 |n+1,l,a,c,w,hl,h5,S,T=>by
  refine go (V.fn Tryz.func182 cL) Tryz.ntmps182 ?_;refine dm (eZ (kZ cL ?_));have F:5^n<=625:=du (Nat.pow_le_pow_right dq (show n<=4 by omega)) cL;refine fc l.length (λi (v:cK)=>[(0,.slice a l.length c),(3,v),(4,i64 i)]) (λi v E=>Ext w E/\fh w.heap.size E v (sq n l i)) (.slice none 0 0) ⟨by trivial,Ext.refl _,[],dg.nil _ _ _ _,rfl,λk U=>by simp[sq]at U⟩ ?_;rintro i v g hi ⟨W,X⟩;refine dm (dN ⟨λag=>?_,λak=>?_⟩)
  ·have H:i<l.length:=cL;have hm:l.eraseIdx i=l.take i++l.drop (i+1):=List.eraseIdx_eq_take_drop_succ ..;have N:(l.eraseIdx i).length=n:=cL;have O:=S.ext W;refine gQ 9 dD (ij λx=>g.heap.size<=x) (λa b h=>h.keep _) ?_;have ext:∀{d:cJ},dz (λx=>g.heap.size<=x) g d->Ext g d:=λe=>e.ext cL;refine .early rfl (λu d=>∃f,u=.slice (some ⟨f,0,none⟩) 0 0/\g.heap.size<=f/\d.heap[f]? =some (.cells #[] 3)) (λu a b h e=>by have⟨f,r,j,I⟩:=h;exact⟨f,r,j,e.at_ I⟩) (λd e=>er [] 3 λL f G A q=>⟨⟨f,rfl,iI e.size,q⟩,G⟩) ?_;refine .exact (.slice a i c) (λd e=>pK i cM ⟨rfl,Ext.refl _⟩) ?_;refine .early rfl (λu d=>eO g.heap.size d u (l.take i)) (λu a b h e=>dg.ext h e) (λd e x m=>?_) ?_;obtain⟨f,rfl,r,j⟩:=m;exact xQ [] j dq r cL ((O.ext e).cut i) cL λv5 L o J=>⟨by have o:=o;simp only[fP,dn,qI]at o;exact o,J⟩;refine .exact (i64 ((i:Int)+1)) (λd e=>cY ⟨rfl,Ext.refl _⟩) ?_;refine .exact (.slice (uR a (i+1) c) (l.length-(i+1)) (c-(i+1))) (λd e=>wG (i+1) cM T ⟨rfl,Ext.refl _⟩) ?_;refine .spec (λu d=>eO g.heap.size d u (l.eraseIdx i)) (λu a b h e=>dg.ext h e) (λd e u z=>?_) ?_;have hd:=(O.ext e).drop (i+1) T;exact J1 z e.size dq hd cL λp M o J=>⟨cL,J.trans (dz.refl (λ_=>False) _) (λx _ m=>(dg.blk z m).1) cL⟩;refine .late rfl (λu d=>fh g.heap.size d u (gN n (l.eraseIdx i))) (λu a b h e=>h.ext e) (λd e u z=>?_) ?_;obtain⟨a9,c9,rfl,Y,Z⟩:=eO.row z;exact cX (yS n (l.eraseIdx i) a9 c9 d N cM Y Z) λu M ⟨e3,aa⟩=>⟨aa.low e.size,e3⟩;refine .late rfl (λu d=>fh g.heap.size d u (gN n (l.eraseIdx i))) (λu a b h e=>h.ext e) (λd e u z _ _ _ _ _ _=>⟨z,Ext.refl _⟩) ?_;intro M e3 u z;repeat intro _
   obtain⟨a5,c5,rfl,al,am⟩:=z.row;have an:∀b,cW v b->b<g.heap.size:=λb q=>(X.blk q).2;have ao:fh w.heap.size M v (sq n l i):=X.UW e3 cL;have ab:l.getD i 0=l[i]:=cL;refine fc (gN n (l.eraseIdx i)).length (λk (p:cK)=>[(0,.slice a l.length c),(3,p),(4,i64 i),(5,.slice a5 (gN n (l.eraseIdx i)).length c5),(6,i64 k)]) (λk p E=>dz (λx=>w.heap.size<=x/\(x<g.heap.size\/M.heap.size<=x)) M E/\fh w.heap.size E p (sq n l i++((gN n (l.eraseIdx i)).take k).map (l.getD i 0::·))/\∀b,cW p b->b<g.heap.size\/M.heap.size<=b) v ⟨by trivial,dz.refl _ _,cL,cL⟩ ?_;rintro k p B U ⟨R,s,K⟩;have ac:fh g.heap.size B (.slice a5 (gN n (l.eraseIdx i)).length c5) (gN n (l.eraseIdx i)):=z.UW R cL;have C:Ext w B:=((((W.trans cL).keep λ_=>False).trans R cL cL:dz (λx=>w.heap.size<=x) w B)).ext cL;refine dm (dN ⟨λah=>?_,λai=>?_⟩);have t:k<(gN n (l.eraseIdx i)).length:=cL;have ap:(gN n (l.eraseIdx i))[k].length=n:=xR n _ N _ (eG t);have aq:(sq n l i).length<=3125:=du (Dm n l cM i) (Nat.mul_le_mul (show i<=5 by omega) F);have aj:(gN n (l.eraseIdx i)).length<=625:=du (uw n _ cM) F;have⟨a6,c6,e6,hL,_⟩:=ac.row;injection e6 with e6;subst e6;obtain⟨b1,o1,rfl,D⟩:=S i H;obtain⟨b5,o5,a7,c7,rfl,P,ad,ar⟩:=hL k t;have ae:¬cW p b1:=λh=>Cq ((s.blk h).1) (oX D);have af:¬cW p b5:=λh=>by have r:=K _ h;have j:=z.Yx;omega
   have D:=C.cell D;refine gQ 12 dD (ij (cW p)) (λa b h=>h.keep _) ?_;refine .exact (.pointer (some ⟨b1,o1+i,none⟩)) (λd e=>eX i H ⟨rfl,Ext.refl _⟩) ?_;refine .exact (i64 (l.getD i 0:Nat)) (λd e=>by rw[ab];exact cP (e.fe D ae) ⟨rfl,Ext.refl _⟩) ?_;refine .early rfl (λx d=>∃f,x=.slice (some ⟨f,0,none⟩) 1 1/\B.heap.size<=f/\d.heap[f]? =some (.cells [i64 (l.getD i 0:Nat)].toArray 3)) (λu a b h e=>by have⟨f,r,j,I⟩:=h;exact⟨f,r,j,e.at_ I⟩) (λd e=>er [i64 (l.getD i 0:Nat)] 3 λL f G A q=>⟨⟨f,rfl,iI e.size,q⟩,G⟩) ?_;refine .exact (.pointer (some ⟨b5,o5+k,none⟩)) (λd e=>eX k t ⟨rfl,Ext.refl _⟩) ?_;refine .exact (.slice a7 ((gN n (l.eraseIdx i))[k]).length c7) (λd e=>cP (e.fe P af) ⟨rfl,Ext.refl _⟩) ?_;refine .early rfl (λx d=>eO B.heap.size d x (l.getD i 0::(gN n (l.eraseIdx i))[k])) (λu a b h e=>dg.ext h e) (λd e x m=>?_) ?_;obtain⟨f,rfl,r,j⟩:=m;exact Bt j rfl r rfl (ad.ext e) cM λv5 L o J=>⟨by have o:=o;rw[Nat.add_comm]at o;exact o,J⟩;refine .early rfl (λx d=>∃f y,x=.slice (some ⟨f,0,none⟩) 1 1/\B.heap.size<=f/\d.heap[f]? =some (.cells [y].toArray 27)/\eO B.heap.size d y (l.getD i 0::(gN n (l.eraseIdx i))[k])) (λu a b h e=>by have⟨f,y,r,j,I,h4⟩:=h;exact⟨f,y,r,j,e.at_ I,dg.ext h4 e⟩) (λd e y hy=>?_) ?_;obtain⟨a8,c8,rfl,_,_⟩:=eO.row hy;exact er [.slice a8 _ c8] 27 λL f G A q=>⟨⟨f,_,rfl,iI e.size,q,dg.ext hy G⟩,G⟩;refine .spec (λx d=>fh w.heap.size d x (sq n l i++((gN n (l.eraseIdx i)).take (k+1)).map (l.getD i 0::·))/\∀b,cW x b->cW p b\/B.heap.size<=b) (λu a b h e=>⟨h.1.ext e,h.2⟩) (λd e x m _ _=>?_) ?_;obtain⟨f,y,rfl,r,j,I⟩:=m;have hs:=(C.trans e).size;refine tM (s.ext e) hs (eO.low I C.size) j cL λv5 L o J g3=>⟨⟨?_,cL⟩,J⟩;rw[List.append_assoc]at o;rw[iT t,qH];grind;refine .late rfl (λx d=>fh w.heap.size d x (sq n l i++((gN n (l.eraseIdx i)).take (k+1)).map (l.getD i 0::·))/\∀b,cW x b->cW p b\/B.heap.size<=b) (λu a b h e=>⟨h.1.ext e,h.2⟩) (λd e x m _ _ _ _ _ _=>⟨m,Ext.refl _⟩) ?_;intro L G x m _ _ _ _ _ _ _ _;exact cY ⟨t,x,by trivial,R.trans G cL λy hy Q=>⟨(s.blk Q).1,K y Q⟩,m.1,λb q=>(m.2 b q).elim (K b) λh=>.inr (du R.size h)⟩;obtain rfl:k=(gN n (l.eraseIdx i)).length:=cL;rw[j5,<-Bu]at s;exact cY ⟨H,p,by trivial,C,s⟩
  obtain rfl:i=l.length:=cL;exact⟨v,rfl,W,X⟩
end Go.Proofs.W
namespace Go.Proofs.W
open Go.Conc
def UZ(a:Array Oper):Bool:=(List.range a.size).all λi=>match a[i]? with
 |some o=>o.guard.isNone&&(o.after.all λe=>decide (e.on<i)||!Region.binds .any e)
 |none=>true
def H3(i:Nat)(D:Nat->Bool):Nat->Bool:=λj=>Nat.beq j i||D j
def Cd{b:Array Oper}{Q:Exit->Act->dC}{K:Act}{id:Nat}(hm:P.follows .mixedOrders=true)(hB:UZ b=true)(I:(Nat->Bool)->Act->dC)(M:I (λ_=>false) K w.drew)
 (hs:∀i o,b[i]? =some o->∀D a g,I D a g->D i=false->(∀j,waits b i j=true->D j=true)->o.wp P a g (λX Y=>I (H3 i D) X Y) Q)(Z:∀D a g,I D a g->(∀i,i<b.size->D i=true)->Q .normal a g):(Code.region id b true).wp P Q K w:=by
 refine wp_region_any hm ?_;have A:∀(i:Nat) (o:Oper),b[i]? =some o->o.guard=none/\∀e∈o.after,Region.binds .any e=true->e.on<i:=λi o m=>by have k:i<b.size:=(iS.1 m).1;have s:=nj.1 hB i (gf.2 k);rw[m]at s;simp only[eW]at s;refine⟨fB s.1,λe B hb=>?_⟩;have:=yV.1 s.2 e B;simpa[hb]using this
 have n:∀L:Array Bool,L.size=b.size->Region.ready .any b L=[]->∀i,i<b.size->L.getD i false=true:=by
  intro L G N i;induction i using Nat.strongRecOn with
  |_ i O=>
   intro k;refine Ku λR=>?_;have m:b[i]? =some b[i]:=nh k;have c:i∈Region.ready .any b L:=by
    unfold Region.ready;refine py.2 ⟨gf.2 k,?_⟩;simp only[eW,sH];refine⟨?_,?_⟩;have:L.getD i false=false:=fB R;have q:i<L.size:=cM;simp[q]at this⊢;exact this;rw[m];simp only[mg,kK];refine yV.2 λe B=>?_;cases S:Region.binds .any e with
    |false=>simp
    |true=>
     have C:=(A i _ m).2 e B S;rw[O e.on C cM];simp
   rw[N]at c;cases c
 have T:∀(d:Nat) (L:Array Bool) (a:Act) (g:cJ),L.size=b.size->I (λj=>L.getD j false) a g->((List.range b.size).countP λi=>!L.getD i false)<=d->wpAny P .any b Q d L a g:=by
  intro d;induction d with
  |zero=>
   intro L a g G H hc;have u:∀i,i<b.size->L.getD i false=true:=λi k=>by have M:(List.range b.size).countP (λi=>!L.getD i false)=0:=cM;have:=List.countP_eq_zero.1 M i (gf.2 k);simpa using this
   refine⟨?_,Z _ a g H u⟩;unfold Region.ready;refine Wp.2 λi k=>?_;have h:=u i (gf.1 k);have q:i<L.size:=iI (gf.1 k);simp[q]at h⊢;intro U;rw[h]at U;cases U
  |succ d O=>
   intro L a g G H hc;refine⟨λN=>Z _ a g H (n L G N),λi k=>?_⟩;unfold Region.ready at k;have⟨t,r⟩:=py.1 k;have t:=gf.1 t;simp only[eW,sH]at r;have m:b[i]? =some b[i]:=nh t;rw[m]at r;simp only[mg,kK]at r;have f:L.getD i false=false:=by have h:=r.1;have q:i<L.size:=cM;simp[q]at h⊢;exact h
   have v:∀j,waits b i j=true->L.getD j false=true:=λj y=>by unfold waits at y;rw[m]at y;have⟨e,B,y⟩:=FB.1 y;simp only[eW,sL]at y;have h:=yV.1 r.2 e B;rw[y.2]at h;rw[<-y.1];simpa using h
   have E:∀j,(L.setIfInBounds i true).getD j false=H3 i (λj=>L.getD j false) j:=λj=>by
    rw[iX _ _ _ cM];unfold H3;by_cases e:i=j;subst e;simp;rw[cS e];have:Nat.beq j i=false:=by
     cases h:Nat.beq j i with
     |false=>rfl
     |true=>exact absurd (nQ h).symm e
    rw[this,Bool.false_or]
   have F:(List.range b.size).countP (λj=>!(L.setIfInBounds i true).getD j false)<=d:=by
    have C:(List.range b.size).countP (λj=>!(L.setIfInBounds i true).getD j false)<(List.range b.size).countP (λj=>!L.getD j false):=by
     have c:=gf.2 t;generalize List.range b.size=l at c;have z:∀l:cN,l.countP (λj=>!(L.setIfInBounds i true).getD j false)<=l.countP (λj=>!L.getD j false):=λl=>List.countP_mono_left λx _ J=>by rw[iX _ _ _ cM]at J;split at J;cases J;exact J
     induction l with
     |nil=>cases c
     |cons x l V=>
      obtain rfl|W:=fi.1 c;rw[List.countP_cons_of_neg (by rw[iX _ _ _ cM];simp),List.countP_cons_of_pos (by rw[f];rfl)];exact Nat.lt_succ_of_le (z l);have U:=V W;rw[List.countP_cons,List.countP_cons];have h3:(if(!(L.setIfInBounds i true).getD x false)=true then 1 else 0)<=(if(!L.getD x false)=true then 1 else 0):=by rw[iX _ _ _ cM];split;simp;exact di _
      omega
    omega
   have hw:=hs i b[i] m _ a g H f v;unfold wpOp;rw[m];simp only;rw[cV (by unfold Region.wanted;rw[(A i _ m).1])];refine .inl (Oper.wp_mono (λX Y h=>?_) hw);refine O _ _ _ (by simp[G]) ?_ F;rw[show(λj=>(L.setIfInBounds i true).getD j false)=H3 i (λj=>L.getD j false)from funext E];exact h
 refine T b.size _ K _ dq ?_ (by have:=List.countP_le_length (p:=λi=>!(Array.replicate b.size false).getD i false) (l:=List.range b.size);simpa using this);have:(λj=>(Array.replicate b.size false).getD j false)=λ_=>false:=funext λj=>by simp[IE,vP];split<;>rfl
 rw[this];exact M
def NW(D:Nat->Bool):List Edge->Prop
 |[]=>True
 |e::r=>match Region.binds .any e with
  |true=>D e.on=true/\NW D r
  |false=>NW D r
theorem Ff{D:Nat->Bool}:∀{l:List Edge},(∀e∈l,Region.binds .any e=true->D e.on=true)->NW D l
 |[],_=>trivial
 |e::r,h=>by unfold NW;split;rename_i a;exact⟨cL,Ff cL⟩;exact Ff cL
def J7(N:Nat)(J:(Nat->Bool)->L->dC):Nat->List Oper->Prop
 |_,[]=>True
 |i,o::r=>Wd N o.dst ((∀D l w,J D l w->D i=false->NW D o.after.toList->∃b,Sub b l/\Fx V.prog Fz [] b w o (λv a=>J (H3 i D) (ins N o.dst v l) a) (λa=>J (H3 i D) (ins N o.dst undef l) a) λ_ _=>False)/\J7 N J (i+1) r)
theorem Ds{J:(Nat->Bool)->L->dC}:∀{a:List Oper} {n i:Nat} {o:Oper},J7 m J n a->a[i]? =some o->(∀t,o.dst=some t->t<m)/\∀D l w,J D l w->D (n+i)=false->NW D o.after.toList->∃c,Sub c l/\Fx V.prog Fz [] c w o (λv b=>J (H3 (n+i) D) (ins m o.dst v l) b) (λb=>J (H3 (n+i) D) (ins m o.dst undef l) b) λ_ _=>False
 |[],n,i,o,_,h=>cL
 |x::r,n,i,o,d,h=>by
  have⟨⟨f,e⟩,g⟩:=wn d;cases i with
  |zero=>
   simp at h;subst h;grind
  |succ i=>
   have:=Ds e (fB h);grind
def VZ{N id:Nat}{c:Array Oper}{l:L}{Q:QW}(J:(Nat->Bool)->L->dC)(y:J (λ_=>false) l w.drew)(p:J7 N J 0 c.toList)(q:∀D l w,J D l w->(∀i,i<c.size->D i=true)->Q .normal l w)(r:UZ c=true:=by kernel_rfl):dX V.prog N (.region id c true) l w Q:=
 ⟨λa d=>by refine Cd eE r (λD a w=>∃l,Fr N l a/\J D l w) cL ?_ λD a w ⟨l,d,j⟩ f=>⟨l,d,q D l w j f⟩;rintro i o s D a w ⟨l,d,j⟩ t u;obtain⟨n,g⟩:=Ds (i:=i) p (fB s);rw[dn]at g;obtain⟨z,k,m⟩:=g D l w j t (Ff λe A B=>u e.on (by grind [Array.any_eq_true',waits]));exact jl dB (d.sub k).b m (λv x h=>⟨_,d.put _ _ n,h⟩) (λx h=>⟨_,d.put _ _ n,h⟩) cL⟩
end Go.Proofs.W
