/- Laws that the proof needs, part 20. Conditions: none. -/
import Derived.Test.YteeagjkaflglpaaGreatX19
set_option maxRecDepth 100000
set_option maxHeartbeats 8000000
set_option linter.all false
namespace Go.Proofs.W
open Go.RowKit
def jR(A:Nat->Prop)(n0:Nat)(w:cd)(v:ce)(a:List (List Nat)):Prop:=∃c:List ce,cA n0 27 [.slice none 0 0] w v a.length c/\c.length=a.length/\∀k (h:k<a.length),∃u,c[k]? =some u/\dE n0 w u a[k]/\∀b,cw u b->¬A b
def jR.own{A:Nat->Prop}{n0:Nat}{w:cd}{v:ce}{a:List (List Nat)}(h:jR A n0 w v a):eW n0 w v a:=by obtain⟨b,c,d,e⟩:=h;exact⟨b,c,d,λk f=>by obtain⟨u,g,i,_⟩:=e k f;exact⟨u,g,i⟩⟩
theorem jR.keep{A:Nat->Prop}{n0:Nat}{w w':cd}{v:ce}{a:List (List Nat)}{F:Nat->Prop}(h:jR A n0 w v a)(k:cN F w w')(f:∀b,cw v b->¬F b)(g:∀u l b,dE n0 w u l->cw u b->¬A b->¬F b):jR A n0 w' v a:=by obtain⟨j,m,n,o⟩:=h;refine⟨j,m.keep k f,n,λi p=>?_⟩;obtain⟨u,q,c,d⟩:=o i p;exact⟨u,q,cA.keep c k λb e=>g u _ b c e (d b e),d⟩
def jR.ext{A:Nat->Prop}{n0:Nat}{w w':cd}{v:ce}{a:List (List Nat)}(h:jR A n0 w v a)(e:Ext w w'):jR A n0 w' v a:=h.keep (e.keep λ_=>False) (λ_ _ h=>h) λ_ _ _ _ _ _ h=>h
def jR.more{A A':Nat->Prop}{n0:Nat}{w:cd}{v:ce}{a:List (List Nat)}(h:jR A n0 w v a)(e:∀b,A' b->A b\/w.heap.size<=b):jR A' n0 w v a:=by obtain⟨f,g,j,k⟩:=h;refine⟨f,g,j,λi l=>?_⟩;obtain⟨u,m,c,n⟩:=k i l;refine⟨u,m,c,λb d o=>?_⟩;rcases e b o with h|h;exact n b d h;have:=(cA.blk c d).2;omega
def GL.c3{w:cd}{v:ce}{l:List Nat}(h:GL w v l){b:Nat}(a:cw v b):∃cs,w.heap[b]? =some (.cells cs 3):=by obtain⟨_,_,a⟩:=a;rcases h with⟨_,rfl⟩|⟨e,c,cs,rfl,f,d,_⟩;cases a;injection a with a;have:=cM Addr.block (cE a);simp only at this;subst this;exact⟨cs,d⟩
def cA.c_{n0:Nat}{t:cg}{zs e:List ce}{w:cd}{v:ce}{d:Nat}(h:cA n0 t zs w v d e){b:Nat}(a:cw v b):∃cs,w.heap[b]? =some (.cells cs t):=by obtain⟨_,_,a⟩:=a;obtain⟨_,⟨_,rfl⟩|⟨g,c,cs,_,rfl,f,_⟩⟩:=h;cases a;injection a with a;have:=cM Addr.block (cE a);simp only at this;subst this;exact⟨cs,f⟩
def jR.TZ{A:Nat->Prop}{n0:Nat}{w:cd}{v:ce}{a:List (List Nat)}(h:jR A n0 w v a){b:Nat}(c:cw v b):∃cs,w.heap[b]? =some (.cells cs 27):=by obtain⟨e,d,_⟩:=h;exact d.c_ c
def eX{w:cd}{b:Nat}{cs c:Array ce}{t d:cg}(h:w.heap[b]? =some (.cells cs t))(a:w.heap[b]? =some (.cells c d))(e:t≠d):False:=by rw[h]at a;injection a with a;injection a with _ a;exact e a
def mA{b a l c l' c':Nat}(h:cw (.slice (some ⟨b,0,none⟩) l c) a):a=b:=by obtain⟨_,_,h⟩:=h;injection h with h;exact(cM Addr.block (cE h)).symm
structure LS(n0 m db ob wb xb gb:Nat):Prop where
 lo:n0<=ob/\n0<=m
 d:db<m/\db≠ob
 o:ob<m
 w:wb<m/\wb≠ob
 x:xb<m/\xb≠ob
 g:gb<m/\gb≠ob
def Jn(a ob b c d:Nat):ce:=.func (.func 165) #[] #[cK a,cK ob,cK b,cK c,cK d]
structure LC(w0:cd)(wp d:Nat)(u:Du)(db ob wb xb gb:Nat)(w:cd):Prop where
 e:Ext w0 w
 b1:w.heap[db]? =some (.cells (qE d u).toArray 101)
 b3:w.heap[wb]? =some (.cells #[cK wp] 133)
 b4:w.heap[xb]? =some (.cells #[.int .i64 d] 3)
 b5:w.heap[gb]? =some (.cells #[Jn db ob wb xb gb] 209)
def LC.keep{w0:cd}{p d m:Nat}{u:Du}{c ob f i j:Nat}{w w':cd}(h:LC w0 p d u c ob f i j w)(S:LS w0.heap.size m c ob f i j){F:Nat->Prop}(k:cN F w w')(q:∀b,b<w.heap.size->F b->b=ob\/m<=b):LC w0 p d u c ob f i j w':=by
 have a:∀{b:Nat} {o:Obj},w.heap[b]? =some o->b<m->b≠ob->¬F b:=λl t r n=>by rcases q _ (cF.lt_of_heap l) n with h|h;exact r h;omega
 have s:=h.e.size;refine⟨⟨k.os.trans h.e.os,k.tape.trans h.e.tape,k.output.trans h.e.output,cJ h.e.size k.size,cJ h.e.drawn k.drawn,λb l=>(k.block b (by omega) λn=>?_).trans (h.e.block b l)⟩,k.fg h.b1 (a h.b1 S.d.1 S.d.2),k.fg h.b3 (a h.b3 S.w.1 S.w.2),k.fg h.b4 (a h.b4 S.x.1 S.x.2),k.fg h.b5 (a h.b5 S.g.1 S.g.2)⟩;have:=S.lo;rcases q _ (by omega) n with h|h<;>omega
def Tr(n0:Nat)(lv:ce)(o':Obj)(l:List Nat)(v:ce)(w:cd):Prop:=
 (∃b c k,lv=.slice (some ⟨b,0,none⟩) k c/\v=.slice (some ⟨b,0,none⟩) l.length c/\w.heap[b]? =some o'/\GL w v l)\/(∃b c,n0<=b/\v=.slice (some ⟨b,0,none⟩) l.length c/\GL w v l)
def Tr.ea{n0:Nat}{lv:ce}{o o':Obj}{l:List Nat}{v:ce}{a b:cd}(h:Tr n0 lv o' l v a)(e:EA lv o o' a b)(m:∀x,cw lv x->x<n0):Tr n0 lv o' l v b:=by
 rcases h with⟨x,c,k,rfl,rfl,f,p⟩|⟨x,c,q,rfl,f⟩;have i:b.heap[x]? =some o':=by rcases e.n x _ ⟨_,_,rfl⟩ f with h|h;exact h;exact h.2
 refine .inl ⟨x,c,k,rfl,rfl,i,?_⟩;rcases p with⟨d,g⟩|⟨r,c',s,d,g,j,t,u⟩;cases g;refine .inr ⟨r,c',s,d,g,?_,t,u⟩;injection d with d;have:=cM Addr.block (cE d);simp only at this;subst this;rw[f]at j;rw[i];exact j;exact .inr ⟨x,c,q,rfl,f.keep e.k λy w z=>by have:=m y z;have:=mA (l':=0) (c':=0) w;omega⟩
def GL.ea{lv:ce}{o o':Obj}{l:List Nat}{s:Nat}{a b:cd}(h:GL a lv l)(e:EA lv o o' a b)(d:∀x cs,cw lv x->o=.cells cs 3->o'=.cells (cs.setIfInBounds l.length (.int .i64 s)) 3):GL b lv l:=by rcases h with h|⟨x,c,cs,rfl,f,m,i,j⟩;exact .inl h;rcases e.n x _ ⟨_,_,rfl⟩ m with h|⟨h,g⟩;exact .inr ⟨x,c,cs,rfl,f,h,i,j⟩;rw[d x cs ⟨_,_,rfl⟩ h.symm]at g;refine .inr ⟨x,c,_,rfl,f,g,by simpa using i,λk p=>?_⟩;rw[eY (by omega)];exact j k p
def NX{w:cd}{k:ce->cd->Prop}{t:cg}{N:Array Bool}{lv:ce}{l:List Nat}{o o':Obj}{s n0:Nat}(y:GL w lv l)(a:∀b,cw lv b->w.heap[b]? =some o\/w.heap[b]? =some o')(F:n0<=w.heap.size)(i:l.length<=1000){L c:Nat}(r:w.heap[L]? =some (.cells [Value.int .i64 s].toArray 3))(m:∀b cs,cw lv b->o=.cells cs 3->o'=.cells (cs.setIfInBounds l.length (.int .i64 s)) 3) (C:∀b,cw lv b->∃cs,o=.cells cs 3) (G:∀v w',Tr n0 lv o' (l++[s]) v w'->EA lv o o' w w'->k v w'):wY V.prog (builtin .append #[27,27] t N #[lv,.slice (some ⟨L,0,none⟩) 1 c]) w k:=by
 have conv:∀v w',GM n0 lv o' (l++[s]) v w'->GL w lv l->Tr n0 lv o' (l++[s]) v w':=λv w' h g=>by
  rcases h with⟨b,c,f,rfl,z,A⟩|h;rcases g with⟨_,rfl⟩|⟨H,c',cs,rfl,U,M,W,X⟩;obtain⟨_,_,f⟩:=f;cases f;have:=mA (l':=0) (c':=0) f;subst this;have O:c=c':=by
   rcases A with⟨A,_⟩|⟨Y,Z,I,e,q2,u,q4,q5⟩;simp at A;injection e with P e2 Q;have:=cM Addr.block (cE P);simp only at this;subst this;subst Q;rw[z]at u;obtain⟨j,d⟩:=C b ⟨_,_,rfl⟩;have E:=m b j ⟨_,_,rfl⟩ d;have u:=cE u;rw[E]at u;injection u with u;have R:I.size=j.size:=by rw[<-u];simp
   rcases a b ⟨_,_,rfl⟩with a|a;rw[M,d]at a;have a:=cE a;injection a with a;subst a;omega;rw[M,E]at a;have a:=cE a;injection a with a;have:cs.size=j.size:=by rw[a];simp
   omega
  subst O;exact .inl ⟨b,c,l.length,rfl,rfl,z,A⟩;exact .inr h
 by_cases f:∃b,cw lv b;obtain⟨b,f⟩:=f;obtain⟨j,d⟩:=C b f;rcases a b f with h|h;refine yn (w0:=w) y (λH p=>?_) F i r o' m λv w' D B=>G v w' (conv v w' D y) B;obtain⟨_,_,e⟩:=f;obtain⟨_,_,q⟩:=p;rw[e]at q;injection q with q;have:=cM Addr.block (cE q);simp only at this;subst this;exact h;have E:=m b j f d;refine yn (o:=o') (w0:=w) y (λH p=>?_) F i r o' (λH cs p e=>?_) λv w' D B=>G v w' (conv v w' D y) ⟨B.k,λx S T J=>?_⟩;obtain⟨_,_,e⟩:=f;obtain⟨_,_,q⟩:=p;rw[e]at q;injection q with q;have:=cM Addr.block (cE q);simp only at this;subst this;exact h;rw[E]at e⊢;injection e with e;subst e;simp;rcases B.n x S T J with z|⟨z,A⟩;exact .inl z;exact .inl (by rw[A,z]);have K:∀b,¬cw lv b:=λb h=>f ⟨b,h⟩;exact yn (o:=o) (w0:=w) y (λb h=>absurd h (K b)) F i r o' m λv w' D B=>G v w' (conv v w' D y) B
def HV(L:Nat)(x:Sx)(u:Du)(f:Nat)(l:List Nat)(a:Nat)(h:¬(l.length:Int)=u.tries):jI L x u (f+1) l a=oh L x u f l a (L-a):=by simp only[jI,cr h,oh]
def F0{l:List Nat}(h:0<l.length):l.getLast?.getD 0=l[l.length-1]:=by rw[List.getLast?_eq_getElem?,ew (by omega)];rfl
theorem GL.v{w:cd}{v:ce}{l:List Nat}(h:GL w v l)(a:0<l.length):∃b c cs,v=.slice (some ⟨b,0,none⟩) l.length c/\l.length<=c/\w.heap[b]? =some (.cells cs 3)/\cs.size=c/\∀k (h:k<l.length),cs[k]? =some (.int .i64 l[k]):=by rcases h with⟨rfl,_⟩|h;simp at a;exact h
def F1{v:ce}{b a:Nat}(h:cw v b)(c:cw v a):a=b:=by obtain⟨_,_,rfl⟩:=h;exact mA (l':=0) (c':=0) c
def NY(L:Nat)(x:Sx)(u:Du)(f:Nat)(l:List Nat)(a:Nat){k n:Nat}(h:k<=n):(oh L x u f l a k).length<=(oh L x u f l a n).length:=by
 induction n with
 |zero=>obtain rfl:k=0:=by omega
        exact cz _
 |succ n b=>
  rcases eA k (n+1)with c|d;rw[pW,fX];have:=b (by omega);omega;obtain rfl:k=n+1:=by omega
  exact cz _
def NZ(A:Nat->Prop)(m ob:Nat)(lv d:ce)(l:List Nat)(c:List (List Nat))(w w':cd):Prop:=
 cN (λb=>b=ob\/cw d b\/cw lv b) w w'/\GL w' lv l/\∃a,w'.heap[ob]? =some (.cells #[a] 66)/\(∀b,cw a b->cw d b\/w.heap.size<=b)/\jR A m w' a c
theorem zP{wp gp mk ms m d db ob wb xb gb:Nat}{G:Gd}{xs:List Sx}{ar:Int}{w0:cd}(hW:kU wp gp mk ms G xs ar w0)(hd:d<xs.length)(S:LS w0.heap.size m db ob wb xb gb):∀(f:Nat) (l:List Nat) (j:Nat) (lv M:ce) (X:List (List Nat)) (A:Nat->Prop) (w:cd),fB G+1<=j+f->l.length<=j->j<=fB G->(∀s∈l,s<6)->LC w0 wp d (fQ G xs[d]) db ob wb xb gb w->GL w lv l->(∀b,cw lv b->m<=b/\A b)->(∀b,A b->b<w.heap.size)->m<=w.heap.size->w.heap[ob]? =some (.cells #[M] 66)->jR A m w M X->(∀b,cw M b->m<=b)->X.length+(jI (fB G) xs[d] (fQ G xs[d]) f l j).length<=100000->
  Calls V.prog 165 #[lv,.int .i64 j,cK db,cK ob,cK wb,cK xb,cK gb] w (fy λv w'=>NZ A m ob lv M l (X++jI (fB G) xs[d] (fQ G xs[d]) f l j) w w')
 |0,l,j,lv,M,X,A,w,E,aY,aZ,_,_,_,_,_,_,_,_,_,_=>by omega
 |f+1,l,j,lv,M,X,A,w,E,aY,aZ,aH,hC,hL,aa,hA,aB,ah,ho,aI,O=>by
  have aJ:=hW.g.tY;have a0:=aJ.days;have bm:=zO aJ;have a1:(fB G:Int)=2*G.days:=by unfold fB;omega
  have bn:l.length<=6:=by omega
  obtain⟨B,C,rfl,ai,a3⟩:=hL.row;have ae:∀b,(cw M b\/cw (.slice B l.length C) b)->b≠ob:=λb q e=>by subst e;have:=S.o;rcases q with q|q;have:=aI _ q;omega;have:=(aa _ q).1;omega
  refine go V.func165 Tryz.ntmps165 ?_;refine cD (cu (ci hC.b1 rfl) (eh ⟨λh=>?_,λh=>?_⟩));have h:(l.length:Int)=(fQ G xs[d]).tries:=cY h;have hg:jI (fB G) xs[d] (fQ G xs[d]) (f+1) l j=if wq (fQ G xs[d]) l then [l]else []:=by simp only[jI,cx h]
  rw[hg]at O⊢;have same:∀w',Ext w w'->wq (fQ G xs[d]) l=false->NZ A m ob (.slice B l.length C) M l (X++(if wq (fQ G xs[d]) l then [l]else [])) w w':=λw' e E=>by rw[E,cr (by simp),List.append_nil];exact⟨e.keep _,hL.keep (e.keep λ_=>False) λ_ _ h=>h,M,e.at_ ah,λb q=>.inl q,ho.ext e⟩
  refine cS (pk (p:=λs=>decide (s%2=0)) ⟨167,#[],#[],rfl,by intro _ _;kernel_rfl,λn w=>FK n w⟩ l B C w ai (by omega)) ?_;refine cS (pk (p:=λs=>decide (s%2=1)) ⟨168,#[],#[],rfl,by intro _ _;kernel_rfl,λn w=>FL n w⟩ l B C w ai (by omega)) ?_
  have take:∀{Q:QW} {l0:L},Sub [(0,.slice B l.length C),(3,cK ob)] l0->wq (fQ G xs[d]) l=true->(∀l' w',NZ A m ob (.slice B l.length C) M l (X++(if wq (fQ G xs[d]) l then [l]else [])) w w'->Q .normal l' w')->kq V.prog 86 (fH Tryz.f165 4) l0 w Q:=λ{Q l0} hs aK hq=>by
   rw[cx aK]at hq O;refine kq.qA hs ?_;clear hs;have aL:∀{b:Nat},cw M b->¬cw (.slice B l.length C) b:=λq P=>by obtain⟨Y,g1⟩:=ho.TZ q;obtain⟨aj,g2⟩:=hL.c3 P;exact eX g1 g2 (by decide)
   have ax:¬cw M ob:=λq=>ae ob (.inl q) rfl;have ad:∀b,cw M b->b<w.heap.size:=λb q=>by obtain⟨Y,g1⟩:=ho.TZ q;exact cF.lt_of_heap g1
   refine fV 4 cO (gu (cw M)) (λa b h=>h.keep _) ?_;refine .exact M (λR e1=>cu (ci (e1.fg ah ax) rfl) ⟨rfl,Ext.refl _⟩) ?_;refine .rel (λu R=>dE w.heap.size R u l) (λu a b Z e=>cA.keep Z e λx T aC=>by have:=(cA.blk Z T).1;have:=ad x aC;omega) (λR e1=>?_) ?_
   have a4:eO R B l:=λk hk=>by
    obtain⟨b,o,rfl,hc⟩:=ai k hk;obtain⟨b2,c2,aM,D,_,_,_,_⟩:=hL.v (by omega);injection D with D;obtain⟨rfl,rfl⟩:b=b2/\o=0:=by injection D with D;injection D with N e4;exact⟨N,e4⟩
    exact⟨_,_,rfl,e1.ef hc λE=>aL E ⟨_,_,rfl⟩⟩
   exact ck (lx a4 (by omega)) λu r ⟨D,Z⟩=>⟨Z.low e1.size,D⟩;refine .rel (λx R=>∃F u,x=.slice (some ⟨F,0,none⟩) 1 1/\w.heap.size<=F/\R.heap[F]? =some (.cells [u].toArray 27)/\dE w.heap.size R u l) (λx a b ⟨F,u,J,z,K,h4⟩ e=>⟨F,u,J,z,e.fg K (λE=>by have:=ad F E;omega),cA.keep h4 e λx T aC=>by have:=(cA.blk h4 T).1;have:=ad x aC;omega⟩) (λR e1 u Z=>?_) ?_;refine dJ [u] 27 (λr F D ak q=>⟨⟨F,u,rfl,cJ e1.size ak,q,cA.ext Z D⟩,D⟩) ?_;obtain⟨a2,c2,rfl,_⟩:=dE.row Z;intro w;kernel_rfl;refine .spec (λv R=>jR A m R v (X++[l])/\∀b,cw v b->cw M b\/w.heap.size<=b) (λv a b ⟨J,z⟩ e=>⟨J.ext e,z⟩) (λR e1 aN a5 a6 bo=>?_) ?_;obtain⟨F,u,rfl,ak,al,Z⟩:∃F u,aN=.slice (some ⟨F,0,none⟩) 1 1/\w.heap.size<=F/\R.heap[F]? =some (.cells [u].toArray 27)/\dE w.heap.size R u l:=a5;obtain⟨us,hr,aO,a7⟩:=ho.ext e1;have aP:u.oneCell'=true:=by obtain⟨a,c,rfl,_⟩:=dE.row Z;rfl
   refine fP Nt hr (cJ aB e1.size) al (by simp only[dW,fC]at O;omega) (λv' r g1 g2 g3=>⟨⟨⟨us++[u],by simpa using g1,by simp[aO],λi hi=>?_⟩,λb q=>(g3 b q).imp id λh=>cJ e1.size h⟩,g2⟩) rfl (by simp[qC,aP]);rcases eA i X.length with ab|aQ;obtain⟨x,x1,x2,x3⟩:=a7 i ab;refine⟨x,by rw[kz (by omega)];exact x1,?_,x3⟩;rw[lI ab];exact cA.keep x2 g2 (gd x2 hr (by decide));obtain rfl:i=X.length:=by simp at hi;omega
   refine⟨u,by rw[mQ (by omega)];simp[aO],?_,λb q ha=>?_⟩;simp only[qI (cz _),lf,mS];exact cA.keep (dE.low Z aB) g2 (gd Z hr (by decide));have:=(cA.blk Z q).1;have:=hA b ha;omega;rintro R e1 bp ⟨aR,ay⟩ aN _ a6 _;obtain⟨a9,c9,rfl,_,_⟩:=aR.own.row;refine cZ (e1.fg ah ax) λr k2 a8=>hq _ _ ⟨e1.trans k2 (λx _ T=>.inr (.inl T)) (λx _ T=>.inl T),(hL.keep e1 λb q P=>aL P q).keep k2 λb q e=>ae b (.inr q) e,_,a8,ay,aR.keep k2 (λb q e=>?_) λu x b Z q _ e=>?_⟩;rcases ay b q with h|h;exact ae b (.inl h) e;have:=cF.lt_of_heap ah;omega;have:=(cA.blk Z q).1;have:=S.o;omega
  refine⟨λJ=>?_,λJ=>?_⟩;refine iR rfl ⟨λz=>?_,λz=>?_⟩;exact iR rfl (take ⟨rfl,rfl,trivial⟩ (by unfold wq;rw[J,z];rfl) λl' w' h=>⟨_,rfl,h⟩);refine cu (ci hC.b1 rfl) (eu ⟨λK=>?_,λK=>?_⟩);exact take ⟨rfl,rfl,trivial⟩ (by unfold wq;rw[J,z,K];rfl) λl' w' h=>⟨_,rfl,h⟩;exact⟨_,rfl,same _ (Ext.refl _) (by unfold wq;rw[z,Bool.false_or,K,Bool.and_false])⟩;refine cu (ci hC.b1 rfl) (eu ⟨λK=>?_,λK=>?_⟩);refine⟨λz=>?_,λz=>?_⟩;exact iR rfl (take ⟨rfl,rfl,trivial⟩ (by unfold wq;rw[J,z,K];rfl) λl' w' h=>⟨_,rfl,h⟩);refine cu (ci hC.b1 rfl) (eu ⟨λh4=>?_,λh4=>?_⟩);exact take ⟨rfl,rfl,trivial⟩ (by unfold wq;rw[J,z,K,h4];rfl) λl' w' h=>⟨_,rfl,h⟩;exact⟨_,rfl,same _ (Ext.refl _) (by unfold wq;rw[z,Bool.false_or,h4,Bool.and_false])⟩;exact iG rfl ⟨_,rfl,same _ (Ext.refl _) (by unfold wq;rw[J,Bool.false_or,K,Bool.false_and])⟩;have h:¬(l.length:Int)=(fQ G xs[d]).tries:=dQ h;rw[HV _ _ _ _ _ _ h]at O⊢
  refine dZ (fB G-j) (λk (_:ce)=>[(0,.slice B l.length C),(1,.int .i64 j),(2,cK db),(3,cK ob),(4,cK wb),(5,cK xb),(6,cK gb),(11,.int .i64 (j+k:Nat))])
   (λk aD w'=>LC w0 wp d (fQ G xs[d]) db ob wb xb gb w'/\GL w' (.slice B l.length C) l/\cN (λb=>b=ob\/cw M b\/cw (.slice B l.length C) b) w w'/\w'.heap[ob]? =some (.cells #[aD] 66)/\(∀b,cw aD b->cw M b\/w.heap.size<=b)/\jR A m w' aD (X++oh (fB G) xs[d] (fQ G xs[d]) f l j k)) M ⟨⟨rfl,rfl,rfl,rfl,rfl,rfl,rfl,rfl,trivial⟩,hC,hL,cN.refl _ _,ah,λb q=>.inl q,by simpa[oh]using ho⟩ ?_
  rintro k H R hk ⟨af,au,k1,am,U,aE⟩;have aS:=hW.ext af.e;obtain⟨sa,sc,g1,g2,g3,g4⟩:=aS.at_;refine cu (ci af.b3 rfl) (cu g1 (cS (last_at aS.g) (sW ⟨λan=>?_,λan=>?_⟩)));have ab:k<fB G-j:=by have:=cY an;omega
  obtain⟨b,o,rfl,hc⟩:=g4 d hd;have ba:j+k<6:=by omega
  have bb:(j+k)/2<3:=by omega
  have aT:R.cell? ⟨b,o+d*8+4+(j+k)/2,none⟩=some (.bool (tH xs[d] ((j+k)/2))):=by
   have:(kY xs[d])[4+(j+k)/2]? =some (.bool (tH xs[d] ((j+k)/2))):=by
    obtain h0|h0|h0:(j+k)/2=0\/(j+k)/2=1\/(j+k)/2=2:=by omega
    all_goals rw[h0];rfl
   have:=hc _ _ this;rwa[<-yz]at this
  have skip:∀r,Ext R r->og xs[d] l (j+k)=true->LC w0 wp d (fQ G xs[d]) db ob wb xb gb r/\GL r (.slice B l.length C) l/\cN (λb=>b=ob\/cw M b\/cw (.slice B l.length C) b) w r/\r.heap[ob]? =some (.cells #[H] 66)/\(∀b,cw H b->cw M b\/w.heap.size<=b)/\jR A m r H (X++oh (fB G) xs[d] (fQ G xs[d]) f l j (k+1)):=λr D hs=>by refine⟨af.keep S (D.keep λ_=>False) λ_ _ h=>h.elim,au.keep (D.keep λ_=>False) λ_ _ h=>h,k1.trans (D.keep λ_=>False) (λ_ _ h=>h) λ_ _ h=>h.elim,D.at_ am,U,?_⟩;rw[pW,cx hs,List.append_nil];exact aE.ext D
  refine cQ cO (cG (ci af.b3 rfl) (cG g2 (cG (ci af.b4 rfl) (dx (.int .i64 ((j+k)/2:Nat)) (λr _=>rG (n:=2) (by omega) (by omega) ⟨rfl,Ext.refl _⟩) (kK d 8 hd (dx (.pointer (some ⟨b,o+d*8+4+(j+k)/2,none⟩)) (λr _=>yh 3 bb ⟨rfl,Ext.refl _⟩) (cG aT ⟨λJ=>?_,λJ=>?_⟩)))))));exactλr D=>iR rfl (cq ⟨ab,H,⟨rfl,rfl,rfl,rfl,rfl,rfl,rfl,rfl,trivial⟩,skip r D (by simp[og,J])⟩)
  have aU:∀{Q:QW} {l0:L} {r:cd},Sub [(0,.slice B l.length C),(1,.int .i64 j),(2,cK db),(3,cK ob),(4,cK wb),(5,cK xb),(6,cK gb),(11,.int .i64 (j+k:Nat))] l0->Ext R r->og xs[d] l (j+k)=false->(∀ao I ac w',(∃y,LC w0 wp d (fQ G xs[d]) db ob wb xb gb w'/\GL w' (.slice B l.length C) l/\cN (λb=>b=ob\/cw M b\/cw (.slice B l.length C) b) w w'/\w'.heap[ob]? =some (.cells #[y] 66)/\(∀b,cw y b->cw M b\/w.heap.size<=b)/\jR A m w' y (X++oh (fB G) xs[d] (fQ G xs[d]) f l j (k+1)))->Q .normal ((85,ao)::(82,I)::(81,ac)::(84,.int .i64 ((j+k:Nat)+1))::(83,.int .i64 (j+k:Nat))::(80,.int .i64 (j+k:Nat))::(79,.slice B l.length C)::(78,Jn db ob wb xb gb)::[(0,.slice B l.length C),(1,.int .i64 j),(2,cK db),(3,cK ob),(4,cK wb),(5,cK xb),(6,cK gb),(11,.int .i64 (j+k:Nat))]) w')->kq V.prog 86 (fH Tryz.f165 9) l0 r Q:=λ{Q l0 r} hs D aV hq=>by
   refine kq.qA hs ?_;clear hs skip;have aF:=af.keep S (D.keep λ_=>False) λ_ _ h=>h.elim;have ag:GL r (.slice B l.length C) l:=au.keep (D.keep λ_=>False) λ_ _ h=>h;have k2:=k1.trans (D.keep λ_=>False) (λ_ _ h=>h) λ_ _ h=>h.elim;have aW:=D.at_ am;have av:=aE.ext D;have s2:w.heap.size<=r.heap.size:=k2.size;have az:∀b,cw H b->m<=b:=λb q=>(U b q).elim (aI b) λh=>cJ aB h;have ap:∀b,cw (.slice B l.length C) b->b<r.heap.size:=λb q=>ag.blk q;have ad:∀b,cw H b->b<r.heap.size:=λb q=>by obtain⟨Y,h⟩:=av.TZ q;exact cF.lt_of_heap h
   obtain⟨o1,bc,bd⟩:∃o1:Obj,(∀b,cw (.slice B l.length C) b->r.heap[b]? =some o1)/\∀b,cw (.slice B l.length C) b->∃Y,o1=.cells Y 3:=by by_cases T:∃b,cw (.slice B l.length C) b;obtain⟨b,q⟩:=T;obtain⟨Y,be⟩:=ag.c3 q;exact⟨.cells Y 3,λb' P=>by rw[F1 q P];exact be,λ_ _=>⟨Y,rfl⟩⟩;exact⟨.cells #[] 3,λb q=>absurd ⟨b,q⟩ T,λb q=>absurd ⟨b,q⟩ T⟩
   obtain⟨o2,aw⟩:∃o2:Obj,∀b Y,cw (.slice B l.length C) b->o1=.cells Y 3->o2=.cells (Y.setIfInBounds l.length (.int .i64 (j+k:Nat))) 3:=by
    cases o1 with
    |cells Y t fz=>exact⟨.cells (Y.setIfInBounds l.length (.int .i64 (j+k:Nat))) 3,λb aj _ e=>by injection e with e;rw[e]⟩
    |_=>exact⟨.cells #[] 3,λb aj _ e=>by cases e⟩
   have f9:∀{b},(b=ob\/cw H b\/cw (.slice B l.length C) b\/r.heap.size<=b)->b=ob\/m<=b:=λ{b} h=>by rcases h with h|h|h|h;exact .inl h;exact .inr (az _ h);exact .inr (aa _ h).1;exact .inr (by omega)
   refine fV 7 (To (.slice B l.length C) o1 o2) (gu (λb=>b=ob\/cw H b\/cw (.slice B l.length C) b\/r.heap.size<=b)) (λa b h=>h.k.trans (cN.refl (λ_=>False) b) (λx _ T=>.inr (.inr (.inl T))) λ_ _ h=>h.elim) ?_;refine .exact (Jn db ob wb xb gb) (λW N=>cu (ci (N.fg aF.b5 λE=>by have:=S.g;rcases f9 E with h|h<;>omega) rfl) ⟨rfl,(To _ _ _).refl _⟩) ?_;refine .Kg (λv W=>∃F,v=.slice (some ⟨F,0,none⟩) 1 1/\r.heap.size<=F/\W.heap[F]? =some (.cells [Value.int .i64 (j+k:Nat)].toArray 3)) (λv a b ⟨F,J,z,K⟩ e=>⟨F,J,z,e.k.fg K λE=>by have:=ap F E;omega⟩) (λW N=>dJ [.int .i64 (j+k:Nat)] 3 λw4 F e4 ak q=>⟨⟨F,rfl,cJ N.size ak,q⟩,e4.ea _ _ _⟩) ?_;refine .early rfl (Tr r.heap.size (.slice B l.length C) o2 (l++[j+k])) (λv a b h e=>h.ea e ap) (λW N ac bf=>?_) ?_;obtain⟨F,rfl,ak,al⟩:∃F,ac=.slice (some ⟨F,0,none⟩) 1 1/\r.heap.size<=F/\W.heap[F]? =some (.cells [Value.int .i64 (j+k:Nat)].toArray 3):=bf;exact NX (ag.ea N aw) (λb q=>(N.n b o1 q (bc b q)).imp id (·.2)) N.k.size (by omega) al aw bd λv w4 J z=>⟨J,z⟩;refine .exact (.int .i64 ((j+k:Nat)+1)) (λW _=>cq (m:=(j+k:Nat)) (n:=1) ⟨rfl,(To _ _ _).refl _⟩) ?_
   refine .spec (λv W=>GL W (.slice B l.length C) l/\∃y,W.heap[ob]? =some (.cells #[y] 66)/\(∀b,cw y b->cw H b\/r.heap.size<=b)/\jR A m W y ((X++oh (fB G) xs[d] (fQ G xs[d]) f l j k)++jI (fB G) xs[d] (fQ G xs[d]) f (l++[j+k]) (j+k+1)))
    (λv a b ⟨J,y,z,K,h4⟩ e=>⟨J.ea e aw,y,e.k.fg z λE=>ae ob (.inr E) rfl,K,h4.keep e.k (λb q P=>by obtain⟨Y,q1⟩:=h4.TZ q;obtain⟨aj,q2⟩:=J.c3 P;exact eX q1 q2 (by decide)) λu x b Z q ha E=>ha (aa b E).2⟩) (λW N I aq=>?_) ?_
   have aq:Tr r.heap.size (.slice B l.length C) o2 (l++[j+k]) I W:=aq;have aA:GL W I (l++[j+k]):=by rcases aq with⟨_,_,_,_,_,_,h⟩|⟨_,_,_,_,h⟩<;>exact h
   have aG:∀b,cw I b->cw (.slice B l.length C) b\/r.heap.size<=b:=λb q=>by rcases aq with⟨b',c',k',q1,rfl,_⟩|⟨b',c',q1,rfl,_⟩;exact .inl (by rw[q1,mA (l':=0) (c':=0) q];exact⟨_,_,rfl⟩);exact .inr (by rw[mA (l':=0) (c':=0) q];exact q1)
   have bg:=aF.keep S N.k λb _ E=>.inr (aa b E).1;have bh:jR (λb=>A b\/cw I b) m W H (X++oh (fB G) xs[d] (fQ G xs[d]) f l j k):=by have J:=av.more (A':=λb=>A b\/cw I b) λb q=>q.elim .inl λq=>(aG b q).imp (λh=>(aa b h).2) id;exact J.keep N.k (λb q P=>by obtain⟨Y,q1⟩:=av.TZ q;obtain⟨aj,q2⟩:=ag.c3 P;exact eX q1 q2 (by decide)) λu x b Z q ha E=>ha (.inl (aa b E).2)
   have bq:(l++[j+k]).length=l.length+1:=by simp
   have aX:(if og xs[d] l (j+k)then []else jI (fB G) xs[d] (fQ G xs[d]) f (l++[j+k]) (j+k+1))=jI (fB G) xs[d] (fQ G xs[d]) f (l++[j+k]) (j+k+1):=by rw[aV];rfl
   have an:=NY (fB G) xs[d] (fQ G xs[d]) f l j (show k+1<=fB G-j by omega);rw[pW,aX,fX]at an;have ih:=zP hW hd S f (l++[j+k]) (j+k+1) I H (X++oh (fB G) xs[d] (fQ G xs[d]) f l j k) (λb=>A b\/cw I b) W (by omega) (by omega) (by omega) (λs hs=>by rcases gl.1 hs with hs|hs;exact aH s hs;rw[fD.1 hs];exact ba) bg aA (λb q=>⟨(aG b q).elim (λh=>(aa b h).1) λh=>by omega,.inr q⟩) (λb q=>q.elim (λh=>by have:=hA b h;have:=N.k.size;omega) λh=>aA.blk h) (by have:=N.k.size;omega) (N.k.fg aW λE=>ae ob (.inr E) rfl) bh az (by rw[fX];omega);refine ck ih ?_;rintro v w4 ⟨kk,bi,y,q1,q2,q3⟩;refine⟨⟨?_,y,q1,λb q=>(q2 b q).imp id λh=>cJ N.k.size h,q3.more λb q=>.inl (.inl q)⟩,kk.trans (cN.refl (λ_=>False) w4) (λx _ T=>?_) λ_ _ h=>h.elim⟩;rcases aq with⟨b',c',k',q4,rfl,q5,_⟩|⟨b',c',q4,rfl,_⟩;injection q4 with q4 q6 q7;subst q4 q6 q7;obtain⟨b2,c2,aM,z1,z2,z3,z4,z5⟩:=bi.v (by omega);injection z1 with z1 _ z6;have:=cM Addr.block (cE z1);simp only at this;subst this;subst z6;refine .inr ⟨_,_,aM,rfl,a3,z3,z4,λi hi=>?_⟩;have:=z5 i (by omega);rwa[lI hi]at this;refine(ag.ea N aw).keep kk λb q E=>?_;rcases E with h|h|h;exact ae b (.inr q) h;obtain⟨Y,x1⟩:=av.TZ h;obtain⟨aj,x2⟩:=ag.c3 q;exact eX x1 x2 (by decide);have:=ap b q;have:=mA (l':=0) (c':=0) h;omega;rcases T with h|h|h;exact .inl h;exact .inr (.inl h);exact .inr (.inr (aG x h));rintro W N ao ⟨J,y,z,K,h4⟩ I _ ac _;refine hq ao I ac W ⟨y,aF.keep S N λb _ E=>f9 E,J,k2.trans N (λx _ T=>T) λx T E=>?_,z,λb q=>?_,?_⟩;rcases E with h|h|h|h;exact .inl h;rcases U x h with h|h;exact .inr (.inl h);omega;exact .inr (.inr h);omega;rcases K b q with h|h;exact U b h;exact .inr (by omega);rw[pW,aV,<-List.append_assoc];exact h4
  refine jW (FB ⟨λz=>?_,λz=>?_⟩);have z:0<l.length:=by simpa using z
  obtain⟨bl,c,Y,e,q1,q2,q3,q4⟩:=au.v z;injection e with e br bj;subst e;subst bj;have bk:=q4 (l.length-1) (by omega);have bs:=aH _ (dt (show l.length-1<l.length by omega));refine jW (vX (me (l.length-1) (by omega) (cG (v:=.int .i64 (l[l.length-1]:Nat)) (ci q2 (by rw[cB];exact bk)) (dx (.int .i64 (l[l.length-1]/2:Nat)) (λr _=>rG (n:=2) (by omega) (by omega) ⟨rfl,Ext.refl _⟩) (dx (.int .i64 ((j+k)/2:Nat)) (λr _=>rG (n:=2) (by omega) (by omega) ⟨rfl,Ext.refl _⟩) (Ja λr D=>⟨λK=>?_,λK=>?_⟩)))) (by omega)));have K:l[l.length-1]/2=(j+k)/2:=Int.ofNat.inj (cY K);exact cq ⟨ab,H,⟨rfl,rfl,rfl,rfl,rfl,rfl,rfl,rfl,trivial⟩,skip r D (by simp[og,z,F0 z,K])⟩;have K:¬l[l.length-1]/2=(j+k)/2:=λe=>dQ K (by rw[e]);exact aU ⟨rfl,rfl,rfl,rfl,rfl,rfl,rfl,rfl,trivial⟩ D (by simp[og,J,z,F0 z,K]) λao I ac w' ⟨y,hJ⟩=>cq ⟨ab,y,⟨rfl,rfl,rfl,rfl,rfl,rfl,rfl,rfl,trivial⟩,hJ⟩;have z:¬0<l.length:=by simpa using z
  exactλr D=>iG rfl (aU ⟨rfl,rfl,rfl,rfl,rfl,rfl,rfl,rfl,trivial⟩ D (by simp[og,J,z]) λao I ac w' ⟨y,hJ⟩=>cq ⟨ab,y,⟨rfl,rfl,rfl,rfl,rfl,rfl,rfl,rfl,trivial⟩,hJ⟩);have aQ:k=fB G-j:=by have:=dQ an;omega
  subst aQ;exact⟨_,rfl,k1,au,H,am,U,aE⟩
def Ext.qu{w w1 a:cd}{F:Nat->Prop}(h:Ext w w1)(k:cN F w1 a)(d:∀b,F b->w.heap.size<=b):Ext w a:=
 ⟨k.os.trans h.os,k.tape.trans h.tape,k.output.trans h.output,cJ h.size k.size,cJ h.drawn k.drawn,λx c=>(k.block x (dl c h.size) λe=>by have:=d x e;omega).trans (h.block x c)⟩
theorem eW.low{n0 a:Nat}{w:cd}{v:ce}{b:List (List Nat)}(h:eW n0 w v b)(c:a<=n0):eW a w v b:=by obtain⟨d,e,f,g⟩:=h;exact⟨d,e.low c,f,λk i=>by obtain⟨u,j,l⟩:=g k i;exact⟨u,j,l.low c⟩⟩
def F2{wp gp mk ms:Nat}{G:Gd}{xs:List Sx}{o:Int}{w:cd}(h:kU wp gp mk ms G xs o w){d:Nat}(K:d<xs.length)(F:tZ 100000 xs[d]){c:Nat}(R:c<=fB G):
 Calls V.prog 120 #[cK wp,.int .i64 d,.int .i64 c] w (fy λv w'=>Ext w w'/\eW w.heap.size w' v (il G xs[d] c)):=by
 have t:=h.g.tY;have T:=zO t;refine go V.func120 Tryz.ntmps120 ?_;refine fo λU A H W f=>fo λL B u M i=>?_;have f:U.heap[A]? =some (.cells #[cK wp] 133):=f;have i:L.heap[B]? =some (.cells #[.int .i64 d] 3):=i;refine cu (ci (u.at_ f) rfl) (cu (ci i rfl) (ck (NV (h.ext (H.trans u)) K F) ?_));rintro v w3 ⟨rfl,N⟩;refine eF λw4 C X I x=>cZ x λO Y l=>?_;have l:O.heap[C]? =some (.cells (qE d (fQ G xs[d])).toArray 101):=l.trans (cM (λa=>some (Obj.cells a 101)) (dV (sH 101).toArray (qE d (fQ G xs[d])) rfl));have p:Ext L O:=N.trans (X.cy Y I);have Z:=cF.lt_of_heap f;have aa:=cF.lt_of_heap i;have ab:=cF.lt_of_heap l;refine eF λP D y ac m=>eF λw7 E e7 J z=>cZ z λq k8 j=>?_;have m:P.heap[D]? =some (.cells #[.slice none 0 0] 66):=m;have ad:=cF.lt_of_heap m;have j:q.heap[E]? =some (.cells #[Jn C D A B E] 209):=j;have ae:=cF.lt_of_heap j;have r:Ext P q:=e7.cy k8 J;have s1:=H.size;have s2:=u.size;have s3:=N.size;have s5:=p.size;have s6:=y.size;have s8:=r.size;have S:LS w.heap.size q.heap.size C D A B E:=⟨by omega,by omega,by omega,by omega,by omega,by omega⟩;have Q:Ext w q:=((H.trans u).trans p).trans (y.trans r);have hC:LC w wp d (fQ G xs[d]) C D A B E q:=⟨Q,(y.trans r).at_ l,((u.trans p).trans (y.trans r)).at_ f,(p.trans (y.trans r)).at_ i,j⟩;have e:∀b,¬cw (.slice none 0 0) b:=λb n=>by obtain⟨_,_,n⟩:=n;cases n
 have n:=(sn t xs[d] c).1;have hg:=zP h K S (fB G+1) [] c (.slice none 0 0) (.slice none 0 0) [] (λ_=>False) q (by omega) (fN _) R (λs hs=>by cases hs) hC (.inl ⟨rfl,rfl⟩) (λb n=>absurd n (e b)) (λb n=>n.elim) (cz _) (r.at_ m) ⟨[],cA.nil _ _ _ _,rfl,λk hk=>by simp at hk⟩ (λb n=>absurd n (e b)) (by show 0+(il G xs[d] c).length<=100000;omega);refine cu (ci j rfl) (ck hg ?_);rintro v w9 ⟨k9,_,ov,q1,q2,q3⟩;refine cu (ci q1 rfl) ⟨_,rfl,Q.qu k9 λb n=>?_,q3.own.low (by omega)⟩;rcases n with h|h|h;omega;exact absurd h (e b);exact absurd h (e b)
theorem UW:FD 64 66 [.slice none 0 0]:=⟨by kernel_rfl,Tryz.t66,_,by kernel_rfl,rfl,by kernel_rfl,by kernel_rfl,by decide+kernel,by decide⟩
theorem eW.keep{n0:Nat}{w w':cd}{v:ce}{d:List (List Nat)}{F:Nat->Prop}(h:eW n0 w v d)(k:cN F w w')(e:∀b cs t,F b->w.heap[b]? =some (.cells cs t)->t=27\/t=3->False):eW n0 w' v d:=by obtain⟨j,f,l,m⟩:=h;refine⟨j,f.keep k λb a c=>?_,l,λi n=>?_⟩;obtain⟨cs,q⟩:=f.c_ a;exact e b cs 27 c q (.inl rfl);obtain⟨u,o,g⟩:=m i n;refine⟨u,o,cA.keep g k λb a c=>?_⟩;obtain⟨cs,q⟩:=cA.c_ g a;exact e b cs 3 c q (.inr rfl)
theorem eW.RX{n0:Nat}{w w':cd}{v:ce}{c:List (List Nat)}{F:Nat->Prop}(h:eW n0 w v c)(k:cN F w w')(d:∀b,n0<=b->¬F b):eW n0 w' v c:=by obtain⟨g,e,j,l⟩:=h;refine⟨g,e.keep k λb a=>d b (e.blk a).1,j,λi m=>?_⟩;obtain⟨u,n,f⟩:=l i m;exact⟨u,n,cA.keep f k λb a=>d b (cA.blk f a).1⟩
def iV(n0:Nat)(w:cd)(v:ce)(lss:List (List (List Nat))):Prop:=∃a:List ce,cA n0 66 [.slice none 0 0] w v lss.length a/\a.length=lss.length/\∀k (h:k<lss.length),∃u,a[k]? =some u/\eW n0 w u lss[k]
section
variable{n0:Nat}{w w':cd}{v:ce}{lss:List (List (List Nat))}
theorem iV.ext(h:iV n0 w v lss)(e:Ext w w'):iV n0 w' v lss:=by obtain⟨a,b,c,d⟩:=h;refine⟨a,b.ext e,c,λk f=>?_⟩;obtain⟨u,g,i⟩:=d k f;exact⟨u,g,i.ext e⟩
theorem iV.gi{m:Nat}(h:iV n0 w v lss)(e:iB m w w'):iV n0 w' v lss:=by obtain⟨a,b,c,d⟩:=h;refine⟨a,b.gi e,c,λk f=>?_⟩;obtain⟨u,g,i⟩:=d k f;exact⟨u,g,i.gi e⟩
theorem iV.keep{F:Nat->Prop}(h:iV n0 w v lss)(k:cN F w w')(c:∀b cs t,F b->w.heap[b]? =some (.cells cs t)->t=66\/t=27\/t=3->False):iV n0 w' v lss:=by obtain⟨e,d,f,g⟩:=h;refine⟨e,d.keep k λb a j=>?_,f,λi l=>?_⟩;obtain⟨cs,q⟩:=d.c_ a;exact c b cs 66 j q (.inl rfl);obtain⟨u,m,n⟩:=g i l;exact⟨u,m,n.keep k λb cs t a o p=>c b cs t a o (.inr p)⟩
theorem iV.v_(h:iV n0 w v lss):∃a c,v=.slice a lss.length c:=by obtain⟨d,b,_⟩:=h;obtain⟨a,c,e,_⟩:=b.len;exact⟨a,c,e⟩
theorem iV.nil(n0:Nat)(w:cd):iV n0 w (.slice none 0 0) []:=⟨[],cA.nil _ _ _ _,rfl,λk a=>by simp at a⟩
end
theorem N0{w:cd}{k:ce->cd->Prop}{t:cg}{A:Array Bool}{n0:Nat}{v:ce}{lss:List (List (List Nat))}(h:iV n0 w v lss)(m:n0<=w.heap.size){b c:Nat}{u:ce}{o:List (List Nat)}(p:eW n0 w u o)(e:w.heap[b]? =some (.cells [u].toArray 66))(f:lss.length+1<=1000000) (B:∀g w',iV n0 w' g (lss++[o])->cN (cw v) w w'->(∀b,cw g b->n0<=b)->k g w'):wY V.prog (builtin .append #[64,64] t A #[v,.slice (some ⟨b,0,none⟩) 1 c]) w k:=by
 obtain⟨C,r,s,D⟩:=h;have j:u.oneCell'=true:=by obtain⟨a,c,rfl,_⟩:=p.row;rfl
 have d:∀b y t,cw v b->w.heap[b]? =some (.cells y t)->t=27\/t=3->False:=λb y t e E F=>by obtain⟨G,q⟩:=r.c_ e;exact eX q E (by rcases F with rfl|rfl<;>decide)
 refine fP UW r m e f (λg w' z n L=>B g w' ⟨C++[u],by simpa using z,by simp[s],λi H=>?_⟩ n λb e=>(z.blk e).1) rfl (by simp[qC,j]);rcases eA i lss.length with l|I;obtain⟨x,J,K⟩:=D i l;refine⟨x,by rw[kz (by omega)];exact J,?_⟩;rw[lI l];exact K.keep n d;obtain rfl:i=lss.length:=by simp at H;omega
 refine⟨u,by rw[mQ (by omega)];simp[s],?_⟩;simp only[qI (cz _),lf,mS];exact p.keep n d
def F3(n0:Nat)(w:cd)(b:Nat):Prop:=n0<=b/\∃a t c,w.heap[b]? =some (.cells a t c)
theorem cA.Pd{α:Type}{n0:Nat}{t:cg}{z:ce}{w:cd}{v:ce}{a:List ce}{l:List α}{E:cd->ce->α->Prop}(h:cA n0 t [z] w v l.length a)(i:∀k (h:k<l.length),∃u,a[k]? =some u/\E w u l[k]):iQ (F3 n0 w) E z t w v l:=by obtain⟨j,⟨m,rfl⟩|⟨b,c,d,n,rfl,e,f,o,x,p,q⟩⟩:=h;exact .inl ⟨l9 m,rfl⟩;simp only[dW,fC,ot,cB]at j f;refine .inr ⟨b,c,d,(0,0),⟨n,d,t,(0,0),e⟩,rfl,e,f,o,λk g=>?_,λk g y=>?_⟩;obtain⟨u,r,s⟩:=i k g;exact⟨u,by rw[p k (by omega)];exact r,s⟩;rw[q k (by omega) (by omega)];simp[Nat.mod_one]
theorem dE.Pd{n0:Nat}{w:cd}{v:ce}{l:List Nat}(h:dE n0 w v l):vT (F3 n0 w) w v l:=cA.Pd h λk a=>⟨.int .i64 l[k],by simp[fi,ew a],rfl⟩
theorem eW.Pd{n0:Nat}{w:cd}{v:ce}{a:List (List Nat)}(h:eW n0 w v a):zb (F3 n0 w) w v a:=by obtain⟨g,b,i,c⟩:=h;exact cA.Pd b λk d=>by obtain⟨u,e,f⟩:=c k d;exact⟨u,e,f.Pd⟩
theorem iV.Pd{n0:Nat}{w:cd}{v:ce}{lss:List (List (List Nat))}(h:iV n0 w v lss):uC (F3 n0 w) w v lss:=by obtain⟨f,a,g,b⟩:=h;exact cA.Pd a λk c=>by obtain⟨u,d,e⟩:=b k c;exact⟨u,d,e.Pd⟩
theorem zQ(a b c:ce)(cs:List Int):(dg a b c cs).size=3+cs.length:=by simp[dg];omega
theorem A9(a b c:ce)(cs:List Int)(k:Nat)(v:Int):(dg a b c cs).setIfInBounds (3+k) (.int .i64 v)=dg a b c (cs.set k v):=by unfold dg;rw[show 3+k=k+1+1+1 by omega];simp[List.map_set]
theorem zR(a b c u:ce)(cs:List Int):(dg a b c cs).setIfInBounds 2 u=dg a b u cs:=by unfold dg;simp
theorem Ba(G:Gd)(a:Nat):ie G a 0=List.replicate 32 0:=by unfold ie;simp only[Nat.not_lt_zero,eo];rfl
theorem oJ(G:Gd)(a k:Nat)(c:k<32):ie G a (k+1)=(ie G a k).set k (pX G a k):=by
 apply List.ext_getElem?;intro i;unfold ie;rw[List.getElem?_set,mR,mR];simp only[kV,List.length_range];rcases eA i 32 with b|b;rw[List.getElem?_range b];by_cases e:k=i;subst e;simp[c];simp only[e,eo,iX];have:(i<k+1)=(i<k):=by apply propext;omega
 simp[this];rw[IA (by simpa using b)];have:¬k=i:=by omega
 simp[this]
theorem F4:∀s:Nat,s<32->∀a:Nat,a<32->(decide (b8 .andNot s a=0))=Qr s a:=by decide+kernel
theorem Qs:∀n:Nat,n<=5->IntKind.u8.wrap (1*2^n)=((2^n:Nat):Int):=by decide+kernel
theorem UX:∀n:Nat,n<=5->∀s:Nat,s<2^n->s<32/\∀d∈dK s,d<n:=by decide+kernel
theorem Dk{w:cd}{k:ce->cd->Prop}{t:cg}{x y:dj}{m n:Nat}(b:m+n<256)(h:k (.int .u8 ((m+n:Nat):Int)) w):iO V.prog (do eqGuard .add t x y (.int .u8 m) (.int .u8 n);binOp .add t (.int .u8 m) (.int .u8 n)) w k:=by refine⟨_,w,?_,h⟩;go_simp;have a:IntKind.u8.signed=false:=rfl;unfold IntKind.wrap;simp[IntKind.bits,a];omega
theorem Jo{f:IntKind}{t b o:Nat}{w:cd}{k:ce->cd->Prop}(a n:Nat){i:Int}(p:a<n)(h:k (.pointer (some ⟨b,o+a,none⟩)) w)(g:i=(a:Nat):=by rfl)(j:ty t=some ⟨2,n,1,n⟩:=by rfl):iO V.prog (Instr.indexAt t (.pointer (some ⟨b,o,none⟩)) (.int f i)) w k:=by
 subst g;obtain⟨e,l,m⟩:=FA j rfl;refine⟨_,w,?_,h⟩;have c:(a:Int)<(n:Int):=by omega
 have d:(0:Int)<=(a:Int):=by omega
 unfold Instr.indexAt;simp only[asIntOf,Instr.sureAddr,pure_bind,Sem.run_bind,fZ l,Result.andThen_ok,Sem.run_pure,d,c,and_self,cX,lq m,ql,fL,ot]
theorem RY{w:cd}{s:cd->Prop}{pb:Nat}{c d e:ce}{cs:List Int}{k:Nat}{v:Int}(f:w.heap[pb]? =some (.cells (dg c d e cs) 207))(i:k<cs.length)(h:∀w',cN (λx=>x=pb) w w'->w'.heap[pb]? =some (.cells (dg c d e (cs.set k v)) 207)->s w'):DR V.prog (Instr.storeAt 3 (.pointer (some ⟨pb,3+k,none⟩)) (.int .i64 v)) w s:=
 iA f (by rw[zQ];show 3+k+1<=_;omega) (λw' g b=>h w' g (b.trans (cM (λa=>some (Obj.cells a 207)) (A9 _ _ _ _ _ _)))) (fU (l:=[.int .i64 v]) rfl)
def N4(a:ce)(w:cd):Calls V.prog 186 #[a] w (fy λv w'=>v=a/\w'=w):=by refine go V.func186 Tryz.ntmps186 ?_;exact⟨_,rfl,rfl,rfl⟩
def Ts:List Int:=List.replicate 32 0
def zS{wp gp mk ms n0:Nat}{G:Gd}{xs:List Sx}{W:Int}{w:cd}{A:Nat->Prop}(h:kU wp gp mk ms G xs W w)(hA:∀b,A b->b<w.heap.size)(hp:ku A mk ms G w)(av:n0<=mk)(aw:n0<=ms)(ax:∀x∈xs,tZ 100000 x){f:Nat}(K:f<=fB G):
 Calls V.prog 162 #[cK wp,.int .i64 f] w (fy λv w'=>MA n0 mk ms G A w w'/\∃pb,v=cK pb/\eV (F3 w.heap.size w') pb (iU G xs f) w'):=by
 have ai:=h.g.tY;have h5:=ai.many;have aj:=h.len;refine go V.func162 Tryz.ntmps162 ?_;refine cS (N4 _ _) (ck (yi h) ?_);rintro ov w1 ⟨e1,ak⟩;have aG:=pm G.tries xs;obtain⟨H,L,rfl,_,aI⟩:=ak.row;refine dA (.agg (dg (cK wp) (.slice H (cW G.tries xs).length L) (.slice none 0 0) Ts)) (fo λw2 pb e2 aJ B=>?_);have B:w2.heap[pb]? =some (.cells (dg (cK wp) (.slice H (cW G.tries xs).length L) (.slice none 0 0) Ts) 207):=B;refine cu (ci B rfl) (cD ?_);obtain⟨O,hO⟩:∃O,O=Value.slice H (cW G.tries xs).length L:=⟨_,rfl⟩;have aH:(cW G.tries xs).length<=5:=by omega
 have s1:=e1.size;have E2:=e1.trans e2;refine gC (n:=(cW G.tries xs).length) (λk v=>[(0,cK wp),(1,.int .i64 f),(5,cK pb),(21,.slice H (cW G.tries xs).length L),(22,.int .i64 (cW G.tries xs).length),(23,.int .i64 k)]) (λk v w'=>Ext w w'/\dE w.heap.size w' O (cW G.tries xs)/\w'.heap[pb]? =some (.cells (dg (cK wp) O v Ts) 207)/\iV w.heap.size w' v (mz G xs f k)) (.slice none 0 0) ⟨⟨rfl,rfl,rfl,rfl,rfl,rfl,trivial⟩,E2,by rw[hO];exact ak.ext e2,by rw[hO];exact B,by simpa[mz]using iV.nil _ _⟩ ?_ ?_ ?_;rintro k v I hk hJ;exact cV ⟨rfl,rfl,⟨rfl,rfl,rfl,rfl,rfl,rfl,trivial⟩,hJ⟩;rintro k v I hk ⟨X,y,i,z⟩;have M:eO I H (cW G.tries xs):=by obtain⟨a,c,q1,q2,_⟩:=y.row;rw[hO]at q1;injection q1 with q1;rw[q1];exact q2
 obtain⟨b,o,rfl,hc⟩:=M k hk;have C:=kh (dt hk);obtain⟨d,hd⟩:∃d,d=(cW G.tries xs)[k]:=⟨_,rfl⟩;rw[<-hd]at hc C;refine dI k hk (cu hc ?_);have N:∀b,cw v b->w.heap.size<=b/\b<I.heap.size:=λb j=>by obtain⟨us,hr,_⟩:=z;exact hr.blk j
 have ab:¬cw v pb:=λj=>by obtain⟨us,hr,_⟩:=z;obtain⟨cs,q⟩:=hr.c_ j;exact eX q i (by decide)
 refine fV 10 cO (gu (cw v)) (λa b h=>h.keep _) ?_;refine .exact v (λr D=>cu (ci (D.fg i ab) rfl) ⟨rfl,Ext.refl _⟩) ?_;refine .rel (λu r=>eW I.heap.size r u (il G xs[d] f)) (λu a b hu e=>hu.RX e λx P ac=>by have:=(N x ac).2;omega) (λr D=>?_) ?_;have ay:Ext w r:=X.qu D λx P=>(N x P).1;exact ck (F2 (h.ext ay) C (ax _ (dt C)) K) λu w5 ⟨e5,hu⟩=>⟨hu.low D.size,e5⟩;refine .rel (λx r=>∃J u,x=.slice (some ⟨J,0,none⟩) 1 1/\I.heap.size<=J/\r.heap[J]? =some (.cells [u].toArray 66)/\eW I.heap.size r u (il G xs[d] f)) (λx a b ⟨J,u,h1,h2,h3,h4⟩ e=>⟨J,u,h1,h2,e.fg h3 (λK=>by have:=(N J K).2;omega),h4.RX e λx P ac=>by have:=(N x ac).2;omega⟩) (λr D u hu=>?_) ?_;refine dJ [u] 66 (λw5 J e5 al j=>⟨⟨J,u,rfl,cJ D.size al,j,eW.ext hu e5⟩,e5⟩) ?_;obtain⟨a2,c2,rfl,_⟩:=eW.row hu;intro w;kernel_rfl;refine .spec (λv' r=>iV w.heap.size r v' (mz G xs f (k+1))) (λv a b h1 e=>h1.ext e) (λr D am az aA aK=>?_) ?_;obtain⟨J,u,rfl,al,an,hu⟩:∃J u,am=.slice (some ⟨J,0,none⟩) 1 1/\I.heap.size<=J/\r.heap[J]? =some (.cells [u].toArray 66)/\eW I.heap.size r u (il G xs[d] f):=az;refine N0 (z.ext D) (by have:=X.size;have:=D.size;omega) (hu.low X.size) an (by simp[mz];omega) λv' w5 g1 g2 _=>⟨?_,g2⟩;have:mz G xs f (k+1)=mz G xs f k++[il G xs[d] f]:=by unfold mz;rw[gP hk,nQ,jP,qK,<-hd,getD_eq C]
 rw[this];exact g1;rintro r D aL ao am _ aA _;obtain⟨a9,c9,rfl⟩:=iV.v_ ao;refine cZ (D.fg i ab) λw5 k5 aB=>cq ⟨_,⟨rfl,rfl,rfl,rfl,rfl,rfl,trivial⟩,(X.qu D λx P=>(N x P).1).cy k5 (by omega),?_,aB.trans (cM (λa=>some (Obj.cells a 207)) (zR _ _ _ _ _)),ao.keep k5 λb cs t j hc ht=>?_⟩;refine cA.keep (cA.keep y D λb j K=>?_) k5 λb j K=>?_;obtain⟨us,hr,_⟩:=z;obtain⟨cs,q⟩:=hr.c_ K;obtain⟨ap,q'⟩:=cA.c_ y j;exact eX q q' (by decide);subst K;obtain⟨ap,q'⟩:=cA.c_ y j;exact eX i q' (by decide);subst j;exact eX (D.fg i ab) hc (by rcases ht with rfl|rfl|rfl<;>decide);rintro v I ⟨X,y,i,z⟩;subst hO;have Q:iV w.heap.size I v (iU G xs f).lists:=by
  have:mz G xs f (cW G.tries xs).length=(iU G xs f).lists:=by unfold mz iU;rw[kX]
  rw[<-this];exact z
 clear z;have M:eO I H (cW G.tries xs):=by obtain⟨a,c,q1,q2,_⟩:=y.row;injection q1 with q1;rw[q1];exact q2
 have h3:=h.ext X;obtain⟨sa,sc,g1,g2,g3,g4⟩:=h3.at_;obtain⟨da,dc,d1,d2⟩:=h3.g.c6;refine cu (ci i rfl) (cS (pj (cW G.tries xs) H L I M (λd hd=>by have:=kh hd;omega) (by omega)) (cu g1 (cu d1 (cD (Te (by omega) ?_)))));rw[Qs _ h5];have aM:2^G.doors.length<=32:=Nat.pow_le_pow_right (by omega) h5;obtain⟨l,R⟩:∃l,l=dB (cW G.tries xs):=⟨_,rfl⟩;rw[<-R];have E:l<32:=by rw[R];exact pP _ 0 (by omega) λd hd=>by have:=kh hd;omega
 have aN:=cF.lt_of_heap i;have s3:=X.size;have aC:ku (λx=>A x\/x=pb) mk ms G I:=(hp.more (A':=λx=>A x\/x=pb) λb j=>j.imp id λh=>by omega).ext X;refine ei (n:=2^G.doors.length) (λk=>[(0,cK wp),(5,cK pb),(8,.int .u8 l),(55,.int .u8 (2^G.doors.length:Nat)),(56,.int .u8 k)]) (λk w'=>iB n0 w w'/\ku (λx=>A x\/x=pb) mk ms G w'/\dE w.heap.size w' (.slice H (cW G.tries xs).length L) (cW G.tries xs)/\w'.heap[pb]? =some (.cells (dg (cK wp) (.slice H (cW G.tries xs).length L) v (ie G l k)) 207)/\iV w.heap.size w' v (iU G xs f).lists) ⟨⟨rfl,rfl,rfl,rfl,rfl,trivial⟩,X.gi n0,aC,y,by rw[Ba];exact i,Q⟩ ?_ ?_ ?_;rintro k r hk hJ;exact cV ⟨rfl,rfl,⟨rfl,rfl,rfl,rfl,rfl,trivial⟩,hJ⟩;rintro k r hk ⟨m4,ad,ae,s,Q⟩;have p:k<32:=by omega
 have aO:=uT G l k;refine Jo k 32 p (RY s (by omega) λw5 k5 S=>?_);have T:∀{a b:cd},cN (λx=>x=pb) a b->a.heap[pb]? =some (.cells (dg (cK wp) (.slice H (cW G.tries xs).length L) v (ie G l k)) 207)\/a.heap[pb]? =some (.cells (dg (cK wp) (.slice H (cW G.tries xs).length L) v ((ie G l k).set k (-1))) 207)->dE w.heap.size a (.slice H (cW G.tries xs).length L) (cW G.tries xs)->iV w.heap.size a v (iU G xs f).lists->dE w.heap.size b (.slice H (cW G.tries xs).length L) (cW G.tries xs)/\iV w.heap.size b v (iU G xs f).lists:=λkk j ha hl=>by refine⟨cA.keep ha kk λx P K=>?_,hl.keep kk λx cs t K hc ht=>?_⟩;obtain⟨ap,q'⟩:=cA.c_ ha P;subst K;rcases j with j|j<;>exact eX j q' (by decide);subst K;rcases j with j|j<;>exact eX j hc (by rcases ht with rfl|rfl|rfl<;>decide)
 obtain⟨af,ag⟩:=T k5 (.inl s) ae Q;have m5:iB n0 w w5:=m4.cy k5 (by omega);have ah:=ad.keep k5 λx P=>.inr P;refine Qk _ rfl (eG ⟨λhn=>?_,λhn=>?_⟩);have F:Qr k l=false:=by rw[<-F4 k p l E];simpa using hn
 refine Dk (m:=k) (n:=1) (by omega) ⟨⟨rfl,rfl,rfl,rfl,rfl,trivial⟩,m5,ah,af,?_,ag⟩;rw[oJ _ _ _ p,pX,F];exact S;have F:Qr k l=true:=by rw[<-F4 k p l E];simpa using hn
 have aq:=h.gi m5;obtain⟨aP,aQ,z1,z2,z3,z4⟩:=aq.at_;have aD:∀b,(A b\/b=pb)->b<w5.heap.size:=λb j=>j.elim (λj=>by have:=hA b j;have:=m5.size;omega) λe=>by subst e;exact cF.lt_of_heap S
 refine cu z1 (ck (zM aq.g aD ah av aw (UX _ h5 k hk)) ?_);rintro v6 w6 ⟨m6,u,b,rfl,Y⟩;have ar:=m5.trans m6.1;have au:=m6.2 ah;have U:=m6.1.at_ S;cases Z:fJ G k with
 |none=>
  rw[Z]at Y;obtain⟨rfl,rfl⟩:=Y;refine iG rfl (Dk (m:=k) (n:=1) (by omega) ⟨⟨rfl,rfl,rfl,rfl,rfl,trivial⟩,ar,au,cA.gi af m6.1,?_,ag.gi m6.1⟩);rw[oJ _ _ _ p,pX,F,Z];exact U
 |some ls=>
  rw[Z]at Y;obtain⟨rfl,a,c,rfl,_,_⟩:=Y;refine iR rfl (cD (Jo k 32 p (RY U (by rw[qJ];omega) λw7 k7 aa=>Dk (m:=k) (n:=1) (by omega) ?_)));obtain⟨aE,aF⟩:=T k7 (.inr U) (cA.gi af m6.1) (ag.gi m6.1);refine⟨⟨rfl,rfl,rfl,rfl,rfl,trivial⟩,ar.cy k7 (by omega),au.keep k7 λx P=>.inr P,aE,?_,aF⟩;rw[oJ _ _ _ p,pX,F,Z];rw[List.set_set]at aa;exact aa
 rintro r ⟨m4,ad,ae,s,Q⟩;refine⟨_,rfl,⟨m4,λ_=>ad.fewer λb j=>.inl j⟩,pb,rfl,FZ ai aj f,⟨by omega,_,_,_,s⟩,cK wp,_,v,(0,0),.inr ⟨_,rfl⟩,?_,ae.Pd,Q.Pd⟩;rw[s,R,<-aj];rfl
end Go.Proofs.W
namespace Go.Proofs.W
open Go.Conc Go.cF Go.cF.Cr Go.cF.Wg Go.RowKit Go.Conc.Lib Go.ConcR.Gen
open Go.ConcN Go.ConcN.Gen
open Go.ConcR (KK wgBlock WgAt stA smA mk DC0)
abbrev LF:List Nat:=[193,194]
def WU:LF.all (okF LF true (λ_=>false))=true:=by kernel_rfl
def so{l:List Int}{c i:Nat}{v:ce}(h:(fE l c)[i]? =some v):∃n,v=.int .i64 n:=by
 have a:v∈(l.map (Value.int .i64)++List.replicate (c-l.length) (Value.int .i64 0)):=by have:=l7 h;simpa[fE]using this
 rcases gl.1 a with a|a;obtain⟨x,_,rfl⟩:=jj.1 a;exact⟨x,rfl⟩;exact⟨0,List.eq_of_mem_replicate a⟩
def N5{ρ:cR}{cs:Array ce}(h:∀(i:Nat) v,cs[i]? =some v->∃n,v=.int .i64 n):eT ρ cs cs:=
 ⟨rfl,λi v c a b=>by rw[a]at b;cases b;obtain⟨n,rfl⟩:=h i v a;exact .int _ _⟩
def Jp{ρ:cR}{cs a:Array ce}(h:∀(i:Nat) v,cs[i]? =some v->∃n,v=.int .i64 n)(b:eT ρ cs a):a=cs:=by refine Array.ext b.size.symm λi d e=>?_;have c:cs[i]? =some cs[i]:=ji e;have f:a[i]? =some a[i]:=ji d;have:=b.at_ i _ _ c f;obtain⟨n,g⟩:=h i _ c;rw[g]at this⊢;revert this;generalize a[i]=x;intro this;cases this;rfl
def RZ(w:cd)(o:Nat->Prop)(b:Nat):Prop:=o b/\∃l c a,MY a/\w.heap[b]? =some (.cells (fE l c) 3 a)
def xR(w:cd)(A:Nat)(o:Nat->Prop)(b:Nat):Prop:=b=A\/RZ w o b
theorem cU.slice{w:cd}{o:Nat->Prop}{s:Sp}{y:SV}{ρ:cR}(h:cU o w s y)(d:∀b,RZ w o b->ρ.r b b/\ρ.sh b=none):VR ρ (.slice y.sa y.sl y.sc) (.slice y.sa y.sl y.sc):=by
 cases s with
 |none=>
  have:y=⟨none,0,0,0,0,false⟩:=h;subst this;exact .fc _ _
 |some s=>
  obtain⟨l,m,k⟩:=s;obtain⟨_,_,_,_,⟨_,a,_⟩|⟨_,c,a,e,_,_,f,g,i⟩⟩:=h;rw[a];exact .fc _ _;rw[e];obtain⟨j,n⟩:=d c ⟨a,l,y.sc,f,g,i⟩;exact .slice _ _ (.of _ _ j n)
def HW{A n:Nat}{own rd o:Nat->Prop}{w:cd}{cs:Array ce}{ss:List Sp}{ys:List SV}(t:own A)(u:∀b,o b->own b)(H:ys.length=ss.length)(d:w.heap[A]? =some (.cells cs 199))(x:cs.size=n*4)(I:ys.length=n) (y:∀j (h:j<ys.length),cs[4*j]? =some (.slice ys[j].sa ys[j].sl ys[j].sc)/\cs[4*j+1]? =some (.int .i64 ys[j].m)/\cs[4*j+2]? =some (.int .i64 ys[j].k)/\cs[4*j+3]? =some (.bool ys[j].b))
 (z:∀j (h:j<ys.length) (J:j<ss.length),cU o w ss[j] ys[j]):vM (o8 LF (λ_=>false) (xR w A o)) w w own rd:=by
 refine⟨HR.of (λ_=>rfl) λb B g=>?_,λb B g=>?_⟩;obtain⟨rfl,p⟩:=g;rcases p with rfl|⟨f,l,c,K,C,q⟩;refine⟨_,_,d,d,.cells ⟨rfl,λi v L a r=>?_⟩ λ_ h=>h⟩;rw[a]at r;cases r;have M:i<cs.size:=(eP.1 a).1;have s:i/4<ys.length:=by omega
 obtain⟨D,E,F,G⟩:=y (i/4) s;have:i=4*(i/4)\/i=4*(i/4)+1\/i=4*(i/4)+2\/i=4*(i/4)+3:=by omega
 rcases this with e|e|e|e;rw[e,D]at a;cases a;exact(z _ s (by omega)).slice λb f=>⟨⟨rfl,.inr f⟩,rfl⟩;rw[e,E]at a;cases a;exact .int _ _;rw[e,F]at a;cases a;exact .int _ _;rw[e,G]at a;cases a;exact .bool _;exact⟨_,_,q,q,.cells (N5 λi v h=>so h) λ_ h=>h⟩;obtain⟨rfl,p⟩:=g;rcases p with rfl|⟨f,_⟩;exact .inl t;exact .inl (u _ f)
def VR.Qt{ρ e:cR}(n:cR.Le ρ e){y:SV}{o:ce}(q:VR ρ (.slice y.sa y.sl y.sc) (.slice y.sa y.sl y.sc))(h:VR e y.val o):o=y.val:=by
 unfold SV.val at h;cases h with
 | @agg _ d p r=>
  have s:eT e #[.slice y.sa y.sl y.sc,.int .i64 y.m,.int .i64 y.k,.bool y.b] d:=⟨p,r⟩;have t:d.size=4:=p.symm
  have f:∀i (j:i<4),VR e (#[Value.slice y.sa y.sl y.sc,.int .i64 y.m,.int .i64 y.k,.bool y.b][i]'(by simpa using j)) (d[i]'(by omega)):=λi j=>
   s.at_ i _ _ (ji (by simpa using j)) (ji (by omega))
  have u:d[0]'(by omega)=.slice y.sa y.sl y.sc:=by
   have h:=f 0 (by omega);simp only[List.getElem_toArray,mS]at h;have g:=q.mono n;revert h g;generalize d[0]=z;generalize y.sa=a;intro h g;cases a with
   |none=>cases h;rfl
   |some a=>
    cases h with
    | @slice a C l c h=>
     cases g with
     |slice l c v=>
      rw[(v.block h).2.1 rfl]
  have w:d[1]'(by omega)=.int .i64 y.m:=by have h:=f 1 (by omega);simp only[List.getElem_toArray,IC,mS]at h;revert h;generalize d[1]=z;intro h;cases h;rfl
  have x:d[2]'(by omega)=.int .i64 y.k:=by have h:=f 2 (by omega);simp only[List.getElem_toArray,IC,mS]at h;revert h;generalize d[2]=z;intro h;cases h;rfl
  have A:d[3]'(by omega)=.bool y.b:=by have h:=f 3 (by omega);simp only[List.getElem_toArray,IC,mS]at h;revert h;generalize d[3]=z;intro h;cases h;rfl
  have:d=#[.slice y.sa y.sl y.sc,.int .i64 y.m,.int .i64 y.k,.bool y.b]:=by
   refine Array.ext (by simp[t]) λi j B=>?_;have:i=0\/i=1\/i=2\/i=3:=by omega
   rcases this with rfl|rfl|rfl|rfl;exact u;exact w;exact x;exact A
  rw[this];rfl
def HX(w:cd)(A:Nat)(o:Nat->Prop)(y:SV)(x:ce)(w':cd):Prop:=x=y.val/\∀b,xR w A o b->w'.heap[b]? =w.heap[b]?
def N6{Wg A n:Nat}{own rd o:Nat->Prop}{w:cd}{cs:Array ce}{ss:List Sp}{ys:List SV}{pl:Addr}{caller:Frame}{cl:List Frame}(hA:own A)(Z:∀b,o b->own b)(hl:ys.length=ss.length) (t:w.heap[A]? =some (.cells cs 199))(L:cs.size=n*4)(hn:ys.length=n)(z:n<=65536) (hc:∀j (h:j<ys.length),cs[4*j]? =some (.slice ys[j].sa ys[j].sl ys[j].sc)/\cs[4*j+1]? =some (.int .i64 ys[j].m)/\cs[4*j+2]? =some (.int .i64 ys[j].k)/\cs[4*j+3]? =some (.bool ys[j].b)) (ha:∀j (h:j<ys.length) (h':j<ss.length),cU o w ss[j] ys[j]):
 Wy PR 241 Wg true rd (λo' g w'=>g=G (caller.finish (cP ys).val) cl/\(∀b,own b->o' b)/\cU (λb=>o b/\o' b) w' (oC ss) (cP ys)) own
  (G (Frame.enter PR 193 #[.slice (some ⟨A,0,none⟩) n n,.func (.func 194) #[.pointer (some pl)] #[]] .normal) (caller::cl)) w:=by
 have hG:Go.cF.Good V.prog (o8 LF (λ_=>false) (xR w A o)):=Bw WU (by decide);have c:vM (o8 LF (λ_=>false) (xR w A o)) w w own rd:=HW hA Z hl t L hn hc ha;have d:=EO ys ss hl ha;have B:eT (o8 LF (λ_=>false) (xR w A o)) #[.tuple #[]] #[.pointer (some pl)]:=eT.one (.CB rfl pl);have C:eT (o8 LF (λ_=>false) (xR w A o)) #[] #[]:=eT.nil
 have D:eT (o8 LF (λ_=>false) (xR w A o)) #[.slice (some ⟨A,0,none⟩) n n,.func (.func 194) #[.tuple #[]] #[]] #[.slice (some ⟨A,0,none⟩) n n,.func (.func 194) #[.pointer (some pl)] #[]]:=
  eT.L9 (.slice _ _ (.mk _ _ ⟨rfl,.inl rfl⟩)) (.func rfl B.size B.at_ C.size C.at_)
 have hS:(o8 LF (λ_=>false) (xR w A o)).S 193=true:=by show LF.contains 193=true;decide
 have q:Go.cF.Reach V.prog (Go.cF.Left V.prog 193 (HX w A o (cP ys))) ⟨Frame.enter V.prog 193 #[.slice (some ⟨A,0,none⟩) n n,.func (.func 194) #[.tuple #[]] #[]] .normal,[floor],w⟩:=by
  refine qT (λx w' T h=>h) (qY hG (λ_=>rfl) hS D c) λT hT=>?_;have E:A<w.heap.size:=lt_of_heap t;subst hn;refine(J5 (.tuple #[]) A ys (cI w T) z E λj hj=>?_).mono ?_;obtain⟨c0,c1,c2,c3⟩:=hc j hj;have e:∀k v,cs[k]? =some v->(cI w T).cell? ⟨A,k,none⟩=some v:=λk v h=>by show(match w.heap[A]? with|some (.cells cs _ _)=>_|_=>_)=_;rw[t];exact h
  rw[show j*4=4*j by omega];exact⟨e _ _ c0,e _ _ c1,e _ _ c2,e _ _ c3⟩;rintro e w' ⟨rfl,M⟩;refine⟨_,rfl,rfl,λb K=>M.block b ?_⟩;show b<w.heap.size;rcases K with rfl|⟨_,_,_,_,_,hw⟩;exact E;exact lt_of_heap hw
 have a:=IR (U:=λ_=>True) (λ_ _ _ _ _ _=>trivial) (ty:=241) (Wg:=Wg) (main:=true) (caller:=caller) (cs:=cl) (own:=own) (rd:=rd) hG (λ_=>rfl) hS V.func193 (R:=HX w A o (cP ys)) (λx w' T h=>h) D q c;have a:Wy PR 241 Wg true rd (Out (λ_=>True) (HX w A o (cP ys)) rd (o8 LF (λ_=>false) (xR w A o)) caller cl) own (G (Frame.enter PR 193 #[.slice (some ⟨A,0,none⟩) n n,.func (.func 194) #[.pointer (some pl)] #[]] .normal) (caller::cl)) w:=by have e:V.prog.ir (o8 LF (λ_=>false) (xR w A o)).fs=PR:=PZ;rw[e]at a;exact a
 refine(Wy.Ru a).bind λo' g w' h=>nX λw1 hr=>?_;obtain⟨⟨ρ,x,x',v,rfl,⟨hx,f⟩,hv,u,N,_⟩,F⟩:=h;subst hx;have O:VR (o8 LF (λ_=>false) (xR w A o)) (.slice (cP ys).sa (cP ys).sl (cP ys).sc) (.slice (cP ys).sa (cP ys).sl (cP ys).sc):=d.slice λb M=>⟨⟨rfl,.inr M⟩,rfl⟩;obtain rfl:=VR.Qt u O hv;refine⟨rfl,F,?_⟩;have H:=N.rely hr;revert d;generalize cP ys=y at f⊢;generalize oC ss=s;intro d;cases s with
 |none=>exact d
 |some s=>
  obtain⟨l,m,k⟩:=s;obtain⟨q1,q2,q3,q4,P|⟨P,p,Q,q7,q8,W,fz,q9,I⟩⟩:=d;exact⟨q1,q2,q3,q4,.inl P⟩;have K:xR w A o p:=.inr ⟨Q,l,y.sc,fz,q9,I⟩;obtain⟨ob,aa,k1,k2,X⟩:=H.heap.obj p p (u.r _ _ ⟨rfl,K⟩);replace X:=X.obj (by rw[<-u.g];rfl);rw[f p K,I]at k1;cases k1;cases X with
  | @cells _ ab _ _ Y kv kf=>
   have:=Jp (λi v h=>so h) kv;subst this;exact⟨q1,q2,q3,q4,.inr ⟨P,p,⟨Q,F _ (Z _ Q)⟩,q7,q8,W,Y,λJ h=>q9 J (kf J h),k2⟩⟩
end Go.Proofs.W
