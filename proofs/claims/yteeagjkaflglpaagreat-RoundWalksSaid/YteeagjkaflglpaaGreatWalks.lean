/- RoundWalks: true for every input. Conditions: none. -/
import Derived.Conc.CrowdTrace
import Derived.Below
import Derived.Deep.Slices
import Derived.Conc.LeavingOf
import Derived.Carry
import Derived.ChangeSlices
import Derived.WideShapes
import Derived.Test.YteeagjkaflglpaaGreatX05
set_option maxRecDepth 100000
set_option maxHeartbeats 8000000
set_option linter.all false
variable{m k i j o p s d:Nat}{w t e:cn}{x y z:cq}{a:Option Go.Addr}{I J:Int}
namespace Go.Proofs.W
open Go.RowKit
def l8(b:Nat)(w:cn)(v:cq)(a:List Dr):Prop:=cR b 81 [.int .i64 0,.int .i64 0,.int .i64 0] w v a.length (a.flatMap dL)
theorem vz:∀a:List Dr,(a.flatMap dL).length=a.length*3
 |[]=>rfl
 |d::r=>by have:=vz r;simp[dL,this];omega
def l8.row{d:List Dr}(h:l8 m w x d):∃a c,x=.slice a d.length c/\fZ w a d/\d.length<=c:=by obtain⟨p,⟨g,rfl⟩|⟨b,c,q,r,rfl,e,s,j,t,f,u⟩⟩:=h;exact⟨none,0,by rw[g],λk i=>by omega,by omega⟩;refine⟨_,c,rfl,λk i=>?_,j⟩;obtain⟨l,n,o⟩:=ug d k i;have g:=vz d;refine⟨b,0,rfl,cr e ?_,cr e ?_,cr e ?_⟩;rw[cG,f _ (by omega)];exact l;rw[cG,f _ (by omega)];exact n;rw[cG,f _ (by omega)];exact o
def l8.Sh{b:List Dr}(h:l8 m w (.slice a b.length k) b):fZ w a b:=by obtain⟨c,d,e,h,_⟩:=h.row;injection e with e;rw[e];exact h
structure A3(n:Int)(d:Dr):Prop where
 st:0<=d.st/\d.st<=n-1
 at_:0<=d.at_/\d.at_<=20
 talk:1<=d.talk/\d.talk<=9
theorem wq:∀{f:List Dr},(∀d∈f,A3 I d)->lK I f=0
 |[],_=>rfl
 |d::r,h=>by
  have e:=h d iP;have:nC I d=0:=by have a:=e.st;have b:=e.at_;have c:=e.talk;simp[nC,kP,a,b,c]
  simp only[lK,this,dF];exact wq λx g=>h x (iw _ g)
def GE(c:Nat)(v:cq)(a b:cn):Prop:=cW (λx=>x=c\/cH v x) a b/\(iq c a->iq c b)
def DE.ge(h:DE m w t):GE m x w t:=⟨h.1.trans (cW.refl (λ_=>False) _) (λ_ _ h=>.inl h) λ_ _ h=>h.elim,h.2⟩
def Vx(d:Nat)(v:cq):fJ (GE d v):=⟨λw=>((Ext.refl w).de d).ge,λa b c h k=>⟨h.1.trans k.1 (λ_ _ h=>h) λ_ _ h=>h,λx=>k.2 (h.2 x)⟩,λw=>((Ext.drew w).de d).ge⟩
structure XN(n0 gb:Nat)(st co kn mi da tr:Int)(ds:List Dr)(v:cq)(w:cn):Prop where
 g:w.heap[gb]? =some (.cells #[.int .i64 st,.int .i64 co,.int .i64 kn,.int .i64 mi,.int .i64 da,.int .i64 tr,v] 24)
 r:l8 n0 w v ds
 ok:∀d∈ds,A3 st d
def J8(p:Int->Prop)(v:cq):Prop:=∃z:Int,v=.int .i64 z/\p z
def l8.low{a:List Dr}(h:l8 m w x a)(g:k<=m):l8 k w x a:=by obtain⟨d,h|⟨b,c,e,i,f⟩⟩:=h;exact⟨d,.inl h⟩;exact⟨d,.inr ⟨b,c,e,by omega,f⟩⟩
def Cb(h:iq m w)(n:Nat)(hn:n<=5):Calls V.prog 28 #[cM m,.int .i64 n] w (fi λv Z=>DE m w Z/\∃G a c,v=gV G a c/\l8 w.heap.size Z (.slice a G.doors.length c) G.doors/\fZ Z a G.doors/\dK G=0/\G.doors.length<=n):=by
 have aE:=h.lt;refine gd Tryz.func28 Tryz.ntmps28 ?_;refine eD λw1 rb e1 aF hr=>?_;have f:=h.ext e1;have aD:=cP.lt_of_heap hr;have ar:=e1.size;refine cD (lf f 1 3 (by omega) (by omega) (by omega)) ?_;rintro _ w2 ⟨⟨F,rfl,s1,s2⟩,O⟩;refine cD (lf (O.2 f) 1 5 (by omega) (by omega) (by omega)) ?_;rintro _ t ⟨⟨co,rfl,c1,c2⟩,d3⟩;replace d3:=O.trans d3;refine cD (lf (d3.2 f) 1 3 (by omega) (by omega) (by omega)) ?_;rintro _ B ⟨⟨kn,rfl,k1,k2⟩,d4⟩;replace d4:=d3.trans d4;refine cD (lf (d4.2 f) 20 45 (by omega) (by omega) (by omega)) ?_;rintro _ w5 ⟨⟨a1,rfl,a2,a3⟩,d5⟩;replace d5:=d4.trans d5;refine cD (lf (d5.2 f) 30 60 (by omega) (by omega) (by omega)) ?_;rintro _ w6 ⟨⟨b1,rfl,b2,b3⟩,d6⟩;replace d6:=d5.trans d6;refine cD (lf (d6.2 f) 1 90 (by omega) (by omega) (by omega)) ?_;rintro _ w7 ⟨⟨x1,rfl,x2,x3⟩,d7⟩;replace d7:=d6.trans d7;refine eg [i64 a1,i64 b1,i64 x1] 3 λw8 mb e8 aG D=>?_;have d8:=d7.trans (e8.de m);have s7:=d7.1.size;refine cD (Ca (l:=[a1,b1,x1]) (d8.2 f) (lP D) (by simp) (by simp) (λb o e=>by injection e with e;injection e with e;omega)) ?_;rintro _ w9 ⟨⟨S,ad,rfl⟩,d9⟩;replace d9:=d8.trans d9;have ad:1<=S/\S<=90:=by simp only[eO,mu,jW]at ad;omega
 refine eg [i64 1,i64 2,i64 2,i64 3,i64 3] 3 λaH yb au aI hy=>?_;have aa:=d9.trans (au.de m);have s9:=d9.1.size;refine cD (Ca (l:=[1,2,2,3,3]) (aa.2 f) (lP hy) (by simp) (by simp) (λb o e=>by injection e with e;injection e with e;omega)) ?_;rintro _ aJ ⟨⟨P,ae,rfl⟩,J⟩;replace J:=aa.trans J;have ae:1<=P/\P<=3:=by simp only[eO,mu,jW]at ae;omega
 refine dS (.agg #[i64 F,i64 co,i64 kn,i64 S,i64 P,i64 0,.slice none 0 0]) (eD λaK Q av aw hg=>dq hg λaf ax H=>?_);replace H:af.heap[Q]? =some (.cells #[i64 F,i64 co,i64 kn,i64 S,i64 P,i64 0,.slice none 0 0] 24):=H;have aL:=J.1.size;have T:DE m w1 af:=J.trans ((Ext.cC av ax aw).de m);refine cu (cr H rfl) (cD (lf (T.2 f) 1 P (by omega) (by omega) (by omega)) ?_);rintro _ aM ⟨⟨tr,rfl,t1,t2⟩,U⟩;have ag:=U.1.fe H (show¬Q=m by omega);refine dq ag λah ai K=>?_;replace K:ah.heap[Q]? =some (.cells #[i64 F,i64 co,i64 kn,i64 S,i64 P,i64 tr,.slice none 0 0] 24):=K;have aj:DE m w1 ah:=⟨(T.trans U).1.trans ai (λ_ _ h=>h) (λx A e=>by omega),λx=>((T.trans U).2 x).keep ai λb e=>by omega⟩;refine cD (oJ (aj.2 f) n (by omega)) ?_;rintro _ aN ⟨⟨z,rfl,z1,z2⟩,L⟩;have ak:=L.1.fe K (show¬Q=m by omega);replace L:=aj.trans L;have al:=L.1.fe hr (show¬rb=m by omega);clear U T J aa d9 d8 d7 d6 d5 d4 d3 O;refine fW z.toNat (λ_ (s:(List Dr×cq)×Int)=>[(0,cM m),(4,cM rb),(5,cM Q),(6,i64 s.2)]) (λk s Z=>DE m w1 Z/\XN w1.heap.size Q F co kn S P tr s.1.1 s.1.2 Z/\Z.heap[rb]? =some (.cells (pm 24).toArray 24)/\s.1.1.length=k/\s.2=z-k) (([],.slice none 0 0),z) ⟨by trivial,L,⟨ak,cR.nil _ _ _ _,λd M=>by cases M⟩,al,rfl,by simp⟩ ?_;rintro k ⟨⟨R,v⟩,i⟩ w2 hk ⟨O,D,X,am,hi⟩;simp only at D am hi;refine lZ ⟨λan=>?_,λab=>?_⟩;have an:0<i:=by simpa using an
 have W:∀b,cH v b->w1.heap.size<=b/\b<w2.heap.size:=λb E=>cR.blk D.r E;have ay:¬(Q=m\/cH v Q):=by rintro(e|E);omega;obtain⟨cs,q⟩:=cR.c_ D.r E;exact fS q D.g (by decide)
 have hg:∀t,GE m v w2 t->t.heap[Q]? =some (.cells #[i64 F,i64 co,i64 kn,i64 S,i64 P,i64 tr,v] 24):=λt p=>p.1.fe D.g ay;have hD:=O.2 f;have s2:=O.1.size;have fresh:∀{a b:cn} {x:Nat} {o:Obj},a.heap[x]? =some o->GE m v a b->w2.heap.size<=x->b.heap[x]? =some o:=λA e ab=>e.1.fe A (by rintro(e|E);omega;have:=(W _ E).2;omega);refine hH 20 (zv m) (Vx m v) (λa b h=>h.ge) ?_;refine .exact v (λt p=>cu (cr (hg t p) rfl) ⟨rfl,(zv m).refl _⟩) ?_;refine .exact (i64 F) (λt p=>cu (cr (hg t p) rfl) ⟨rfl,(zv m).refl _⟩) ?_;refine .exact (i64 (F-1)) (λt p=>fx ⟨rfl,(zv m).refl _⟩) ?_;refine .rel (λu _=>J8 (λx=>0<=x/\x<=F-1) u) (λ_ _ _ h _=>h) (λt p=>cD (oJ (p.2 hD) _ (by omega)) λu B ⟨⟨x,e,f,I⟩,d⟩=>⟨⟨x,e,by omega⟩,d⟩) ?_;refine .rel (λu _=>J8 (λx=>0<=x/\x<=20) u) (λ_ _ _ h _=>h) (λt p _ _=>cD (oJ (p.2 hD) 9 (by omega)) λu B ⟨⟨x,e,f,I⟩,d⟩=>⟨⟨x,e,by omega⟩,d⟩) ?_;refine .rel (λu _=>J8 (λx=>0<=x/\x<=20) u) (λ_ _ _ h _=>h) (λt p _ _=>cD (oJ (p.2 hD) 9 (by omega)) λu B ⟨⟨x,e,f,I⟩,d⟩=>⟨⟨x,e,by omega⟩,d⟩) ?_;refine .rel (λu _=>J8 (λx=>0<=x/\x<=20) u) (λ_ _ _ h _=>h) (λt p _ _=>cD (oJ (p.2 hD) 20 (by omega)) λu B ⟨⟨x,e,f,I⟩,d⟩=>⟨⟨x,e,by omega⟩,d⟩) ?_;refine .rel (λu B=>∃b x y z:Int,∃C:Nat,u=.slice (some ⟨C,0,none⟩) 3 3/\w2.heap.size<=C/\B.heap[C]? =some (.cells ([x,y,z].map (Value.int .i64)).toArray 3)/\∀j∈[x,y,z],0<=j/\j<=20) (λu a b ⟨_,x,y,z,C,f,I,Y,h4⟩ e=>⟨0,x,y,z,C,f,I,fresh Y e I,h4⟩) (λt p u1 f u2 I u3 Y=>?_) ?_;obtain⟨x,rfl,A⟩:=f;obtain⟨y,rfl,hy⟩:=I;obtain⟨z,rfl,hz⟩:=Y;have:=p.1.size;refine eg [i64 z,i64 y,i64 x] 3 λB C N ao E=>⟨⟨0,z,y,x,C,rfl,by omega,E,?_⟩,N.de m⟩;intro j hj;simp only[eO,mu,jW]at hj;omega;refine .rel (λu _=>J8 (λx=>0<=x/\x<=20) u) (λ_ _ _ h _=>h) (λt p u1 f _ _=>?_) ?_;obtain⟨_,x,y,z,C,rfl,g1,g2,g3⟩:=f;refine cD (Ca (l:=[x,y,z]) (p.2 hD) (lP g2) (by simp) (by simp) (λb o e=>by injection e with e;injection e with e;omega)) λu B ⟨⟨j,hj,e⟩,d⟩=>⟨⟨j,e,g3 j hj⟩,d⟩;refine .rel (λu _=>J8 (λx=>1<=x/\x<=9) u) (λ_ _ _ h _=>h) (λt p _ _=>cD (lf (p.2 hD) 1 6 (by omega) (by omega) (by omega)) λu B ⟨⟨x,e,f,I⟩,d⟩=>⟨⟨x,e,by omega⟩,d⟩) ?_;refine .rel (λu _=>∃d,A3 F d/\u=.agg (dL d).toArray) (λ_ _ _ h _=>h) (λt p u1 f u2 I u3 Y=>?_) ?_;obtain⟨x,rfl,A⟩:=f;obtain⟨y,rfl,hy⟩:=I;obtain⟨z,rfl,hz⟩:=Y;exact dS (.agg (dL ⟨z,y,x⟩).toArray) ⟨⟨⟨z,y,x⟩,⟨hz,hy,A⟩,rfl⟩,(zv m).refl _⟩;refine .rel (λu B=>∃(d:Dr) (C:Nat),A3 F d/\u=.slice (some ⟨C,0,none⟩) 1 1/\w2.heap.size<=C/\B.heap[C]? =some (.cells (dL d).toArray 81)) (λu a b ⟨d,C,f,I,Y,h4⟩ e=>⟨d,C,f,I,Y,fresh h4 e Y⟩) (λt p u1 f=>?_) ?_;obtain⟨d,M,rfl⟩:=f;have:=p.1.size;exact eg (dL d) 81 λB C N ao E=>⟨⟨d,C,M,rfl,by omega,E⟩,N.de m⟩;refine .spec (λu B=>∃d,A3 F d/\l8 w1.heap.size B u (R++[d])) (λu a b ⟨d,M,hu⟩ e=>⟨d,M,cR.keep hu e.1 λx A e=>by have:=(cR.blk hu A).1;have:=f.lt;omega⟩) (λB N u1 f _ _=>?_) ?_;obtain⟨d,C,M,rfl,ao,E⟩:=f;have az:l8 w1.heap.size B v R:=cR.keep D.r N.1 λx A e=>by have:=(cR.blk D.r A).1;have:=h.lt;omega
 have:=N.1.size;refine gq Ph az (by omega) E (by omega) λv' w5 g1 g2 g3=>⟨⟨d,M,by simpa[l8]using g1⟩,g2.trans (cW.refl (λ_=>False) _) (λ_ _ h=>.inr h) (λ_ _ h=>h.elim),λx=>x.keep g2 λb E=>?_⟩;have:=(W b E).1;omega;rintro B N u1 ⟨d,M,hu⟩ _ _ _ _ _ _ _ _ _ _ _ _ _ _ _ _ _ _;obtain⟨a9,c9,rfl,_⟩:=l8.row hu;have q4:=hg B N;refine dq q4 λw5 k5 aA=>fx ⟨by omega,((R++[d],.slice a9 (R++[d]).length c9),i-1),by trivial,⟨(O.1.trans N.1 (λ_ _ h=>h) λx A e=>?_).trans k5 (λ_ _ h=>h) λx A e=>by omega,λx=>(N.2 (O.2 x)).keep k5 λb e=>by omega⟩,⟨aA,cR.keep hu k5 λx A e=>?_,λx A=>?_⟩,?_,by simp;omega,by simp only;omega⟩;rcases e with e|e;exact e;have:=(W x e).1;omega;subst e;obtain⟨cs,q⟩:=cR.c_ hu A;exact fS q q4 (by decide);rcases jH.1 A with A|A;exact D.ok x A;rcases iJ.1 A with rfl;exact M;refine k5.fe (N.1.fe X ?_) (by omega);rintro(e|E);omega;have:=(W _ E).1;omega;have ab:i<=0:=by simpa using ab
 obtain⟨a,c,rfl,aO,hc⟩:=l8.row D.r;obtain⟨G,hG⟩:∃G:Gd,G=⟨F,co,kn,S,P,tr,R⟩:=⟨_,rfl⟩;have ac:R=G.doors:=by rw[hG]
 have hg:w2.heap[Q]? =some (.cells (gL G a c).toArray 24):=by rw[hG];exact D.g
 refine dA hg (dq X λt k3 ap=>?_);have aB:t.heap[rb]? =some (.cells (gL G a c).toArray 24):=ap.trans (cT (λa=>some (Obj.cells a 24)) (dC (pm 24).toArray (gL G a c) rfl));have hl:Sem.run V.prog (loadVar 24 ⟨rb,0,none⟩) t=.ok (gV G a c) t:=kH (gL G a c) aB λj v hj=>by rw[cG];simpa using hj
 clear ap;have aq:∀x,cH (.slice a R.length c) x->¬x=rb:=λx A e=>by have:=(cR.blk D.r A).1;omega
 refine⟨gV G a c,hl,_,rfl,⟨((e1.keep _).trans O.1 (λ_ _ h=>h) λ_ _ h=>h).trans k3 (λ_ _ h=>h) λx A e=>by omega,λx=>(O.2 (x.ext e1)).keep k3 λb e=>by omega⟩,G,a,c,rfl,?_,?_,?_,by rw[<-ac];omega⟩;rw[<-ac];exact l8.low (cR.keep D.r k3 aq) ar;rw[<-ac];exact l8.Sh (cR.keep D.r k3 aq);have aC:∀d∈R,A3 F d:=D.ok;rw[hG];have M:=wq aC;have hh:jV ⟨F,co,kn,S,P,tr,R⟩=true:=by simp only[jV,kP,dW,iQ];omega
 have h5:¬(5:Int)<R.length:=by omega
 simp only[dK,hh,dF,h5,eF];exact M
end Go.Proofs.W
variable{H N:Go.Proofs.W.Gd}
namespace Go.Proofs.W
open Go.RowKit
def tx(W:Nat->Nat->Int)(a:Nat):cz->Nat->Int
 |[],z=>W a z
 |d::r,z=>W a (d+1)+tx W (d+1) r z
def tz(W:Nat->Nat->Int)(l:cz):pH W l=tx W 0 l 0:=by
 have b:∀k,k<=l.kq->wK W l k+tx W (xd l k) (l.drop k) 0=tx W 0 l 0:=by
  intro k;induction k with
  |zero=>intro _;simp[wK,xd]
  |succ k c=>
   intro d;have a:k<l.kq:=d;rw[<-c (by omega),sn a];have:xd l (k+1)=l[k]+1:=by simp[xd,eV a]
   simp only[wK,tx,getD_eq a,this];omega
 rw[<-b l.kq (cJ _),List.drop_length];rfl
theorem Fz{W:Nat->Nat->Int}(b:∀i j,W i j<=W i (d+1)+W (d+1) j)(y:cz):∀(x:cz) (a z:Nat),tx W a (x++y) z<=tx W a (x++d::y) z
 |[],a,z=>by
  cases y with
  |nil=>exact b a z
  |cons e r=>
   have:=b a (e+1);simp only[sr,tx];omega
 |e::r,a,z=>by have:=Fz b y r (e+1) z;simp only[qx,tx];omega
def So(g:0<=I){a b x:Dr}(j:0<=a.at_)(k:0<=b.at_)(l:0<=x.at_):BJ I a b<=BJ I a x+BJ I x b:=by
 have i:∀p q,0<=tk p q:=λp q=>by unfold tk;omega
 have c:tk a.st b.st<=tk a.st x.st+tk x.st b.st:=by unfold tk;omega
 have m:=Int.mul_le_mul_of_nonneg_left c g;rw[Int.mul_add]at m;have n:=Cu g (i a.st x.st);have o:=Cu g (i x.st b.st);unfold BJ;by_cases f:a.st=b.st;by_cases d:a.st=x.st;rw[cB f,cB d,cB (d.symm.trans f)];unfold tk;omega;rw[cB f,cy d,cy (λe=>d (f.trans e.symm))];unfold tk at*;omega;by_cases d:a.st=x.st;rw[cy f,cB d,cy (λe=>f (d.trans e)),<-d];have:a.at_<=tk a.at_ x.at_+x.at_:=by unfold tk;omega
 omega;by_cases h:x.st=b.st;rw[cy f,cy d,cB h,h];have:b.at_<=x.at_+tk x.at_ b.at_:=by unfold tk;omega
 omega;rw[cy f,cy d,cy h];omega
def Sq(h:H.Ok)(m:d<H.doors.length)(i j:Nat):lj H i j<=lj H i (d+1)+lj H (d+1) j:=by
 have e:=(uf h i (d+1)).1;have f:=(uf h (d+1) j).1;have g:∀x∈dV H,0<=x.at_:=λx c=>by rcases eO.1 c with rfl|c;simp;exact(h.door x c).2.1.1
 obtain⟨x,c⟩:∃x,(dV H)[d+1]? =some x:=⟨H.doors[d],by simp[dV,eV m]⟩;unfold lj at e f⊢;rw[c]at e f⊢;cases k:(dV H)[i]? with
 |none=>rw[k]at e;simpa using f
 |some a=>
  cases l:(dV H)[j]? with
  |none=>
   rw[k]at e;rw[l]at f;simpa using e
  |some b=>exact So (by have:=h.corner;omega) (g a (vD k)) (g b (vD l)) (g x (vD c))
theorem Hi:∀(l m:gC),(l++m).sum=l.sum+m.sum
 |[],m=>by simp
 |a::r,m=>by have:=Hi r m;simp only[qx,List.sum_cons];omega
def lA(G:Gd)(l m:cz):n6 G (l++m)=n6 G l+n6 G m:=by unfold n6;rw[vB,Hi]
def P7(h:H.Ok)(d:Nat):0<=n6 H [d]:=by
 have e:n6 H [d]=((H.doors[d]?).map (·.talk)).getD 0:=by simp[n6]
 rw[e];cases a:H.doors[d]? with
 |none=>simp
 |some x=>
  have:=(h.door x (vD a)).2.2;simp only[jJ,jI];omega
def Hk(h:H.Ok)(a:d<H.doors.length)(x y:cz):iG H (x++y)<=iG H (x++d::y):=by
 have b:=Fz (Sq h a) y x 0 0;have c:=h.knock;unfold iG BH;rw[tz,tz];have e:(((x++d::y).length:Nat):Int)=((x++y).length:Nat)+1:=by simp;omega
 rw[e,Int.add_mul];omega
def Kr(h:H.Ok)(a:d<H.doors.length)(x y:cz):iU H (x++y)<=iU H (x++d::y):=by have b:=Hk h a x y;have c:=P7 h d;have e:=lA H x y;have f:=lA H x (d::y);have g:n6 H (d::y)=n6 H [d]+n6 H y:=lA H [d] y;unfold iU;omega
theorem NS:∀{l:gC} (i:Nat),I∉l->Ee I l i= -1
 |[],_,_=>rfl
 |y::r,i,h=>by have a:¬I=y:=λe=>h (by rw[e];exact iP);simp only[Ee,cy a];exact NS (i+1) λb=>h (iw _ b)
def B9(G:Gd)(a b:Int):cq:=if dK G=0 then(if kP a (-1) (G.doors.length-1)=true/\kP b (-1) (G.doors.length-1)=true then .tuple #[.int .i64 (lj G (a+1).toNat (b+1).toNat),.int .i64 0]else .tuple #[.int .i64 0,.int .i64 3])else .tuple #[.int .i64 0,.int .i64 (dK G)]
def Yo{dc:Nat}(o:fZ w a H.doors)(e:H.doors.length<=100000)(c b:Int):
 Calls V.prog 85 #[gV H a dc,.int .i64 c,.int .i64 b] w (fi λv p=>v=B9 H c b/\Ext w p):=by
 refine gd Tryz.func85 Tryz.ntmps85 ?_;refine ej λs t f q l=>dA l (cD (AI (dc:=dc) (o.ext f) e) ?_);rintro v u ⟨i,⟨j,rfl⟩|⟨j,x,mk,y,rfl,m⟩⟩;exact fD (jZ (by simpa using j) ⟨_,rfl,by rw[B9,cy j];rfl,f.trans i⟩);have k:=i.at_ l;have z:=m.g.uh.many;have n:¬(kP c (-1) (H.doors.length-1)=true/\kP b (-1) (H.doors.length-1)=true)->B9 H c b=.tuple #[i64 0,i64 3]:=λh=>by rw[B9,cB j,cy h]
 refine fD (lx (by simp) (cu (cr k rfl) (cS (fx (dg (eY _ _ _ _) (ei ⟨λh=>?_,λh=>?_⟩))))));have h:kP c (-1) (H.doors.length-1)=false:=by simpa using h
 exact jZ (by simp[h]) ⟨_,rfl,by rw[n (by simp[h])];rfl,f.trans i⟩;have h:kP c (-1) (H.doors.length-1)=true:=by simpa using h
 refine cu (cr k rfl) (cS (fx (dg (eY _ _ _ _) (ei ⟨λd=>?_,λd=>?_⟩))));have d:kP b (-1) (H.doors.length-1)=false:=by simpa using d
 exact⟨_,rfl,by rw[n (by simp[d])];rfl,f.trans i⟩;have d:kP b (-1) (H.doors.length-1)=true:=by simpa using d
 have A: -1<=c/\c<=H.doors.length-1:=by simpa[kP]using h
 have r: -1<=b/\b<=H.doors.length-1:=by simpa[kP]using d
 refine cF (cF (wZ (c+1).toNat 6 6 (by omega) (th (b+1).toNat 6 (by omega) (cu (m.g.ways _ _ (by omega) (by omega)) ⟨_,rfl,by rw[B9,cB j,cB ⟨h,d⟩];rfl,f.trans i⟩) (by omega)) (by omega)))
def MK(G:Gd)(l:cz):Int:=if iU G l<=G.minutes then 1 else if G.minutes<iG G l then 2 else 3
end Go.Proofs.W
variable{l f:List Nat}
namespace Go.Proofs.W
open Go.RowKit
theorem Ff{a b:Type}{f g:a->List b}:∀{l:List a},(∀x∈l,f x=g x)->l.flatMap f=l.flatMap g
 |[],_=>rfl
 |x::r,h=>by rw[mV,mV,h x iP,Ff λy c=>h y (iw _ c)]
def hZ:Nat->cz->List cz
 |0,_=>[[]]
 |n+1,l=>(List.range l.length).flatMap λi=>(hZ n (l.eraseIdx i)).map (l.getD i 0::·)
def zA(l:cz):List cz:=hZ l.length l
def getD_map{f:Nat->Nat}(h:i<l.length):(l.map f).getD i 0=f (l.getD i 0):=by rw[jG,jG,so,eV h];rfl
theorem FB(f:Nat->Nat):∀(l:cz) (i:Nat),(l.map f).eraseIdx i=(l.eraseIdx i).map f
 |[],_=>rfl
 |x::r,0=>rfl
 |x::r,i+1=>by simp only[lq,List.eraseIdx_cons_succ,FB f r i]
theorem FC(f:Nat->Nat):∀(n:Nat) (l:cz),hZ n (l.map f)=(hZ n l).map (·.map f)
 |0,l=>rfl
 |n+1,l=>by simp only[hZ,List.map_flatMap,tF];refine Ff λi a=>?_;rw[getD_map (gR.1 a),FB,FC f n,List.map_map,List.map_map];rfl
theorem FD(d:l.length=m)(f:Nat->Nat)(g:∀i,i<m->l.getD i 0=f i):∀(n:Nat) (b:cz) (a:List Bool),rp l n (b.map f) a=(rp (List.range m) n b a).map (·.map f)
 |0,b,a=>rfl
 |n+1,b,a=>by
  simp only[rp,List.map_flatMap,List.length_range,d];refine Ff λi c=>?_;have c:=gR.1 c;split;rfl;have e:(List.range m).getD i 0=i:=by rw[jG,eV (by simpa using c)];simp
  rw[g i c,e,<-FD d f g n,vB];rfl
def Hc:∀m:Nat,m<=5->hZ m (List.range m)=rp (List.range m) m [] (List.replicate m false):=by decide+kernel
def wL(h:l.length<=5):zA l=xj l:=by
 have e:l=(List.range l.kq).map λi=>l.getD i 0:=by refine List.ext_getElem (by simp) λi a b=>?_;simp[jG,eV a]
 have a:=FD (l:=l) rfl (λi=>l.getD i 0) (λ_ _=>rfl) l.kq [] (List.replicate l.kq false);unfold zA xj;rw[vC]at a;rw[a,<-Hc _ h,<-FC,<-e]
theorem Ks:∀{a b:cz},a.Pairwise (·<·)->b.Pairwise (·<·)->(∀x,x∈a↔x∈b)->a=b
 |[],[],_,_,_=>rfl
 |[],y::b,_,_,h=>absurd ((h y).2 iP) (by simp)
 |x::a,[],_,_,h=>absurd ((h x).1 iP) (by simp)
 |x::a,y::b,j,k,h=>by
  have d:=List.pairwise_cons.1 j;have e:=List.pairwise_cons.1 k;have g:x=y:=by rcases eO.1 ((h x).1 iP)with c|c;exact c;rcases eO.1 ((h y).2 iP)with i|i;exact i.symm;have:=d.1 _ i;have:=e.1 _ c;omega
  subst g;rw[Ks d.2 e.2 λz=>?_];constructor;intro f;rcases eO.1 ((h z).1 (iw _ f))with c|c;have:=d.1 _ f;omega;exact c;intro f;rcases eO.1 ((h z).2 (iw _ f))with c|c;have:=e.1 _ f;omega;exact c
def Ss:∀a b c d e:Bool,fl (io (([(0,a),(1,b),(2,c),(3,d),(4,e)].filter (·.2)).map (·.1)))=([(0,a),(1,b),(2,c),(3,d),(4,e)].filter (·.2)).map (·.1):=by decide+kernel
def Fg(h:l.Pairwise (·<·))(b:∀d∈l,d<5):fl (io l)=l:=by
 have e:l=([(0,decide (0∈l)),(1,decide (1∈l)),(2,decide (2∈l)),(3,decide (3∈l)),(4,decide (4∈l))].filter (·.2)).map (·.1):=by
  have c:(List.range 5).filter (λx=>decide (x∈l))=([(0,decide (0∈l)),(1,decide (1∈l)),(2,decide (2∈l)),(3,decide (3∈l)),(4,decide (4∈l))].filter (·.2)).map (·.1):=by show [0,1,2,3,4].filter _=_;simp only[List.filter];cases decide (0∈l)<;>cases decide (1∈l)<;>cases decide (2∈l)<;>cases decide (3∈l)<;>cases decide (4∈l)<;>rfl
  rw[<-c];refine Ks h (List.Pairwise.filter _ List.pairwise_lt_range) λx=>?_;simp only[xq,gR,iQ];exact⟨λa=>⟨b x a,a⟩,λa=>a.2⟩
 rw[e];exact Ss ..
theorem uH:∀{l:cz} {i:Nat} (a:i<l.length),(l[i]::l.eraseIdx i).Perm l
 |x::r,0,_=>List.Perm.refl _
 |x::r,i+1,a=>by
  have b:i<r.kq:=by simpa using a
  exact(List.Perm.swap x r[i] _).trans ((uH b).cons x)
theorem qp:∀(n:Nat) (l:cz),l.length=n->∀r∈hZ n l,r.Perm l
 |0,l,h,r,a=>by obtain rfl:=oL h;rw[show r=[] by simpa[hZ]using a]
 |n+1,l,h,r,a=>by simp only[hZ,sq,gR,mq]at a;obtain⟨i,b,y,c,rfl⟩:=a;have d:=qp n _ (by rw[List.length_eraseIdx_of_lt b];omega) y c;rw[getD_eq b];exact(d.cons _).trans (uH b)
theorem qq:∀(n:Nat) (l:cz),l.length=n->∀r,r.Perm l->r∈hZ n l
 |0,l,h,r,a=>by obtain rfl:=oL h;rw[a.eq_nil];simp[hZ]
 |n+1,l,h,r,a=>by
  have b:=a.length_eq;match r,a,b with
  |[],_,b=>rw[h]at b;cases b
  |x::r,a,_=>
   obtain⟨i,c,rfl⟩:=List.getElem_of_mem (a.mem_iff.1 iP);have d:=List.Perm.cons_inv (a.trans (uH c).symm);simp only[hZ,sq,gR,mq];exact⟨i,c,r,qq n _ (by rw[List.length_eraseIdx_of_lt c];omega) r d,by rw[getD_eq c]⟩
def wo(h:l.length<=5)(r:cz):r∈xj l↔r.Perm l:=by rw[<-wL h];exact⟨qp _ _ rfl r,qq _ _ rfl r⟩
theorem zC{W:Nat->Nat->Int}(b:∀i j,0<=W i j):∀(l:cz) (a z:Nat),0<=tx W a l z
 |[],a,z=>b a z
 |d::r,a,z=>by have:=zC b r (d+1) z;have:=b a (d+1);simp only[tx];omega
def zD(h:H.Ok)(l:cz):0<=GG H l:=by unfold GG;rw[tz];exact zC (λi j=>(uf h i j).1) l 0 0
theorem wu(G:Gd)(g:G.Ok):∀(rows:List cz) (a:cz×Int),0<=a.2->a.2=GG G a.1->((rows.foldl (ju G) a).1=a.1\/(rows.foldl (ju G) a).1∈rows)/\(rows.foldl (ju G) a).2=GG G (rows.foldl (ju G) a).1/\(rows.foldl (ju G) a).2<=a.2/\∀r∈rows,(rows.foldl (ju G) a).2<=GG G r
 |[],a,m,h=>⟨.inl rfl,h,Int.le_refl _,λr c=>by cases c⟩
 |x::rows,a,m,h=>by have n:=zD g x;simp only[qa];obtain⟨d,b⟩:∃d,d=ju G a x:=⟨_,rfl⟩;rw[<-b];unfold ju at b;split at b;rename_i i;subst b;obtain⟨j,k,f,l⟩:=wu G g rows (x,GG G x) n rfl;refine⟨.inr (j.elim (λe=>by rw[e];exact iP) (iw _)),k,?_,λr c=>?_⟩;simp only at f;omega;rcases eO.1 c with rfl|c;exact f;exact l r c;rename_i i;subst b;obtain⟨j,k,f,l⟩:=wu G g rows d m h;refine⟨j.imp id (iw _),k,f,λr c=>?_⟩;rcases eO.1 c with rfl|c;omega;exact l r c
def pi(g:H.Ok)(s:Nat):(dX H s).Perm (fl s)/\∀r,r.Perm (fl s)->GG H (dX H s)<=GG H r:=by
 have f:=AK s;have b:fl s∈xj (fl s):=(wo f _).2 (List.Perm.refl _);obtain⟨rows,a⟩:∃rows,rows=xj (fl s):=⟨_,rfl⟩;have c:(jl H rows).1∈rows/\∀r∈rows,GG H (jl H rows).1<=GG H r:=by
  rw[<-a]at b;match rows,b with
  |x::rows,_=>
   have h:=zD g x;have e:jl H (x::rows)=rows.foldl (ju H) (x,GG H x):=by unfold jl;rw[qa];congr 1
   obtain⟨i,j,k,l⟩:=wu H g rows (x,GG H x) h rfl;rw[e];refine⟨i.elim (λq=>by rw[q];exact iP) (iw _),λr d=>?_⟩;rw[<-j];rcases eO.1 d with rfl|d;exact k;exact l r d
 unfold dX;rw[<-a];refine⟨(wo f _).1 (by rw[<-a];exact c.1),λr d=>c.2 r ?_⟩;rw[a];exact(wo f _).2 d
def Ky(G:Gd)(h:l.Perm f):n6 G l=n6 G f:=by
 induction h with
 |nil=>rfl
 | @cons x e g _ i=>
  have a:=lA G [x] e;have b:=lA G [x] g;simp only[List.singleton_append]at a b;omega
 |swap x y l=>
  have a:=lA G [y] (x::l);have b:=lA G [x] (y::l);have c:=lA G [x] l;have d:=lA G [y] l;simp only[List.singleton_append]at a b c d;omega
 |trans _ _ a b=>exact a.trans b
def KE(h:l.Perm f)(a:GG H l<=GG H f):iU H l<=iU H f:=by have b:=Ky H h;have c:=h.length_eq;unfold GG at a;unfold iU iG BH;rw[b,c];omega
theorem sI(a:H.Ok)(q:Nat->Bool):∀(y x:cz),(∀d∈y,d<H.doors.length)->iU H (x++y.filter q)<=iU H (x++y)
 |[],x,_=>Int.le_refl _
 |d::y,x,h=>by have c:=h d iP;have b:∀d∈y,d<H.doors.kq:=λe f=>h e (iw _ f);rw[List.filter_cons];split;have:=sI a q y (x++[d]) b;simpa using this;exact Int.le_trans (sI a q y x b) (Kr a c x y)
def S4(a:H.Ok)(h:l.Perm (fl s)):iU H (dX H s)<=iU H l:=
 KE ((pi a s).1.trans h.symm) ((pi a s).2 l h)
def IC(h:∀d,d<5->s.testBit d=true->m.testBit d=true):(fl m).filter (s.testBit ·)=fl s:=by unfold fl n8;rw[List.filter_filter];refine List.filter_congr λd a=>?_;have:=h d (gR.1 a);cases b:s.testBit d<;>simp_all
def P8(a:H.Ok)(c:∀d∈fl m,d<H.doors.length)(h:∀d,d<5->s.testBit d=true->m.testBit d=true):iU H (dX H s)<=iU H (dX H m):=by
 have b:=(pi a m).1;have e:((dX H m).filter (s.testBit ·)).Perm (fl s):=by rw[<-IC h];exact b.filter _
 have f:=sI a (s.testBit ·) (dX H m) [] λd g=>c d (b.mem_iff.1 g);exact Int.le_trans (S4 a e) (by simpa using f)
def P9(b:H.Ok)(c:∀d∈fl m,d<H.doors.length)(h:∀d,d<5->s.testBit d=true->m.testBit d=true)(a:nG H m=true):nG H s=true:=by unfold nG at a⊢;have:=dO a;exact decide_eq_true (Int.le_trans (P8 b c h) this)
def jb(a:List cz)(d i:Nat):List cz:=if i<a.length then a.set i (a.getD i []++[d])else a++[[d]]
def lh:cz->List cz->List (List cz)
 |[],a=>[a]
 |d::r,a=>(List.range (a.length+1)).flatMap λi=>lh r (jb a d i)
def zE(G:Gd)(g:cz):Bool:=nG G (io g)
def mK(G:Gd)(D:List cz):Bool:=D.all (zE G)
theorem xm(d:Nat):∀(l:cz) (s:Nat),setFrom s (l++[d])=qi (setFrom s l) d
 |[],s=>rfl
 |x::r,s=>xm d r (qi s x)
def FF(g:cz)(d:Nat):io (g++[d])=qi (io g) d:=xm d g 0
def Yp:∀s:Nat,s<32->∀d:Nat,d<5->∀x:Nat,x<5->s.testBit x=true->(qi s d).testBit x=true:=by decide+kernel
def Sb(a b:cz):Prop:=∀x,x<5->(io a).testBit x=true->(io b).testBit x=true
def NT(h:∀d∈l,d<5):io l<32:=tl l 0 (by omega) h
def Sb.snoc(h:∀x∈l,x<5)(a:d<5):Sb l (l++[d]):=λx b c=>by rw[FF];exact Yp _ (NT h) d a x b c
def pj(a:List cz)(d i:Nat):(jb a d i).length=if i<a.length then a.length else a.length+1:=by unfold jb;split<;>simp
def qs{c:List cz}(h:∀g∈c,∀x∈g,x<m)(e:d<m):∀g∈jb c d i,∀x∈g,x<m:=by unfold jb;split;rename_i f;intro g b x a;rcases tG b with b|rfl;exact h g b x a;rw[getD_eq f]at a;rcases jH.1 a with a|a;exact h _ (ef f) x a;rw[iJ.1 a];exact e;intro g b x a;rcases jH.1 b with b|b;exact h g b x a;rw[iJ.1 b]at a;rw[iJ.1 a];exact e
theorem uB(n:m<=5):∀(l:cz) (a:List cz),(∀d∈l,d<m)->(∀g∈a,∀x∈g,x<m)->∀D∈lh l a,a.length<=D.length/\(∀g∈D,∀x∈g,x<m)/\∀i (b:i<a.length),∃h:i<D.length,Sb a[i] D[i]
 |[],a,_,k,D,c=>by
  obtain rfl:D=a:=by simpa[lh]using c
  exact⟨cJ _,k,λi b=>⟨b,λx _ h=>h⟩⟩
 |d::r,a,s,k,D,c=>by
  simp only[lh,sq,gR]at c;obtain⟨j,C,c⟩:=c;have t:=s d iP;obtain⟨u,v,w⟩:=uB n r (jb a d j) (λx f=>s x (iw _ f)) (qs k t) D c;have y:=pj a d j;have o:a.length<=(jb a d j).length:=by rw[y];split<;>omega
  refine⟨cZ o u,v,λi b=>?_⟩;obtain⟨z,A⟩:=w i (by omega);refine⟨z,λx f p=>A x f ?_⟩;have q:=k _ (ef b);simp only[jb];split;rename_i B;rw[List.getElem_set];split;rename_i e;subst e;rw[getD_eq b];exact Sb.snoc (λx f=>by have:=q x f;omega) (by omega) x f p;exact p;rw[nU b];exact p
def pY{D:List cz}:mK H D=true↔∀g∈D,zE H g=true:=mU
def lQ{a:Type}{p:a->Bool}{l:List a}(h:∀x∈l,p x=false):l.find? p=none:=by rw[List.find?_eq_none];intro x b;rw[h x b];decide
def qo(G:Gd)(most:Nat)(D:List cz):Bool:=decide (D.length<=most)&&mK G D
def G8(b:H.Ok){most:Nat}{a:List cz}(j:∀d∈l,d<H.doors.length)(k:∀g∈a,∀x∈g,x<H.doors.length)(m:i<a.length)(h:zE H a[i]=false):(lh l a).find? (qo H most)=none:=by
 refine lQ λD n=>?_;obtain⟨s,o,p⟩:=uB b.many l a j k D n;obtain⟨c,q⟩:=p i m;cases e:mK H D with
 |false=>unfold qo;rw[e,Bool.and_false]
 |true=>
  have r:=pY.1 e _ (ef c);have f:=P9 b (nP.io b.many (o _ (ef c))).2 q r;unfold zE at h;rw[h]at f;cases f
def Qi{a:List cz}(h:mK H a=true)(e:i<a.length)(c:zE H (a[i]++[d])=true):mK H (a.set i (a[i]++[d]))=true:=pY.2 λg b=>by rcases tG b with b|rfl;exact pY.1 h g b;exact c
theorem qk{a b:Type}{f g:a->Option b}:∀{l:List a},(∀x∈l,f x=g x)->l.findSome? f=l.findSome? g
 |[],_=>rfl
 |x::r,h=>by simp only[List.findSome?_cons,h x iP,qk λy c=>h y (iw _ c)]
theorem zF(o:H.Ok)(most:Nat):∀(l:cz) (a:List cz),(∀d∈l,d<H.doors.length)->(∀g∈a,∀x∈g,x<H.doors.length)->mK H a=true->a.length<=most->fL H most l (a.map io)=((lh l a).find? (qo H most)).map (·.map io)
 |[],a,_,_,f,p=>by simp only[fL,lh,List.find?_cons,qo,decide_eq_true p,f,Bool.true_and,jJ]
 |d::r,a,s,t,f,p=>by
  have u:=s d iP;have m:∀x∈r,x<H.doors.length:=λx y=>s x (iw _ y);have v:=zF o most r
  have z:((List.range a.length).findSome? λi=>if nG H (qi ((a.map io).getD i 0) d)then fL H most r ((a.map io).set i (qi ((a.map io).getD i 0) d))else none)=((List.range a.length).findSome? λi=>(lh r (jb a d i)).find? (qo H most)).map (·.map io):=by
   rw[List.map_findSome?];refine qk λi j=>?_;have j:=gR.1 j;have e:(a.map io).getD i 0=io a[i]:=by rw[jG,so,eV j];rfl
   have n:jb a d i=a.set i (a[i]++[d]):=by rw[jb,cB j,getD_eq j]
   have b:∀g∈a.set i (a[i]++[d]),∀x∈g,x<H.doors.length:=by rw[<-n];exact qs t u
   simp only[Function.comp];rw[e,<-FF,<-List.map_set,n];split;rename_i k;exact v _ m b (Qi f j k) (by rw[xp];exact p);rename_i k;rw[G8 o m b (i:=i) (by rw[xp];exact j) (by rw[List.getElem_set_self];unfold zE;simpa using k)];rfl
  have w:(if(a.map io).length<most/\nG H (io [d])=true then fL H most r (a.map io++[io [d]])else none)=((lh r (jb a d a.length)).find? (qo H most)).map (·.map io):=by
   have n:jb a d a.length=a++[[d]]:=by rw[jb,cy (by omega)]
   have b:∀g∈a++[[d]],∀x∈g,x<H.doors.length:=by rw[<-n];exact qs t u
   rw[n,tF];split;rename_i k;have:=v (a++[[d]]) m b (pY.2 λg c=>by rcases jH.1 c with c|c;exact pY.1 f g c;rw[iJ.1 c];exact k.2) (by simp;omega);rw[<-this];simp;rename_i k;by_cases q:a.length<most
   rw[G8 o m b (i:=a.length) (by simp) (by simp only[vA (cJ _),mZ,oN];unfold zE;cases h:nG H (io [d])with
    |false=>rfl
    |true=>exact absurd ⟨q,h⟩ k)]
   rfl;rw[lQ λD A=>?_];rfl;have:=(uB o.many r _ m b D A).1;simp only[jA,eI,fB]at this;unfold qo;rw[kR (by omega),Bool.false_and]
  simp only[fL,lh];rw[tF]at w⊢;rw[z,w,List.find?_flatMap,oO,List.findSome?_append];cases((List.range a.length).findSome? λi=>(lh r (jb a d i)).find? (qo H most))with
  |some x=>rfl
  |none=>simp
def IE(p:List cz->Bool)(a:Option (List cz))(D:List cz):Option (List cz):=match a with
 |some b=>if b.length<=D.length then some b else if p D then some D else some b
 |none=>if p D then some D else none
def zH(p:List cz->Bool)(a:List (List cz)):Option (List cz):=a.foldl (IE p) none
def KJ(p:List cz->Bool)(a:List (List cz))(D:List cz):zH p (a++[D])=IE p (zH p a) D:=by simp only[zH,xo,qa,List.foldl_nil]
def zt{a:Type}(p:a->Bool)(l:List a)(x:a):(l++[x]).find? p=(l.find? p).or (if p x then some x else none):=by rw[List.find?_append];congr 1;simp only[List.find?_cons,List.find?_nil];cases p x<;>rfl
def Td(p:List cz->Bool)(a:List (List cz)):Option (List cz)->Prop
 |none=>∀D∈a,p D=false
 |some b=>b∈a/\(∀D∈a,p D=true->b.length<=D.length)/\a.find? (λD=>decide (D.length<=b.length)&&p D)=some b
theorem Fh(p:List cz->Bool)(d:List (List cz)):∀k,k<=d.length->Td p (d.take k) (zH p (d.take k))
 |0,_=>λD i=>by simp at i
 |k+1,v=>by
  have e:=Fh p d k (by omega);obtain⟨D,i⟩:∃D,D=d[k]:=⟨_,rfl⟩;rw[jc (by omega),<-i,KJ];obtain⟨l,r⟩:∃l,l=d.take k:=⟨_,rfl⟩;rw[<-r]at e⊢;cases q:zH p l with
  |none=>
   rw[q]at e;have e:∀D∈l,p D=false:=e;cases g:p D with
   |false=>
    simp only[IE,g,ik,eF];intro E a;rcases jH.1 a with a|a;exact e E a;rw[iJ.1 a];exact g
   |true=>
    simp only[IE,g,dF];refine⟨by simp,λE a c=>?_,?_⟩;rcases jH.1 a with a|a;rw[e E a]at c;cases c;rw[iJ.1 a];exact cJ _;rw[zt,lQ λx j=>by rw[e x j,Bool.and_false]];simp[g]
  |some b=>
   rw[q]at e;obtain⟨s,m,t⟩:b∈l/\(∀D∈l,p D=true->b.length<=D.length)/\l.find? (λD=>decide (D.length<=b.length)&&p D)=some b:=e;have f:(b.length<=D.length\/p D=false)->Td p (l++[D]) (some b):=λh=>by refine⟨List.mem_append_left _ s,λE a c=>?_,?_⟩;rcases jH.1 a with a|a;exact m E a c;rw[iJ.1 a]at c⊢;rcases h with h|h;exact h;rw[h]at c;cases c;rw[zt,t];rfl
   simp only[IE];split;rename_i n;exact f (.inl n);rename_i u;cases g:p D with
   |false=>simpa using f (.inr g)
   |true=>
    simp only[dF];refine⟨by simp,λE a c=>?_,?_⟩;rcases jH.1 a with a|a;have:=m E a c;omega;rw[iJ.1 a];exact cJ _;rw[zt,lQ λx j=>?_];simp[g];cases o:p x with
    |false=>rw[Bool.and_false]
    |true=>
     have:=m x j o;rw[kR (by omega),Bool.false_and]
theorem Fj:∀(l:cz) (a:List cz),∀D∈lh l a,D.length<=a.length+l.length
 |[],a,D,b=>by
  obtain rfl:D=a:=by simpa[lh]using b
  exact cJ _
 |d::r,a,D,b=>by simp only[lh,sq,gR]at b;obtain⟨j,e,b⟩:=b;have f:=Fj r _ D b;have c:=pj a d j;rw[eI];split at c<;>omega
def TU:∀s:Nat,s<32->s≠0->0<(fl s).length:=by decide+kernel
def Lb(v:H.Ok)(w:nP H s):gH H s=(zH (mK H) (lh (fl s) [])).map λD=>D.map λg=>dX H (io g):=by
 have z:=v.many;unfold gH;split;rename_i h;subst h;rfl;rename_i h;obtain⟨l,n⟩:∃l,l=fl s:=⟨_,rfl⟩;have o:0<l.length:=by rw[n];exact TU s w.1 h
 have a:∀d∈l,d<H.doors.length:=by rw[n];exact w.2
 rw[<-n];have A:((List.range l.length).findSome? λm=>fL H (m+1) l [])=(List.range l.length).findSome? λm=>((lh l []).find? (qo H (m+1))).map (·.map io):=qk λm _=>zF v (m+1) l [] a (λg p=>by cases p) rfl (fV _);rw[A];have f:∀D∈lh l [],1<=D.length:=by
  match l,o,a with
  |d::r,_,a=>
   intro D c;simp only[lh,sq,gR]at c;obtain⟨j,G,c⟩:=c;have q:=(uB z r (jb [] d j) (λx B=>a x (iw _ B)) (qs (λg p=>by cases p) (a d iP)) D c).1;have t:=pj [] d j;simp at t;omega
 have e:=Fh (mK H) (lh l []) _ (cJ _);rw[mW]at e;cases y:zH (mK H) (lh l [])with
 |none=>
  rw[y]at e;have e:∀D∈lh l [],mK H D=false:=e;have:((List.range l.length).findSome? λm=>((lh l []).find? (qo H (m+1))).map (·.map io))=none:=by rw[List.findSome?_eq_none_iff];intro m _;rw[lQ λD c=>by unfold qo;rw[e D c,Bool.and_false]];rfl
  rw[this];rfl
 |some b=>
  rw[y]at e;obtain⟨q,t,C⟩:b∈lh l []/\(∀D∈lh l [],mK H D=true->b.length<=D.length)/\(lh l []).find? (λD=>decide (D.length<=b.length)&&mK H D)=some b:=e;have u:=Fj l [] b q;have E:=f b q;simp only[fB,cG]at u
  have:((List.range l.length).findSome? λm=>((lh l []).find? (qo H (m+1))).map (·.map io))=some (b.map io):=by
   refine vY (k:=b.length-1) (by omega) (λi I=>?_) ?_;rw[lQ λD c=>?_];rfl;unfold qo;cases F:mK H D with
   |false=>rw[Bool.and_false]
   |true=>
    have:=t D c F;rw[kR (by omega),Bool.false_and]
   rw[show b.length-1+1=b.length by omega,show qo H b.length=λD=>decide (D.length<=b.length)&&mK H D from rfl,C];rfl
  rw[this];simp[Ct]
def Fl(G:Gd)(m:Nat)(D:List cz):Bool:=decide (D.length=m)&&mK G D
def wv(G:Gd)(D:List cz):List cz:=D.map λg=>dX G (io g)
def mc(G:Gd)(m:Nat)(l:cz)(a:List cz):Option (List cz):=((lh l a).find? (Fl G m)).map (wv G)
theorem find_congr{a:Type}{p q:a->Bool}:∀{l:List a},(∀x∈l,p x=q x)->l.find? p=l.find? q
 |[],_=>rfl
 |x::r,h=>by rw[List.find?_cons,List.find?_cons,h x iP,find_congr λy b=>h y (iw _ b)]
theorem N4:∀(l:cz) (a:List cz),∀D∈lh l a,a.length<=D.length
 |[],a,D,b=>by
  obtain rfl:D=a:=by simpa[lh]using b
  exact cJ _
 |d::r,a,D,b=>by simp only[lh,sq,gR]at b;obtain⟨j,e,b⟩:=b;have f:=N4 r _ D b;have c:=pj a d j;split at c<;>omega
def Fo(G:Gd)(m:Nat)(a:List cz):mc G m [] a=if a.length=m/\mK G a=true then some (wv G a)else none:=by unfold mc;simp only[lh,List.find?_cons,List.find?_nil,Fl];by_cases h:a.kq=m;cases b:mK G a<;>simp[h,b];simp[h]
def G9(G:Gd)(m d:Nat)(r:cz)(a:List cz)(h:a.length<=m):mc G m (d::r) a=(List.range (min (a.length+1) m)).findSome? λi=>mc G m r (jb a d i):=by
 have c:a.length=m->mc G m r (jb a d m)=none:=λe=>by unfold mc;rw[lQ λD f=>?_];rfl;have k:=N4 r _ D f;have g:=pj a d m;rw[cy (by omega)]at g;unfold Fl;rw[kR (by omega),Bool.false_and]
 have j:mc G m (d::r) a=(List.range (a.length+1)).findSome? λi=>mc G m r (jb a d i):=by unfold mc;rw[lh,List.find?_flatMap,List.map_findSome?];rfl
 rw[j];by_cases e:a.length<m;rw[Nat.min_eq_left (by omega)];have b:a.length=m:=by omega
 rw[Nat.min_eq_right (by omega),oO,List.findSome?_append,b];cases(List.range m).findSome? λi=>mc G m r (jb a d i)with
 |some x=>rfl
 |none=>simp[c b]
def Q1(h:H.Ok)(j:nP H s):((List.range ((fl s).length+1)).findSome? λm=>mc H m (fl s) [])=gH H s:=by
 rw[Lb h j];obtain⟨l,n⟩:∃l,l=fl s:=⟨_,rfl⟩;rw[<-n];have a:=Fh (mK H) (lh l []) _ (cJ _);rw[mW]at a;cases f:zH (mK H) (lh l [])with
 |none=>
  rw[f]at a;have a:∀D∈lh l [],mK H D=false:=a;rw[Option.map_none,List.findSome?_eq_none_iff];intro m _;unfold mc;rw[lQ λD c=>by unfold Fl;rw[a D c,Bool.and_false]];rfl
 |some b=>
  rw[f]at a;obtain⟨o,g,p⟩:b∈lh l []/\(∀D∈lh l [],mK H D=true->b.length<=D.length)/\(lh l []).find? (λD=>decide (D.length<=b.length)&&mK H D)=some b:=a;have d:=Fj l [] b o;simp only[fB,cG]at d;refine vY (k:=b.length) (by omega) (λi q=>?_) ?_;unfold mc;rw[lQ λD c=>?_];rfl;unfold Fl;cases e:mK H D with
  |false=>rw[Bool.and_false]
  |true=>
   have:=g D c e;rw[kR (by omega),Bool.false_and]
  unfold mc
  have:(lh l []).find? (Fl H b.length)=(lh l []).find? (λD=>decide (D.length<=b.length)&&mK H D):=by
   refine find_congr λD c=>?_;unfold Fl;cases e:mK H D with
   |false=>rw[Bool.and_false,Bool.and_false]
   |true=>
    have:=g D c e;rw[Bool.and_true,Bool.and_true,decide_eq_decide];omega
  rw[this,p];rfl
end Go.Proofs.W
variable{T U:cw}
namespace Go.Proofs.W
open Go.RowKit
def Ll{p:nd}{r:Array Bool}(h:fE k w x l)(g:k<=w.heap.size)(s:m=f.length)(t:fN w a f)(c:l.length+f.length<=1000000) (q:∀e d,fE k d e (l++f)->cW (cH x) w d->p e d):zV V.prog (builtin .append #[27,27] T r #[x,.slice a m i]) w p:=by
 subst s;rcases mY f.kq with v|y;obtain rfl:f=[]:=oL v;obtain⟨D,E,rfl,_,n⟩:=h.row;exact BI sg n (q _ _ (by simpa using h) (cW.refl _ _));rcases t.cells with z|⟨b,o,rfl,n⟩;have:(jy f).kq=0:=by rw[z];rfl
 have F:(jy f).kq=f.kq:=by simp[jy]
 omega;exact GD sg h g (m:=f.kq) (news:=jy f) (by simp[jy]) y (λj u A=>by rw[iB];exact n j u A) (Ek f) c λe d B C _=>q e d (by simpa[fE,jy]using B) C
end Go.Proofs.W
variable{A B C:Nat->Prop}
namespace Go.Proofs.W
open Go.RowKit
def zw{x:nd}{F:Array Bool}(c:dr)(p:w.heap[k]? =some (.cells c.toArray 3))(G:c.length<=1000)(q:m<=k)(H:i=l.length)(r:fN w a l)(y:l.length<=100000) (A:∀B s,cR m 3 [.int .i64 0] s B (c.length+l.length) (c++jy l)->Ext w s->x B s):zV V.prog (builtin .append #[27,27] T F #[.slice (some ⟨k,0,none⟩) c.length c.length,.slice a i j]) w x:=by
 subst H;rcases mY l.length with I|O;obtain rfl:l=[]:=oL I;exact BI sg (cJ _) (A _ _ ⟨by simp[jy],.inr ⟨k,c.length,_,q,rfl,p,by simp,cJ _,by omega,λh _=>by simp[jy],λh e g=>by simp[jy]at e g;omega⟩⟩ (Ext.refl _));rcases r.cells with J|⟨b,o,rfl,K⟩;have:(jy l).length=0:=by rw[J];rfl
 have C:(jy l).length=l.length:=by simp[jy]
 omega;obtain⟨L,D,z,C,M,E,n,N,Q⟩:=sg;have f:z.cells.size=1:=by rw[E];rfl
 have n:D.size=1:=n;have d:(jy l).length=l.length:=by simp[jy]
 have r:=run_append_grow (P:=V.prog) w 27 T 3 D z L C M (cY k 0) c.length c.length c (by rw[n,oi]) (λh u e=>by rw[iB,cG];exact cr p (by simpa using e)) (cY b o) l.length j (jy l) (by rw[n,d,oi]) (λh u e=>by rw[iB];exact K h u e) (by omega) (by omega) (growslice_fits (by omega) (cZ (Nat.mul_le_mul (show c.length+l.length<=1000000 by omega) N) (by decide)));have t:=grownCap_ge w (c.length+l.length) c.length 3;have v:=grownCap_le_maxLen w (c.length+l.length) c.length 3 (by simp only[maxLen];omega);simp only[maxLen]at v;refine⟨_,_,(by unfold builtin;simp only[Sem.run_bind,r,Result.andThen_ok,Sem.run_pure];rfl),A _ _ ⟨by simp[d],.inr ⟨w.heap.size,grownCap w (c.length+l.length) c.length 3,_,by have:=cP.lt_of_heap p;omega,rfl,fp w.drew _,?_,t,by omega,λh e=>?_,λh e g=>?_⟩⟩ ((Ext.drew w).trans (Ext.alloc _ _))⟩;simp only[Ac,gK,size_zeroCells,f,d,jA,eI,fB];omega;rw[wz (by simpa using e)];simp;simp only[jA,d]at e;rw[zO (by simp[d];omega)];simp only[Ac,gK,size_zeroCells,f,d,jA]at g⊢;rw[sE _ _ _ (by omega) (by rw[f];omega),f,E];simp[Nat.mod_one]
def NA{f:nd}{h:Array Bool}{n0 c:Nat}(i:w.heap[c]? =some (.cells [x].toArray 3))(p:x.oneCell'=true)(d:n0<=c)(j:m=l.length)(n:fN w a l)(b:l.length<=100000) (o:∀g e,cR n0 3 [.int .i64 0] e g (1+l.length) (x::jy l)->Ext w e->f g e):zV V.prog (builtin .append #[27,27] T h #[.slice (some ⟨c,0,none⟩) 1 1,.slice a m k]) w f:=zw [x] i (by simp) d j n b o
def Fi{r:nd}{u:Array Bool}{b:List cz}(h:gU m w x b)(j:m<=w.heap.size)(n:fE m w y l)(v:w.heap[k]? =some (.cells [y].toArray 27))(c:b.length+1<=1000000) (z:∀d e,gU m e d (b++[l])->cW (cH x) w e->(∀k,cH d k->cH x k\/w.heap.size<=k)->r d e):zV V.prog (builtin .append #[66,66] T u #[x,.slice (some ⟨k,0,none⟩) 1 i]) w r:=by
 obtain⟨A,o,s,B⟩:=h;have f:y.oneCell'=true:=by obtain⟨a,i,rfl,_⟩:=n.row;rfl
 refine gq Pi o j v c (λd e C p D=>z d e ⟨A++[y],by simpa using C,by simp[s],λq E=>?_⟩ p D) rfl (by simp[ri,f]);rcases fj q b.length with g|F;obtain⟨G,H,t⟩:=B q g;refine⟨G,by rw[nT (by omega)];exact H,?_⟩;rw[nU g];exact t.keep p (kN t o (by decide));obtain rfl:q=b.length:=by simp at E;omega
 refine⟨y,by rw[oM (by omega)];simp[s],?_⟩;simp only[vA (cJ _),mZ,oN];exact n.keep p (kN n o (by decide))
theorem gU.blk{a:List cz}(h:gU m w x a)(b:cH x k):m<=k/\k<w.heap.size:=by obtain⟨d,c,_⟩:=h;exact c.blk b
def gU.Yy{e:List cz}(h:gU m w x e)(k:cW A w t)(f:∀b,m<=b->b<w.heap.size->¬A b):gU m t x e:=by obtain⟨g,c,j,l⟩:=h;refine⟨g,cR.keep c k λb a=>f b (c.blk a).1 (c.blk a).2,j,λi n=>?_⟩;obtain⟨u,o,d⟩:=l i n;exact⟨u,o,cR.keep d k λb a=>f b (cR.blk d a).1 (cR.blk d a).2⟩
def gU.YV{s:Option Nat}{a:List cz}(h:gU m w (.slice (some ⟨k,o,s⟩) i j) a):m<=k/\k<w.heap.size:=by obtain⟨d,⟨f,⟨g,e⟩|⟨l,n,p,b,e,c,q⟩⟩,r⟩:=h;cases e;cases e;exact⟨b,cP.lt_of_heap c⟩
theorem zy:∀(n:Nat) (l:cz),l.length=n->∀x∈hZ n l,x.length=n
 |0,l,_,x,a=>by obtain rfl:x=[]:=by simpa[hZ]using a
                rfl
 |n+1,l,h,x,a=>by simp only[hZ,sq,gR,mq]at a;obtain⟨i,b,y,c,rfl⟩:=a;have:=zy n _ (by rw[List.length_eraseIdx_of_lt b];omega) y c;rw[eI,this]
theorem uC:∀(n:Nat) (l:cz),l.length<=5->(hZ n l).length<=5^n
 |0,l,_=>by simp[hZ]
 |n+1,l,h=>by
  have a:∀(r:cz),(r.flatMap λi=>(hZ n (l.eraseIdx i)).map (l.getD i 0::·)).length<=r.length*5^n:=λr=>by
   induction r with
   |nil=>simp
   |cons x r b=>
    have c:=uC n (l.eraseIdx x) (by have:=List.length_eraseIdx_le l x;omega);rw[mV,jA,tF,eI,Nat.add_mul,Nat.one_mul];omega
  have:=a (List.range l.length);rw[List.length_range]at this;have d:=qy (5^n) h;simp only[hZ];rw[Nat.pow_succ];omega
def sL(n:Nat)(l:cz)(i:Nat):List cz:=(List.range i).flatMap λi=>(hZ n (l.eraseIdx i)).map (l.getD i 0::·)
def Ft(n:Nat)(l:cz)(i:Nat):sL n l (i+1)=sL n l i++(hZ n (l.eraseIdx i)).map (l.getD i 0::·):=by simp only[sL,oO,List.flatMap_append,mV,List.flatMap_nil,List.append_nil]
theorem Ha(n:Nat)(l:cz)(h:l.length<=5):∀i,(sL n l i).length<=i*5^n
 |0=>by simp[sL]
 |i+1=>by have a:=uC n (l.eraseIdx i) (by have:=List.length_eraseIdx_le l i;omega);have:=Ha n l h i;rw[Ft,jA,tF,Nat.add_mul,Nat.one_mul];omega
def Q4:∀(n:Nat) (l:cz),l.length=n->0<(hZ n l).length:=λn l h=>by have:=qq n l h l (List.Perm.refl l);exact List.length_pos_of_mem this
def uE(G:Gd)(a:List cz)(i b:Nat):Prop:=∃h:b<a.length,jl G (a.take i)=(a[b],GG G a[b])
def uE.init{a:List cz}(h:0<a.length):uE H a 1 0:=by refine⟨h,?_⟩;rw[jc h];rfl
def uE.step{G:Gd}{a:List cz}{i b:Nat}(h:uE G a i b)(f:i<a.length)(j:∀r∈a,0<=GG G r):uE G a (i+1) (if GG G a[i]<GG G (a.getD b [])then i else b):=by
 obtain⟨d,h⟩:=h;have e:a.getD b []=a[b]:=by rw[jG,eV d];rfl
 have k:=j _ (ef d);have g:jl G (a.take (i+1))=ju G (a[b],GG G a[b]) a[i]:=by rw[<-h,jc f,jl,xo];rfl
 rw[e];split;rename_i c;refine⟨f,?_⟩;rw[g,ju,cB (.inr c)];rename_i c;refine⟨d,?_⟩;rw[g,ju,cy (by rintro(h|h)<;>simp only at h<;>omega)]
def uE.fin{b:Nat}(h:uE H (zA l) (zA l).length b)(a:l.Pairwise (·<·))(c:∀d∈l,d<5)(e:l.length<=5):(zA l).getD b []=dX H (io l):=by obtain⟨f,h⟩:=h;rw[mW]at h;rw[jG,eV f];show(zA l)[b]=_;unfold dX;rw[Fg a c,<-wL e,h]
def IF(h:∀d∈l,d<m):∀r∈zA l,∀d∈r,d<m:=λr a d b=>h d ((qp _ l rfl r a).mem_iff.1 b)
end Go.Proofs.W
variable{P:cA}
namespace Go.Proofs.W
open Go.RowKit
def dM.ij{x y:Code}{l:L}{Q:QW}(h:dM P m x l w (L9 (λc d=>dM P m y c d Q) Q)):dM P m (.seq x y) l w Q:=⟨λa g=>by
 refine jX (kz (h.out a g) ?_);rintro e i d ⟨c,b,f⟩;cases e with
 |normal=>exact f.out i b
 |_=>exact⟨c,b,f⟩⟩
def Q6{Q:QW}{e:Exit}{a:Act}(h:∃g,Fr k g a/\jg m Q e g w):Exit.inBlock m (lift k Q) e a w:=by
 obtain⟨f,b,d⟩:=h;cases e with
 |exit j=>
  simp only[Exit.inBlock];by_cases c:j=m;subst c;rw[cB rfl];simp only[jg,vG]at d;exact⟨f,b,d⟩;rw[cy c];have:Nat.beq j m=false:=by
   cases i:Nat.beq j m with
   |false=>rfl
   |true=>exact absurd (gM i) c
  simp only[jg,this]at d;exact⟨f,b,d⟩
 |_=>exact⟨f,b,d⟩
theorem dM.block{c:Code}{l:L}{Q:QW}(h:dM P m c l w (jg k Q)):dM P m (.block k c) l w Q:=⟨λa b=>by refine wp_block (kz (h.out a b) ?_);intro e f g d;exact Q6 d⟩
def rX{i:Type}(n:Nat){d:Code}{l:L}{Q:QW}(b:Nat->i->L)(J:Nat->i->cU)(o:i)(r:Sub (b 0 o) l/\J 0 o w)
 (f:∀c s w,c<=n->J c s w->dM V.prog m d (b c s) w (λe t u=>match e with
  | .normal=>c<n/\∃h,Sub (b (c+1) h) t/\J (c+1) h u
  |e=>jg k Q e t u)):dM V.prog m (Code.block k (Code.loop d)) l w Q:=by
 refine⟨λa p=>?_⟩;refine wp_block<|mF (λj a w=>∃c s,c<=n/\j=n-c/\Fr m (b c s) a/\J c s w) n ⟨0,o,fV _,by omega,p.sub r.1,r.2⟩ ?_;rintro j a w ⟨c,s,x,rfl,p,y⟩;refine kz ((f c s w x y).out a p) ?_;rintro e C D ⟨v,g,q⟩;cases e with
 |normal=>
  obtain⟨z,h,A,B⟩:=q;exact⟨n-(c+1),by omega,c+1,h,by omega,rfl,g.sub A,B⟩
 |exit j=>
  simp only[Exit.then];exact Q6 (e:=.exit j) ⟨v,g,q⟩
 |_=>exact⟨v,g,q⟩
theorem uD{T:yg}{Q:Exit->Act->cU}{r0:Option Nat}{ds:List Deferred}(F:mv P T)(z:cz){K:L->cU}{q:L->List PanicEntry->cU}{e:Array Oper}(G:∀l a w,pk ds m l a->K l w->wpOpsIn (wd r0) 0 P e Q z a w)(H:∀l c a w,pk ds m l a->q l c w->Q (.panic c) a w):∀(r:List Oper) (i:Nat) (f:cz) (l:L) (a:Act) (w:cn),(∀j,j<r.length->r[j]? =e[i+j]?)->pk ds m l a->pC P T m K q e.toList r f l w->wpOpsIn (wd r0) 0 P e Q (List.range' i r.length++z) a w
 |[],i,f,l,a,w,_,k,h=>by rw[fB,List.range'_zero,sr];exact G l a w k h
 |o::r,i,f,l,a,w,N,k,h=>by
  have O:e[i]? =some o:=(N 0 (by simp)).symm;have A:∀j,j<r.length->r[j]? =e[i+1+j]? :=λj S=>by have:=N (j+1) (by simpa using S);simpa[vF,Nat.add_comm 1 j]using this
  obtain⟨h,J⟩:=wX h
  have t:∀f l,pk ds m l a->Region.wanted o (yielded e a.tmps)=true->tY P T f l w o (λv y=>pC P T m K q e.toList r f (ins m o.dst v l) y) (λy=>pC P T m K q e.toList r f (ins m o.dst undef l) y) (q l)->
   wpOpsIn (wd r0) 0 P e Q (List.range' i (o::r).length++z) a w:=by
   intro f l k s h;rw[eI,Hu,qx];simp only[wpOpsIn,O,s,dF];refine(yj F k.b h (λv y B=>?_) (λy B=>?_) λc y B=>H l c a y k B);exact uD F z G H r (i+1) f _ _ y A (k.put o.dst v J) B;exact uD F z G H r (i+1) f _ _ y A (k.put o.dst undef J) B
  have skip:∀f l,pk ds m l a->Region.wanted o (yielded e a.tmps)=false->pC P T m K q e.toList r f (ins m o.dst undef l) w->wpOpsIn (wd r0) 0 P e Q (List.range' i (o::r).length++z) a w:=by intro f l k s h;rw[eI,Hu,qx];simp only[wpOpsIn,O,s,ik,eF];refine⟨λ_ _=>trivial,?_⟩;exact uD F z G H r (i+1) f _ _ w A (k.put o.dst undef J) h
  split at h;rename_i I;exact t f l k (by simp[Region.wanted,I]) h;rename_i g p I;split at h;exact h.elim;rename_i d C;rw[mN]at C;have D:(e[g]?).bind (·.dst)=some d:=by simpa using C
  split at h;rename_i b E;have n:a.eval (.tmp d)=.bool b:=k.b.at_ d _ E;have M:yielded e a.tmps g=some b:=by
   rw[kg]at n;unfold yielded;rw[D];simp only[sN];cases R:a.tmps[d]? with
   |none=>rw[R]at n;simp[undef]at n
   |some x=>rw[R]at n;simp at n;subst n;rfl
  have s:Region.wanted o (yielded e a.tmps)=(b==p):=by simp[Region.wanted,I,M]
  split at h;cases b<;>cases p<;>simp only at h;exact t f l k (by rw[s];rfl) h;exact skip f l k (by rw[s];rfl) h;exact skip f l k (by rw[s];rfl) h;exact t f l k (by rw[s];rfl) h;cases b with
  |true=>
   have h:=h.1 rfl;have u:=k.u6 E;cases p with
   |true=>simp only at h;exact t (d::f) ((d,.bool true)::l) u (by rw[s];rfl) h
   |false=>exact skip (d::f) ((d,.bool true)::l) u (by rw[s];rfl) h
  |false=>
   have h:=h.2 rfl;have u:=k.u6 E;cases p with
   |true=>exact skip (d::f) ((d,.bool false)::l) u (by rw[s];rfl) h
   |false=>simp only at h;exact t (d::f) ((d,.bool false)::l) u (by rw[s];rfl) h
  rename_i U E;have n:a.eval (.tmp d)=.tuple U:=k.b.at_ d _ E;have M:yielded e a.tmps g=none:=qV D n;exact skip f l k (by simp[Region.wanted,I,M]) h;exact h.elim
structure rF(P:cA)(N:Nat)(ops:Array Oper)(i:Nat)(l:L)(w:cn)(Q:QW):Prop where
 out:∀a,Fr N l a->wpOpsIn (wd none) 0 P ops (lift N Q) (List.range' i (ops.size-i)) a w
def rF.start{b:Array Oper}{l:L}{Q:QW}(h:rF P m b 0 l w Q):dM P m (.region k b false) l w Q:=⟨λa c=>by refine wpIn_wide.1 (wpIn_region (n:=0) ?_);have:=h.out a c;rw[Nat.sub_zero,<-List.range_eq_range']at this;exact this⟩
def rF.cut{T:yg}(n:Nat)(g:mv P T){b:Array Oper}{l:L}{Q:QW}(h:pC P T m (λl w=>rF P m b (i+n) l w Q) (λl c w=>Q (.panic c) l w) b.toList ((b.toList.drop i).take n) [] l w)(f:Nat.ble (i+n) b.size=true:=by rfl):rF P m b i l w Q:=⟨λa d=>by
 have f:=qb f;have k:((b.toList.drop i).take n).length=n:=by rw[KT,List.length_drop,Array.length_toList];omega
 have:=uD (r0:=none) (ds:=[]) g (List.range' (i+n) (b.size-(i+n))) (Q:=lift m Q) (λl a w d e=>e.out a d.fr) (λl c a w d e=>⟨l,d.fr,e⟩) ((b.toList.drop i).take n) i [] l a w (λj o=>by rw[List.getElem?_take_of_lt (by omega),List.getElem?_drop,Array.getElem?_toList]) d.Wm h;rw[k,List.range'_append_1,show n+(b.size-(i+n))=b.size-i by omega]at this;exact this⟩
def rF.fin{b:Array Oper}{l:L}{Q:QW}(h:Q .normal l w)(c:Nat.ble b.size i=true:=by rfl):rF P m b i l w Q:=⟨λa d=>by have c:=qb c;rw[show b.size-i=0 by omega];exact⟨l,d,h⟩⟩
def rF.jN{b:Array Oper}{l l0:L}{Q:QW}(c:Sub l0 l)(h:rF P m b i l0 w Q):rF P m b i l w Q:=⟨λa d=>h.out a (d.sub c)⟩
def Vw(a:cz):dw->Bool
 | .const _=>true
 | .tmp t=>mem t a
 |_=>false
def SG(l:L)(a:cz)(o:Oper):Option Nat:=match o.op with
 | .move x=>(match Vw a x with
  |true=>o.dst
  |false=>none)
 | .pick (.tmp c) x y=>(match mem c a with
  |true=>(match lk l c with
   |some (.bool true)=>(match Vw a x with
    |true=>o.dst
    |false=>none)
   |some (.bool false)=>(match Vw a y with
    |true=>o.dst
    |false=>none)
   |_=>none)
  |false=>none)
 |_=>none
variable{N:Nat}
def mn(P:cA)(T:yg)(N:Nat)(K:L->cU)(a:L->List PanicEntry->cU)(c:List Oper):List Oper->cz->L->cU
 |[],_,l,w=>K l w
 |o::r,f,l,w=>SB N o.dst (match o.guard with
  |none=>tY P T f l w o (λv h=>match SG l f o with
         |some e=>mn P T N K a c r (e::f) (ins N o.dst v l) h
         |none=>mn P T N K a c r f (ins N o.dst v l) h) (λh=>mn P T N K a c r f (ins N o.dst undef l) h) (a l)
  |some (g,i)=>match yh c g with
   |none=>False
   |some d=>match lk l d with
    |some (.bool b)=>(match mem d f with
     |true=>(match b,i with
      |true,true=>tY P T f l w o (λv h=>match SG l f o with
       |some e=>mn P T N K a c r (e::f) (ins N o.dst v l) h
       |none=>mn P T N K a c r f (ins N o.dst v l) h) (λh=>mn P T N K a c r f (ins N o.dst undef l) h) (a l)
      |false,false=>tY P T f l w o (λv h=>match SG l f o with
       |some e=>mn P T N K a c r (e::f) (ins N o.dst v l) h
       |none=>mn P T N K a c r f (ins N o.dst v l) h) (λh=>mn P T N K a c r f (ins N o.dst undef l) h) (a l)
      |_,_=>mn P T N K a c r f (ins N o.dst undef l) w)
     |false=>(b=true->match i with
      |true=>tY P T (d::f) ((d,.bool true)::l) w o (λv h=>match SG ((d,.bool true)::l) (d::f) o with
       |some e=>mn P T N K a c r (e::d::f) (ins N o.dst v ((d,.bool true)::l)) h
       |none=>mn P T N K a c r (d::f) (ins N o.dst v ((d,.bool true)::l)) h) (λh=>mn P T N K a c r (d::f) (ins N o.dst undef ((d,.bool true)::l)) h) (a ((d,.bool true)::l))
      |false=>mn P T N K a c r (d::f) (ins N o.dst undef ((d,.bool true)::l)) w)/\
      (b=false->match i with
       |false=>tY P T (d::f) ((d,.bool false)::l) w o (λv h=>match SG ((d,.bool false)::l) (d::f) o with
        |some e=>mn P T N K a c r (e::d::f) (ins N o.dst v ((d,.bool false)::l)) h
        |none=>mn P T N K a c r (d::f) (ins N o.dst v ((d,.bool false)::l)) h) (λh=>mn P T N K a c r (d::f) (ins N o.dst undef ((d,.bool false)::l)) h) (a ((d,.bool false)::l))
       |true=>mn P T N K a c r (d::f) (ins N o.dst undef ((d,.bool false)::l)) w))
    |some (.tuple _)=>mn P T N K a c r f (ins N o.dst undef l) w
    |_=>False)
theorem rY{T:yg}{N:Nat}{Q:Exit->Act->cU}{r0:Option Nat}{ds:List Deferred}(F:mv P T)(z:cz){K:L->cU}{p:L->List PanicEntry->cU}{f:Array Oper}(G:∀l a w,pk ds N l a->K l w->wpOpsIn (wd r0) 0 P f Q z a w)(H:∀l c a w,pk ds N l a->p l c w->Q (.panic c) a w):∀(r:List Oper) (i:Nat) (k:cz) (l:L) (a:Act) (w:cn),(∀j,j<r.length->r[j]? =f[i+j]?)->pk ds N l a->mn P T N K p f.toList r k l w->wpOpsIn (wd r0) 0 P f Q (List.range' i r.length++z) a w
 |[],i,k,l,a,w,_,m,h=>by rw[fB,List.range'_zero,sr];exact G l a w m h
 |o::r,i,k,l,a,w,O,m,h=>by
  have R:f[i]? =some o:=(O 0 (by simp)).symm;have A:∀j,j<r.length->r[j]? =f[i+1+j]? :=λj U=>by have:=O (j+1) (by simpa using U);simpa[vF,Nat.add_comm 1 j]using this
  obtain⟨h,J⟩:=wX h
  have t:∀k l,pk ds N l a->Region.wanted o (yielded f a.tmps)=true->tY P T k l w o (λv y=>match SG l k o with
   |some e=>mn P T N K p f.toList r (e::k) (ins N o.dst v l) y
   |none=>mn P T N K p f.toList r k (ins N o.dst v l) y) (λy=>mn P T N K p f.toList r k (ins N o.dst undef l) y) (p l)->
   wpOpsIn (wd r0) 0 P f Q (List.range' i (o::r).length++z) a w:=by
   intro k l m s h;rw[eI,Hu,qx];simp only[wpOpsIn,R,s,dF];refine(yj F m.b h (λv y B=>?_) (λy B=>?_) λc y B=>H l c a y m B);split at B<;>exact rY F z G H r (i+1) _ _ _ y A (m.put o.dst v J) B;exact rY F z G H r (i+1) k _ _ y A (m.put o.dst undef J) B
  have skip:∀k l,pk ds N l a->Region.wanted o (yielded f a.tmps)=false->mn P T N K p f.toList r k (ins N o.dst undef l) w->wpOpsIn (wd r0) 0 P f Q (List.range' i (o::r).length++z) a w:=by intro k l m s h;rw[eI,Hu,qx];simp only[wpOpsIn,R,s,ik,eF];refine⟨λ_ _=>trivial,?_⟩;exact rY F z G H r (i+1) k _ _ w A (m.put o.dst undef J) h
  split at h;rename_i I;exact t k l m (by simp[Region.wanted,I]) h;rename_i g q I;split at h;exact h.elim;rename_i d C;rw[mN]at C;have D:(f[g]?).bind (·.dst)=some d:=by simpa using C
  split at h;rename_i b E;have n:a.eval (.tmp d)=.bool b:=m.b.at_ d _ E;have M:yielded f a.tmps g=some b:=by
   rw[kg]at n;unfold yielded;rw[D];simp only[sN];cases S:a.tmps[d]? with
   |none=>rw[S]at n;simp[undef]at n
   |some x=>rw[S]at n;simp at n;subst n;rfl
  have s:Region.wanted o (yielded f a.tmps)=(b==q):=by simp[Region.wanted,I,M]
  split at h;cases b<;>cases q<;>simp only at h;exact t k l m (by rw[s];rfl) h;exact skip k l m (by rw[s];rfl) h;exact skip k l m (by rw[s];rfl) h;exact t k l m (by rw[s];rfl) h;cases b with
  |true=>
   have h:=h.1 rfl;have u:=m.u6 E;cases q with
   |true=>simp only at h;exact t (d::k) ((d,.bool true)::l) u (by rw[s];rfl) h
   |false=>exact skip (d::k) ((d,.bool true)::l) u (by rw[s];rfl) h
  |false=>
   have h:=h.2 rfl;have u:=m.u6 E;cases q with
   |true=>exact skip (d::k) ((d,.bool false)::l) u (by rw[s];rfl) h
   |false=>simp only at h;exact t (d::k) ((d,.bool false)::l) u (by rw[s];rfl) h
  rename_i V E;have n:a.eval (.tmp d)=.tuple V:=m.b.at_ d _ E;have M:yielded f a.tmps g=none:=qV D n;exact skip k l m (by simp[Region.wanted,I,M]) h;exact h.elim
def rF.Nv{T:yg}{N:Nat}(n:Nat)(g:mv P T){b:Array Oper}{i:Nat}{l:L}{Q:QW}(h:mn P T N (λl w=>rF P N b (i+n) l w Q) (λl c w=>Q (.panic c) l w) b.toList ((b.toList.drop i).take n) [] l w)(f:Nat.ble (i+n) b.size=true:=by rfl):rF P N b i l w Q:=⟨λa d=>by
 have f:=qb f;have k:((b.toList.drop i).take n).length=n:=by rw[KT,List.length_drop,Array.length_toList];omega
 have:=rY (r0:=none) (ds:=[]) g (List.range' (i+n) (b.size-(i+n))) (Q:=lift N Q) (λl a w d e=>e.out a d.fr) (λl c a w d e=>⟨l,d.fr,e⟩) ((b.toList.drop i).take n) i [] l a w (λj m=>by rw[List.getElem?_take_of_lt (by omega),List.getElem?_drop,Array.getElem?_toList]) d.Wm h;rw[k,List.range'_append_1,show n+(b.size-(i+n))=b.size-i by omega]at this;exact this⟩
theorem zK:∀(n:Nat) (l:List Nat) (a:Option Addr) (c:Nat) (w:cn),l.length=n->n<=5->fN w a l->l.length<=c->Calls V.prog 182 #[.slice a l.length c] w (fi λv G=>Ext w G/\gU w.heap.size G v (hZ n l))
 |0,l,a,c,w,hl,_,Z,hc=>by
  refine gd Tryz.func182 Tryz.ntmps182 ?_;refine cS (ff (jZ (by simp[hl]) (eg [.slice none 0 0] 27 λd f e1 C g=>⟨_,rfl,e1,[.slice none 0 0],⟨rfl,.inr ⟨f,1,_,C,rfl,g,rfl,cJ _,by decide,λj _=>by simp,λj hj aa=>by simp at hj aa;omega⟩⟩,rfl,λk W=>?_⟩)));obtain rfl:k=0:=by simpa[hZ]using W
  exact⟨_,rfl,cR.nil _ _ _ _⟩
 |n+1,l,a,c,w,hl,h5,Z,hc=>by
  refine gd Tryz.func182 Tryz.ntmps182 ?_;refine cS (ff (lx (kR (by omega)) ?_));have H:5^n<=625:=cZ (Nat.pow_le_pow_right (by omega) (show n<=4 by omega)) (by decide);refine fW l.length (λi (v:cq)=>[(0,.slice a l.length c),(3,v),(4,i64 i)]) (λi v G=>Ext w G/\gU w.heap.size G v (sL n l i)) (.slice none 0 0) ⟨by trivial,Ext.refl _,[],cR.nil _ _ _ _,rfl,λk W=>by simp[sL]at W⟩ ?_;rintro i v o hi ⟨e2,hv⟩;refine cS (du ⟨λO=>?_,λab=>?_⟩)
  ·have t:i<l.length:=by simpa using O
   have hm:l.eraseIdx i=l.take i++l.drop (i+1):=List.eraseIdx_eq_take_drop_succ ..;have P:(l.eraseIdx i).length=n:=by rw[List.length_eraseIdx_of_lt t];omega
   have Q:=Z.ext e2;refine hH 9 cV (iF λx=>o.heap.size<=x) (λa b h=>h.keep _) ?_;have ext:∀{d:cn},cW (λx=>o.heap.size<=x) o d->Ext o d:=λe=>e.ext λb g=>by omega
   refine .early rfl (λu d=>∃f,u=.slice (some ⟨f,0,none⟩) 0 0/\o.heap.size<=f/\d.heap[f]? =some (.cells #[] 3)) (λu a b h e=>by obtain⟨f,q,p,I⟩:=h;exact⟨f,q,p,e.at_ I⟩) (λd e=>eg [] 3 λM f J C g=>⟨⟨f,rfl,by have:=e.size;omega,g⟩,J⟩) ?_;refine .exact (.slice a i c) (λd e=>pF i (by omega) ⟨rfl,Ext.refl _⟩) ?_;refine .early rfl (λu d=>fE o.heap.size d u (l.take i)) (λu a b h e=>cR.ext h e) (λd e x r=>?_) ?_;obtain⟨f,rfl,q,p⟩:=r;exact zw [] p (by simp) q (by simp;omega) ((Q.ext e).cut i) (by simp;omega) λv5 M m K=>⟨by have m:=m;simp only[fB,cG,sr]at m;exact m,K⟩;refine .exact (i64 ((i:Int)+1)) (λd e=>cF ⟨rfl,Ext.refl _⟩) ?_;refine .exact (.slice (zb a (i+1) c) (l.length-(i+1)) (c-(i+1))) (λd e=>Nl (i+1) (by omega) hc ⟨rfl,Ext.refl _⟩) ?_;refine .spec (λu d=>fE o.heap.size d u (l.eraseIdx i)) (λu a b h e=>cR.ext h e) (λd e u B=>?_) ?_;have hd:=(Q.ext e).drop (i+1) hc;exact Ll B e.size (by simp) hd (by simp;omega) λs N m K=>⟨by rw[hm];exact m,K.trans (cW.refl (λ_=>False) _) (λx _ r=>(cR.blk B r).1) λ_ _ h=>h.elim⟩;refine .late rfl (λu d=>gU o.heap.size d u (hZ n (l.eraseIdx i))) (λu a b h e=>h.ext e) (λd e u B=>?_) ?_;obtain⟨a9,c9,rfl,ac,ad⟩:=fE.row B;exact cD (zK n (l.eraseIdx i) a9 c9 d P (by omega) ac ad) λu N ⟨X,ae⟩=>⟨ae.low e.size,X⟩;refine .late rfl (λu d=>gU o.heap.size d u (hZ n (l.eraseIdx i))) (λu a b h e=>h.ext e) (λd e u B _ _ _ _ _ _=>⟨B,Ext.refl _⟩) ?_;intro N X u B;repeat intro _
   obtain⟨a5,c5,rfl,an,ao⟩:=B.row;have af:∀b,cH v b->b<o.heap.size:=λb g=>(hv.blk g).2;have ag:gU w.heap.size N v (sL n l i):=hv.Yy X λb _ g ap=>by omega
   have ah:l.getD i 0=l[i]:=by rw[jG,eV t];rfl
   refine fW (hZ n (l.eraseIdx i)).length (λk (s:cq)=>[(0,.slice a l.length c),(3,s),(4,i64 i),(5,.slice a5 (hZ n (l.eraseIdx i)).length c5),(6,i64 k)]) (λk s G=>cW (λx=>w.heap.size<=x/\(x<o.heap.size\/N.heap.size<=x)) N G/\gU w.heap.size G s (sL n l i++((hZ n (l.eraseIdx i)).take k).map (l.getD i 0::·))/\∀b,cH s b->b<o.heap.size\/N.heap.size<=b) v ⟨by trivial,cW.refl _ _,by simpa using ag,λb g=>.inl (af b g)⟩ ?_;rintro k s D W ⟨Y,z,L⟩;have ai:gU o.heap.size D (.slice a5 (hZ n (l.eraseIdx i)).length c5) (hZ n (l.eraseIdx i)):=B.Yy Y λb q p I=>by omega
   have E:Ext w D:=((((e2.trans (X.ext λb g=>by omega)).keep λ_=>False).trans Y (λ_ _ h=>h.elim) λx _ h=>h.1:cW (λx=>w.heap.size<=x) w D)).ext λb g=>by omega
   refine cS (du ⟨λR=>?_,λS=>?_⟩);have A:k<(hZ n (l.eraseIdx i)).length:=by simpa using R
   have aq:(hZ n (l.eraseIdx i))[k].length=n:=zy n _ P _ (ef A);have ar:(sL n l i).length<=3125:=cZ (Ha n l (by omega) i) (Nat.mul_le_mul (show i<=5 by omega) H);have am:(hZ n (l.eraseIdx i)).length<=625:=cZ (uC n _ (by omega)) H;obtain⟨a6,c6,e6,hL,_⟩:=ai.row;injection e6 with e6;subst e6;obtain⟨b1,o1,rfl,F⟩:=Z i t;obtain⟨b5,o5,a7,c7,rfl,T,aj,au⟩:=hL k A;have ak:¬cH s b1:=λh=>by have:=(z.blk h).1;have:=rq F;omega
   have al:¬cH s b5:=λh=>by have q:=L _ h;have p:=B.YV;omega
   have F:=E.cell F;refine hH 12 cV (iF (cH s)) (λa b h=>h.keep _) ?_;refine .exact (.pointer (some ⟨b1,o1+i,none⟩)) (λd e=>fw i t ⟨rfl,Ext.refl _⟩) ?_;refine .exact (i64 (l.getD i 0:Nat)) (λd e=>by rw[ah];exact cu (e.eP F ak) ⟨rfl,Ext.refl _⟩) ?_;refine .early rfl (λx d=>∃f,x=.slice (some ⟨f,0,none⟩) 1 1/\D.heap.size<=f/\d.heap[f]? =some (.cells [i64 (l.getD i 0:Nat)].toArray 3)) (λu a b h e=>by obtain⟨f,q,p,I⟩:=h;exact⟨f,q,p,e.at_ I⟩) (λd e=>eg [i64 (l.getD i 0:Nat)] 3 λM f J C g=>⟨⟨f,rfl,by have:=e.size;omega,g⟩,J⟩) ?_;refine .exact (.pointer (some ⟨b5,o5+k,none⟩)) (λd e=>fw k A ⟨rfl,Ext.refl _⟩) ?_;refine .exact (.slice a7 ((hZ n (l.eraseIdx i))[k]).length c7) (λd e=>cu (e.eP T al) ⟨rfl,Ext.refl _⟩) ?_;refine .early rfl (λx d=>fE D.heap.size d x (l.getD i 0::(hZ n (l.eraseIdx i))[k])) (λu a b h e=>cR.ext h e) (λd e x r=>?_) ?_;obtain⟨f,rfl,q,p⟩:=r;exact NA p rfl q rfl (aj.ext e) (by omega) λv5 M m K=>⟨by have m:=m;rw[Nat.add_comm]at m;exact m,K⟩;refine .early rfl (λx d=>∃f y,x=.slice (some ⟨f,0,none⟩) 1 1/\D.heap.size<=f/\d.heap[f]? =some (.cells [y].toArray 27)/\fE D.heap.size d y (l.getD i 0::(hZ n (l.eraseIdx i))[k])) (λu a b h e=>by obtain⟨f,y,q,p,I,h4⟩:=h;exact⟨f,y,q,p,e.at_ I,cR.ext h4 e⟩) (λd e y hy=>?_) ?_;obtain⟨a8,c8,rfl,_,_⟩:=fE.row hy;exact eg [.slice a8 _ c8] 27 λM f J C g=>⟨⟨f,_,rfl,by have:=e.size;omega,g,cR.ext hy J⟩,J⟩;refine .spec (λx d=>gU w.heap.size d x (sL n l i++((hZ n (l.eraseIdx i)).take (k+1)).map (l.getD i 0::·))/\∀b,cH x b->cH s b\/D.heap.size<=b) (λu a b h e=>⟨h.1.ext e,h.2⟩) (λd e x r _ _=>?_) ?_;obtain⟨f,y,rfl,q,p,I⟩:=r;have hs:=(E.trans e).size;refine Fi (z.ext e) hs (fE.low I E.size) p (by simp;omega) λv5 M m K g3=>⟨⟨?_,λb g=>(g3 b g).imp id λh=>by have:=e.size;omega⟩,K⟩;rw[List.append_assoc]at m;rw[jc A,vB];exact m;refine .late rfl (λx d=>gU w.heap.size d x (sL n l i++((hZ n (l.eraseIdx i)).take (k+1)).map (l.getD i 0::·))/\∀b,cH x b->cH s b\/D.heap.size<=b) (λu a b h e=>⟨h.1.ext e,h.2⟩) (λd e x r _ _ _ _ _ _=>⟨r,Ext.refl _⟩) ?_;intro M J x r _ _ _ _ _ _ _ _;exact cF ⟨A,x,by trivial,Y.trans J (λ_ _ h=>h) λy hy U=>⟨(z.blk U).1,L y U⟩,r.1,λb g=>(r.2 b g).elim (L b) λh=>.inr (cZ Y.size h)⟩;obtain rfl:k=(hZ n (l.eraseIdx i)).length:=by simp at S;omega
   rw[mW,<-Ft]at z;exact cF ⟨t,s,by trivial,E,z⟩
  obtain rfl:i=l.length:=by simp at ab;omega
  exact⟨v,rfl,e2,hv⟩
end Go.Proofs.W
namespace Go.Proofs.W
open Go.Conc
def Q7(a:Array Oper):Bool:=(List.range a.size).all λi=>match a[i]? with
 |some o=>o.guard.isNone&&(o.after.all λe=>decide (e.on<i)||!Region.binds .any e)
 |none=>true
def Fp(i:Nat)(D:Nat->Bool):Nat->Bool:=λj=>Nat.beq j i||D j
def Aa{b:Array Oper}{Q:Exit->Act->cU}{M:Act}(hm:P.follows .mixedOrders=true)(hB:Q7 b=true)(I:(Nat->Bool)->Act->cU)(N:I (λ_=>false) M w.drew)
 (hs:∀i o,b[i]? =some o->∀D a g,I D a g->D i=false->(∀j,waits b i j=true->D j=true)->o.wp P a g (λY Z=>I (Fp i D) Y Z) Q)(h1:∀D a g,I D a g->(∀i,i<b.size->D i=true)->Q .normal a g):(Code.region m b true).wp P Q M w:=by
 refine wp_region_any hm ?_;have B:∀(i:Nat) (o:Oper),b[i]? =some o->o.guard=none/\∀e∈o.after,Region.binds .any e=true->e.on<i:=λi o n=>by have k:i<b.size:=(eU.1 n).1;have t:=mU.1 hB i (gR.2 k);rw[n]at t;simp only[dW]at t;refine⟨by simpa using t.1,λe C hb=>?_⟩;have:=uM.1 t.2 e C;simpa[hb]using this
 have q:∀L:Array Bool,L.size=b.size->Region.ready .any b L=[]->∀i,i<b.size->L.getD i false=true:=by
  intro L H O i;induction i using Nat.strongRecOn with
  |_ i R=>
   intro k;refine Hq λS=>?_;have n:b[i]? =some b[i]:=iY k;have c:i∈Region.ready .any b L:=by
    unfold Region.ready;refine xq.2 ⟨gR.2 k,?_⟩;simp only[dW,tE];refine⟨?_,?_⟩;have:L.getD i false=false:=by simpa using S
    have r:i<L.size:=by omega
    simp[r]at this⊢;exact this;rw[n];simp only[jJ,jI];refine uM.2 λe C=>?_;cases T:Region.binds .any e with
    |false=>simp
    |true=>
     have E:=(B i _ n).2 e C T;rw[R e.on E (by omega)];simp
   rw[O]at c;cases c
 have U:∀(d:Nat) (L:Array Bool) (a:Act) (g:cn),L.size=b.size->I (λj=>L.getD j false) a g->((List.range b.size).countP λi=>!L.getD i false)<=d->wpAny P .any b Q d L a g:=by
  intro d;induction d with
  |zero=>
   intro L a g H J hc
   have v:∀i,i<b.size->L.getD i false=true:=λi k=>by
    have N:(List.range b.size).countP (λi=>!L.getD i false)=0:=by omega
    have:=List.countP_eq_zero.1 N i (gR.2 k);simpa using this
   refine⟨?_,h1 _ a g J v⟩;unfold Region.ready;refine KQ.2 λi k=>?_;have h:=v i (gR.1 k);have r:i<L.size:=by have:=gR.1 k;omega
   simp[r]at h⊢;intro V;rw[h]at V;cases V
  |succ d R=>
   intro L a g H J hc;refine⟨λO=>h1 _ a g J (q L H O),λi k=>?_⟩;unfold Region.ready at k;obtain⟨u,s⟩:=xq.1 k;have u:=gR.1 u;simp only[dW,tE]at s;have n:b[i]? =some b[i]:=iY u;rw[n]at s;simp only[jJ,jI]at s;have f:L.getD i false=false:=by
    have h:=s.1;have r:i<L.size:=by omega
    simp[r]at h⊢;exact h
   have y:∀j,waits b i j=true->L.getD j false=true:=λj z=>by unfold waits at z;rw[n]at z;obtain⟨e,C,z⟩:=qv.1 z;simp only[dW,ol]at z;have h:=uM.1 s.2 e C;rw[z.2]at h;rw[<-z.1];simpa using h
   have F:∀j,(L.setIfInBounds i true).getD j false=Fp i (λj=>L.getD j false) j:=λj=>by
    rw[gZ _ _ _ (by omega)];unfold Fp;by_cases e:i=j;subst e;simp;rw[cy e];have:Nat.beq j i=false:=by
     cases h:Nat.beq j i with
     |false=>rfl
     |true=>exact absurd (gM h).symm e
    rw[this,Bool.false_or]
   have G:(List.range b.size).countP (λj=>!(L.setIfInBounds i true).getD j false)<=d:=by
    have E:(List.range b.size).countP (λj=>!(L.setIfInBounds i true).getD j false)<(List.range b.size).countP (λj=>!L.getD j false):=by
     have c:=gR.2 u;generalize List.range b.size=l at c;have A:∀l:cz,l.countP (λj=>!(L.setIfInBounds i true).getD j false)<=l.countP (λj=>!L.getD j false):=λl=>List.countP_mono_left λx _ K=>by rw[gZ _ _ _ (by omega)]at K;split at K;cases K;exact K
     induction l with
     |nil=>cases c
     |cons x l W=>
      rcases eO.1 c with rfl|X;rw[List.countP_cons_of_neg (by rw[gZ _ _ _ (by omega)];simp),List.countP_cons_of_pos (by rw[f];rfl)];exact Nat.lt_succ_of_le (A l);have V:=W X;rw[List.countP_cons,List.countP_cons];have h3:(if(!(L.setIfInBounds i true).getD x false)=true then 1 else 0)<=(if(!L.getD x false)=true then 1 else 0):=by rw[gZ _ _ _ (by omega)];split;simp;exact cJ _
      omega
    omega
   have hw:=hs i b[i] n _ a g J f y;unfold wpOp;rw[n];simp only;rw[cB (by unfold Region.wanted;rw[(B i _ n).1])];refine .inl (Oper.wp_mono (λY Z h=>?_) hw);refine R _ _ _ (by simp[H]) ?_ G;rw[show(λj=>(L.setIfInBounds i true).getD j false)=Fp i (λj=>L.getD j false)from funext F];exact h
 refine U b.size _ M _ (by simp) ?_ (by have:=List.countP_le_length (p:=λi=>!(Array.replicate b.size false).getD i false) (l:=List.range b.size);simpa using this);have:(λj=>(Array.replicate b.size false).getD j false)=λ_=>false:=funext λj=>by simp[wx,sj];split<;>rfl
 rw[this];exact N
def Kj(D:Nat->Bool):List Edge->Prop
 |[]=>True
 |e::r=>match Region.binds .any e with
  |true=>D e.on=true/\Kj D r
  |false=>Kj D r
theorem Cd{D:Nat->Bool}:∀{l:List Edge},(∀e∈l,Region.binds .any e=true->D e.on=true)->Kj D l
 |[],_=>trivial
 |e::r,h=>by unfold Kj;split;rename_i b;exact⟨h e (by simp) b,Cd λx a=>h x (by simp[a])⟩;exact Cd λx a=>h x (by simp[a])
def He(N:Nat)(J:(Nat->Bool)->L->cU):Nat->List Oper->Prop
 |_,[]=>True
 |i,o::r=>SB N o.dst ((∀D l w,J D l w->D i=false->Kj D o.after.toList->∃b,Sub b l/\Cm V.prog Co [] b w o (λv a=>J (Fp i D) (ins N o.dst v l) a) (λa=>J (Fp i D) (ins N o.dst undef l) a) λ_ _=>False)/\He N J (i+1) r)
theorem A6{J:(Nat->Bool)->L->cU}:∀{a:List Oper} {n i:Nat} {o:Oper},He m J n a->a[i]? =some o->(∀t,o.dst=some t->t<m)/\∀D l w,J D l w->D (n+i)=false->Kj D o.after.toList->∃c,Sub c l/\Cm V.prog Co [] c w o (λv b=>J (Fp (n+i) D) (ins m o.dst v l) b) (λb=>J (Fp (n+i) D) (ins m o.dst undef l) b) λ_ _=>False
 |[],n,i,o,_,h=>by simp at h
 |x::r,n,i,o,d,h=>by
  obtain⟨⟨e,f⟩,g⟩:=wX d;cases i with
  |zero=>
   simp at h;subst h;exact⟨g,e⟩
  |succ i=>
   have:=A6 f (by simpa using h);rwa[show n+1+i=n+(i+1) by omega]at this
def Sk{c:Array Oper}{l:L}{Q:QW}(J:(Nat->Bool)->L->cU)(s:J (λ_=>false) l w.drew)(t:He m J 0 c.toList)(u:∀D l w,J D l w->(∀i,i<c.size->D i=true)->Q .normal l w)(x:Q7 c=true:=by kernel_rfl):dM V.prog m (.region k c true) l w Q:=
 ⟨λa d=>by refine Aa (by kernel_rfl) x (λD a w=>∃l,Fr m l a/\J D l w) ⟨l,d,s⟩ ?_ λD a w ⟨l,d,j⟩ f=>⟨l,d,u D l w j f⟩;rintro i o q D a w ⟨l,d,j⟩ y z;obtain⟨r,g⟩:=A6 (i:=i) t (by simpa using q);rw[cG]at g;obtain⟨E,n,p⟩:=g D l w j y (Cd λe A B=>z e.on (by unfold waits;rw[q];exact qv.2 ⟨e,by simpa using A,by simp[B]⟩));exact iv dj (d.sub n).b p (λv C h=>⟨_,d.put _ _ r,h⟩) (λC h=>⟨_,d.put _ _ r,h⟩) λ_ _ h=>h.elim⟩
end Go.Proofs.W
namespace Go.Proofs.W
open Go.RowKit
def gJ(n a b:Int)(w:cn):Calls V.prog 110 #[.int .i64 n,.int .i64 a,.int .i64 b] w (fi λv c=>v=.bool (kP n a b)/\c=w):=by refine gd Tryz.func110 Tryz.ntmps110 ?_;refine ue ⟨λh=>ue ⟨_,rfl,?_,rfl⟩,λh=>⟨_,rfl,?_,rfl⟩⟩<;>simp[kP,h]
def Hb(l:List Int)(x:Int)(g:Option Addr)(i:Nat)(w:cn)(m:gF w g l)(j:l.length<=100000):Calls V.prog 138 #[.slice g l.length i,.int .i64 x] w (fi λv f=>v=.int .i64 (Ee x l 0)/\f=w):=by
 refine gd Tryz.func138 Tryz.ntmps138 ?_;refine fW l.length (λk (_:Unit)=>[(0,.slice g l.length i),(1,i64 x),(5,i64 k)]) (λk _ f=>f=w/\Ee x l 0=Ee x (l.drop k) k) () ⟨by trivial,rfl,rfl⟩ ?_;rintro k _ f p ⟨rfl,c⟩;refine cS (du ⟨λa=>?_,λd=>?_⟩);have a:k<l.length:=by simpa using a
 obtain⟨b,o,rfl,n⟩:=m k a;rw[Jj x l k a]at c;refine fw k a (cu n (ff ⟨λh=>?_,λh=>?_⟩));have h:x=l[k]:=(dO h).symm;exact⟨_,rfl,by rw[c,cB h];rfl,rfl⟩;have h:¬x=l[k]:=λe=>ee h e.symm;rw[cy h]at c;exact cF ⟨a,(),by trivial,rfl,c⟩;have d:¬k<l.length:=by simpa using d
 rw[List.drop_eq_nil_of_le (by omega)]at c;exact⟨_,rfl,by rw[c];rfl,rfl⟩
variable{G:Gd}{da:Option Addr}{dc:Nat}{w:cn}
def G7(I:fZ w da G.doors)(E:G.doors.length<=100000):Calls V.prog 88 #[gV G da dc] w (fi λv q=>v=.int .i64 (dK G)/\Ext w q):=by
 refine Fc Tryz.func88 Tryz.ntmps88 (dM.seq dj ?_);refine ej λt F d J c=>?_;have a:∀{b:Bool},jV G=false->∃v,Ending.returned (one [Value.int .i64 1])=.returned v/\v=Value.int .i64 (dK G)/\Ext w t:=λh=>⟨_,rfl,by simp[dK,h],d⟩;refine dM.ij (dM.ij (rF.start (rF.Nv 36 dj ?_)));refine cu (cr c rfl) (dg (gJ _ _ _ _) (ei ⟨λh=>rF.fin (dM.of dj (jZ rfl (a (b:=true) (by simp at h;simp[jV,h])))),λf=>?_⟩));refine cu (cr c rfl) (dg (gJ _ _ _ _) (ei ⟨λh=>rF.fin (dM.of dj (jZ rfl (a (b:=true) (by simp at h;simp[jV,h])))),λr=>?_⟩));refine cu (cr c rfl) (dg (gJ _ _ _ _) (ei ⟨λh=>rF.fin (dM.of dj (jZ rfl (a (b:=true) (by simp at h;simp[jV,h])))),λs=>?_⟩));refine cu (cr c rfl) (dg (gJ _ _ _ _) (ei ⟨λh=>rF.fin (dM.of dj (jZ rfl (a (b:=true) (by simp at h;simp[jV,h])))),λK=>?_⟩));refine cu (cr c rfl) (dg (gJ _ _ _ _) (ei ⟨λh=>rF.fin (dM.of dj (jZ rfl (a (b:=true) (by simp at h;simp[jV,h])))),λL=>?_⟩));refine cu (cr c rfl) (cu (cr c rfl) (dg (gJ _ _ _ _) (ei (rF.fin (dM.of dj ⟨λh=>(a (b:=true) (by simp at h;simp[jV,h])),λM=>?_⟩)))));have S: -1000000<=G.streets/\G.streets<=1000000:=by simp[kP]at f;omega
 have H:jV G=true:=by simp at f r s K L M;simp[jV, *]
 refine dM.jN (l0:=[(1,dI F)]) (by trivial) (dM.of dj ?_);refine(cu (cr c rfl) (cS (lZ ⟨λh=>⟨_,rfl,by simp at h;simp[dK,H,h],d⟩,λu=>?_⟩)));have u:¬(5:Int)<G.doors.length:=by simpa using u
 have x:dK G=lK G.streets G.doors:=by simp[dK,H,u]
 refine fW G.doors.length (λk (_:Unit)=>[(1,dI F),(3,i64 k)]) (λk _ q=>Ext t q/\dK G=lK G.streets (G.doors.drop k)) () ⟨by trivial,Ext.refl _,by rw[x];rfl⟩ ?_;rintro k _ q m ⟨e,g⟩;refine cu (cr (e.at_ c) rfl) (cS (du ⟨λy=>?_,λn=>?_⟩));have m:k<G.doors.length:=by simpa using y
 obtain⟨b,o,z,N,A,O⟩:=(I.ext (d.trans e)) k m;rw[vV _ _ k m]at g;refine cu (cr (e.at_ c) rfl) ?_;subst z;refine eN k 3 m (dJ (vs:=dL G.doors[k]) (λj v i=>?_) (eD λT U P B C=>dq C λQ R l=>?_));match j,i with
 |0,i=>cases i;exact N
 |1,i=>cases i;exact A
 |2,i=>cases i;exact O
 have p:Ext t Q:=(e.trans P).cC R (cZ e.size B);have D:=p.at_ c;refine cu (cr l rfl) (cu (cr D rfl) (fx (dg (gJ _ _ _ _) (ei ⟨λh=>?_,λf=>?_⟩))));exact⟨_,rfl,by simp at h;rw[g];simp[nC,h],d.trans p⟩;simp at f;refine cu (cr l rfl) (dg (gJ _ _ _ _) (ei ⟨λh=>?_,λr=>?_⟩));exact jZ rfl ⟨_,rfl,by simp at h;rw[g];simp[nC,f,h],d.trans p⟩;simp at r;refine cu (cr l rfl) (dg (gJ _ _ _ _) (ei ⟨λh=>?_,λs=>?_⟩));exact⟨_,rfl,by simp at h;rw[g];simp[nC,f,h],d.trans p⟩;simp at s;exact cF ⟨m,(),by trivial,p,by rw[g];simp[nC,f,r,s]⟩;have n:¬k<G.doors.length:=by simpa using n
 rw[List.drop_eq_nil_of_le (by omega)]at g;exact⟨_,rfl,by rw[g];rfl,d.trans e⟩
def Cc{l:gC}:decide (0<=Ee I l 0)=RM I l:=rfl
def IG{l:List Int}{j:Option Addr}{m:Nat}(A:gF w j l)(B:l.length<=100000)(K:l.length<=m)(s:G.doors.length<=100000):
 Calls V.prog 111 #[gV G da dc,.slice j l.length m] w (fi λv n=>v=.int .i64 (ig G.doors.length l)/\Ext w n):=by
 refine gd Tryz.func111 Tryz.ntmps111 ?_;refine ej λE F t H I=>?_;refine fW l.length (λk (_:Unit)=>[(1,.slice j l.length m),(2,.pointer (some ⟨F,0,none⟩)),(5,i64 k)]) (λk _ n=>Ext E n/\ig G.doors.length l=n7 G.doors.length (l.take k) (l.drop k)) () ⟨by trivial,Ext.refl _,rfl⟩ ?_;rintro k _ n i ⟨e,d⟩;refine cS (du ⟨λu=>?_,λp=>?_⟩);have i:k<l.length:=by simpa using u
 have q:=t.trans e;obtain⟨b,o,x,a⟩:=A k i;have f:=q.cell a;rw[BM _ l k i]at d;have y:(l.take k).length=k:=by simp;omega
 have J:∀g,Ext n g->Calls V.prog 138 #[.slice j k m,i64 l[k]] g _:=λg c=>by have:=Hb (l.take k) l[k] j m g ((A.take k).ext (q.trans c)) (by omega);rw[y]at this;exact this
 subst x;refine cX cV (iK k i (cK f (cK (cr (e.at_ I) rfl) (kX (ti (iC cV _ (λg c=>gJ _ _ _ _) (kF λg c=>⟨λh=>?_,λz=>?_⟩)))))));simp at h;exact⟨_,rfl,by rw[d];simp[h],q.trans c⟩;simp at z;refine cX cV (dx _ (λg _=>pF k (by omega) ⟨rfl,cV.refl _⟩) (iK k i (cK ((e.trans c).cell (t.cell a)) (iC cV _ (λC r=>J C (c.trans r)) (YC λC r=>⟨λh=>?_,λD=>?_⟩)))));rw[Cc]at h;exact⟨_,rfl,by rw[d];simp[h,z],(q.trans c).trans r⟩;rw[Cc]at D;rw[z,D]at d;exact cF ⟨i,(),by trivial,(e.trans c).trans r,by simpa using d⟩;have p:¬k<l.length:=by simpa using p
 rw[List.drop_eq_nil_of_le (by omega)]at d;exact⟨_,rfl,by rw[d];rfl,t.trans e⟩
variable{G:Gd}{da:Option Addr}{dc:Nat}{w:cn}
theorem ja.take{a:ek}{l:List Tq}(h:ja w a l)(i:Nat):ja w a (l.take i):=λk d=>by
 have c:k<l.length:=by simp at d;omega
 obtain⟨b,o,e,f⟩:=h k c;exact⟨b,o,e,λj v g=>f j v (by rwa[List.getElem_take]at g)⟩
section
variable{G:Gd}{da:Option Addr}{dc:Nat}{w:cn}
def ID(r:fZ w da G.doors){i:Nat}{x:Dr}(e:(dV G)[i]? =some x):Calls V.prog 181 #[gV G da dc,.int .i64 ((i:Int)-1)] w (fi λv s=>v=.agg (dL x).toArray/\Ext w s):=by
 refine gd Tryz.func181 Tryz.ntmps181 ?_;refine ej λC D g t u=>eD λF q l y f=>du ⟨λh=>?_,λh=>?_⟩;have h:(i:Int)-1<0:=dO h;obtain rfl:i=0:=by omega
 obtain rfl:x=⟨0,0,0⟩:=(cO e).symm;exact dS (.agg (dL ⟨0,0,0⟩).toArray) (dq f λm n c=>by have c:m.heap[q]? =some (.cells (dL ⟨0,0,0⟩).toArray 81):=c.trans (cT (λa=>some (Obj.cells a 81)) (dC (pm 81).toArray _ rfl));exact⟨.agg (dL ⟨0,0,0⟩).toArray,kH _ c λj v d=>by rw[cG];simpa using d,_,rfl,rfl,(g.trans l).cC n (by have:=g.size;omega)⟩);have h:¬(i:Int)-1<0:=ee h;obtain⟨k,rfl⟩:∃k,i=k+1:=⟨i-1,by omega⟩;rw[show((k+1:Nat):Int)-1=(k:Int) by omega];have e:G.doors[k]? =some x:=by simpa[dV]using e
 have p:k<G.doors.length:=(iI.1 e).1;obtain⟨b,o,rfl,z,A,B⟩:=r k p;rw[eV p]at e;obtain rfl:=cO e;have E:=g.trans l;refine cu (cr (l.at_ u) rfl) (eN k 3 p (dJ (vs:=dL G.doors[k]) (λj v d=>?_) (dq f λm n c=>?_)));match j with
 |0=>exact(cO d)▸E.cell z
 |1=>exact(cO d)▸E.cell A
 |2=>exact(cO d)▸E.cell B
 |j+3=>simp[dL]at d
 have c:m.heap[q]? =some (.cells (dL G.doors[k]).toArray 81):=c.trans (cT (λa=>some (Obj.cells a 81)) (dC (pm 81).toArray _ rfl));exact⟨.agg (dL G.doors[k]).toArray,kH _ c λj v d=>by rw[cG];simpa using d,_,rfl,rfl,E.cC n (by have:=g.size;omega)⟩
structure NG(G:Gd)(da:Option Addr)(dc gb n0:Nat)(a b:Int)(x y:Dr)(w0:cn)(D:Nat->Bool)(l:L)(w:cn):Prop where
 g:lk l 3=some (cM gb)
 s1:lk l 1=some (.int .i64 a)
 s2:lk l 2=some (.int .i64 b)
 e:Ext w0 w
 v9:D 0=true->lk l 9=some (gV G da dc)
 v10:D 1=true->lk l 10=some (.int .i64 a)
 v11:D 2=true->lk l 11=some (.agg (dL x).toArray)
 v12:D 3=true->lk l 12=some (gV G da dc)
 v13:D 4=true->lk l 13=some (.int .i64 b)
 v14:D 5=true->lk l 14=some (.agg (dL y).toArray)
 p7:D 6=true->∃p cs,lk l 7=some (cM p)/\n0<=p/\w.heap[p]? =some (.cells cs 81)/\cs.size=3/\(D 8=true->cs=(dL x).toArray)
 p8:D 7=true->∃p cs,lk l 8=some (cM p)/\n0<=p/\w.heap[p]? =some (.cells cs 81)/\cs.size=3/\(D 9=true->cs=(dL y).toArray)
 ne:D 6=true->D 7=true->∀p q,lk l 7=some (cM p)->lk l 8=some (cM q)->p≠q
 c8:D 8=true->D 6=true/\D 7=true
 c9:D 9=true->D 6=true/\D 7=true
theorem NG.ext{k m:Nat}{a b:Int}{x y:Dr}{n w o:World}{D:Nat->Bool}{l:L}(h:NG G da dc k m a b x y n D l w)(e:Ext w o):NG G da dc k m a b x y n D l o:=
 {h with
  e:=h.e.trans e
  p7:=λc=>by
   obtain⟨p,d,f,g,i,j⟩:=h.p7 c
   exact⟨p,d,f,g,e.at_ i,j⟩
  p8:=λc=>by
   obtain⟨p,d,f,g,i,j⟩:=h.p8 c
   exact⟨p,d,f,g,e.at_ i,j⟩}
def xn{p q:Nat}(h:cM p=cM q):p=q:=cT Addr.block (cO (Value.pointer.inj h))
theorem Fq(hG:dK G=0)(J:fZ w da G.doors){i j:Nat}(hi:i<=G.doors.length)(hj:j<=G.doors.length):Calls V.prog 145 #[gV G da dc,.int .i64 ((i:Int)-1),.int .i64 ((j:Int)-1)] w (fi λv R=>v=.int .i64 (lj G i j)/\Ext w R):=by
 have ab:(dV G).length=G.doors.length+1:=by simp[dV]
 obtain⟨x,Z⟩:∃x,(dV G)[i]? =some x:=⟨_,List.getElem?_eq_getElem (by omega)⟩
 obtain⟨y,hy⟩:∃y,(dV G)[j]? =some y:=⟨_,List.getElem?_eq_getElem (by omega)⟩
 have ok:=eQ hG
 have m:∀d∈dV G,(0<=d.st/\d.st<=2)/\(0<=d.at_/\d.at_<=20):=λd J=>by
  rcases List.mem_cons.1 J with rfl|J
  ·simp
  ·exact⟨(ok.door d J).1,(ok.door d J).2.1⟩
 have ac:=m x (List.mem_of_getElem? Z)
 have ad:=m y (List.mem_of_getElem? hy)
 have hW:lj G i j=BJ G.corner x y:=by unfold lj;rw[Z,hy]
 clear m
 obtain⟨a,ha⟩:∃a:Int,a=(i:Int)-1:=⟨_,rfl⟩
 obtain⟨b,S⟩:∃b:Int,b=(j:Int)-1:=⟨_,rfl⟩
 have hA:∀n,Ext w n->Calls V.prog 181 #[gV G da dc,.int .i64 a] n (fi λv R=>v=.agg (dL x).toArray/\Ext n R):=λn e=>by rw[ha];exact ID (J.ext e) Z
 have hB:∀n,Ext w n->Calls V.prog 181 #[gV G da dc,.int .i64 b] n (fi λv R=>v=.agg (dL y).toArray/\Ext n R):=λn e=>by rw[S];exact ID (J.ext e) hy
 rw[<-ha,<-S]
 refine Fc Tryz.func145 Tryz.ntmps145 (dM.seq dj ?_)
 refine ej λn T e1 ae hb=>?_
 refine dM.ij ?_
 refine Sk (NG G da dc T n.heap.size a b x y n) ⟨rfl,rfl,rfl,Ext.drew _,λh=>(by cases h),λh=>(by cases h),λh=>(by cases h),λh=>(by cases h),λh=>(by cases h),λh=>(by cases h),λh=>(by cases h),λh=>(by cases h),λh=>(by cases h),λh=>(by cases h),λh=>(by cases h)⟩ ?_ ?_
 ·have sz:∀{D l o},NG G da dc T n.heap.size a b x y n D l o->n.heap.size<=o.heap.size:=λh=>h.e.size
  refine⟨λD l o h r _=>⟨[(3,cM T)],⟨h.g,trivial⟩,dA (h.e.at_ hb) {h with v9:=λ_=>rfl}⟩,?_⟩
  refine⟨λD l o h r _=>⟨[(1,.int .i64 a)],⟨h.s1,trivial⟩,{h with v10:=λ_=>rfl}⟩,?_⟩
  refine⟨λD l o h r s=>⟨[(9,gV G da dc),(10,.int .i64 a)],⟨h.v9 s.1,h.v10 s.2.1,trivial⟩,dG (hA o (e1.trans h.e)) λK L=>{h.ext L with v11:=λ_=>rfl}⟩,?_⟩
  refine⟨λD l o h r _=>⟨[(3,cM T)],⟨h.g,trivial⟩,dA (h.e.at_ hb) {h with v12:=λ_=>rfl}⟩,?_⟩
  refine⟨λD l o h r _=>⟨[(2,.int .i64 b)],⟨h.s2,trivial⟩,{h with v13:=λ_=>rfl}⟩,?_⟩
  refine⟨λD l o h r s=>⟨[(12,gV G da dc),(13,.int .i64 b)],⟨h.v12 s.1,h.v13 s.2.1,trivial⟩,dG (hB o (e1.trans h.e)) λK L=>{h.ext L with v14:=λ_=>rfl}⟩,?_⟩
  refine⟨λD l o h r s=>⟨[],trivial,eD λK U L M c=>{h.ext L with
   p7:=λ_=>⟨U,_,rfl,Nat.le_trans (sz h) M,c,rfl,λz=>absurd (h.c8 z).1 (by simpa using r)⟩
   ne:=λ_ H p q m u=>by
    obtain⟨q',W,A,_,X,_⟩:=h.p8 H
    have e:q=q':=(xn (Option.some.inj (A.symm.trans u))).symm
    have e2:U=p:=xn (Option.some.inj m)
    have:=cP.lt_of_heap X
    omega
   c8:=λz=>absurd (h.c8 z).1 (by simpa using r)
   c9:=λz=>absurd (h.c9 z).1 (by simpa using r)}⟩,?_⟩
  refine⟨λD l o h r s=>⟨[],trivial,eD λK U L M c=>{h.ext L with
   p8:=λ_=>⟨U,_,rfl,Nat.le_trans (sz h) M,c,rfl,λz=>absurd (h.c9 z).2 (by simpa using r)⟩
   ne:=λI _ p q m u=>by
    obtain⟨q',W,A,_,X,_⟩:=h.p7 I
    have e:p=q':=(xn (Option.some.inj (A.symm.trans m))).symm
    have e2:U=q:=xn (Option.some.inj u)
    have:=cP.lt_of_heap X
    omega
   c8:=λz=>absurd (h.c8 z).2 (by simpa using r)
   c9:=λz=>absurd (h.c9 z).2 (by simpa using r)}⟩,?_⟩
  refine⟨λD l o h r s=>?_,?_⟩
  ·have I:D 6=true:=s.1
   have H:D 7=true:=s.2.2.2.2.2.2.2.1
   have X:D 2=true:=s.2.1
   obtain⟨p,W,m,B,f,C,_⟩:=h.p7 I
   obtain⟨q,N,u,E,k,F,O⟩:=h.p8 H
   have P:=h.ne I H p q m u
   refine⟨[(7,cM p),(11,.agg (dL x).toArray)],⟨m,h.v11 X,trivial⟩,iT (v:=.agg (dL x).toArray) f (by rw[C];exact Nat.le_refl _) (λK Y c=>?_) (fK rfl)⟩
   have c:K.heap[p]? =some (.cells (dL x).toArray 81):=c.trans (congrArg (λa=>some (Obj.cells a 81)) (dC W _ C))
   exact{h with
    e:=h.e.cC Y B
    p7:=λ_=>⟨p,_,m,B,c,rfl,λ_=>rfl⟩
    p8:=λ_=>⟨q,_,u,E,Y.fe k (Ne.symm P),F,O⟩
    c8:=λ_=>⟨I,H⟩}
  refine⟨λD l o h r s=>?_,trivial⟩
  have I:D 6=true:=s.2.2.2.2.2.2.2.2.2.1
  have H:D 7=true:=s.1
  have h5:D 5=true:=s.2.1
  obtain⟨p,W,m,B,f,C,Q⟩:=h.p7 I
  obtain⟨q,N,u,E,k,F,_⟩:=h.p8 H
  have P:=h.ne I H p q m u
  refine⟨[(8,cM q),(14,.agg (dL y).toArray)],⟨u,h.v14 h5,trivial⟩,iT (v:=.agg (dL y).toArray) k (by rw[F];exact Nat.le_refl _) (λK Y c=>?_) (fK rfl)⟩
  have c:K.heap[q]? =some (.cells (dL y).toArray 81):=c.trans (congrArg (λa=>some (Obj.cells a 81)) (dC N _ F))
  exact{h with
   e:=h.e.cC Y E
   p8:=λ_=>⟨q,_,u,E,c,rfl,λ_=>rfl⟩
   p7:=λ_=>⟨p,_,m,B,Y.fe f P,C,Q⟩
   c9:=λ_=>⟨I,H⟩}
 ·intro D l o h t
  obtain⟨p,W,m,B,f,C,Q⟩:=h.p7 (t 6 (by decide))
  obtain⟨q,N,u,E,k,F,O⟩:=h.p8 (t 7 (by decide))
  obtain rfl:=Q (t 8 (by decide))
  obtain rfl:=O (t 9 (by decide))
  have E2:=e1.trans h.e
  have aa:=h.e.at_ hb
  refine dM.jN (l0:=[(3,cM T),(7,cM p),(8,cM q)]) ⟨h.g,m,u,trivial⟩ ?_
  have hf:0<=tk x.st y.st/\tk x.st y.st<=2:=by unfold tk;omega
  have hc:=ok.corner
  have m1:=Int.mul_le_mul hc.2 hf.2 hf.1 (by omega)
  have m2:=Int.mul_nonneg (show 0<=G.corner by omega) hf.1
  refine dM.of dj (cu (cr f rfl) (cu (cr k rfl) (ff ⟨λA=>?_,λA=>?_⟩)))
  ·have A:x.st=y.st:=of_decide_eq_true A
   refine cu (cr f rfl) (cu (cr k rfl) (fx (cu (cr k rfl) (cu (cr f rfl) (fx (rj ⟨_,rfl,?_,E2⟩))))))
   rw[hW,BJ,if_pos A]
   rfl
  ·have A:¬x.st=y.st:=of_decide_eq_false A
   refine cu (cr f rfl) (cu (cr k rfl) (cF (cu (cr aa rfl) (cu (cr f rfl) (cu (cr k rfl) (fx (cu (cr k rfl) (cu (cr f rfl) (fx (rj (pE (cF ⟨_,rfl,?_,E2⟩ ?_) ?_)))))))))))
   ·rw[hW,BJ,if_neg A]
    rfl
   ·have e:max (x.st-y.st) (y.st-x.st)=tk x.st y.st:=rfl
    rw[e];omega
   ·have e:max (x.st-y.st) (y.st-x.st)=tk x.st y.st:=rfl
    rw[e];omega
end
section
variable{G:Gd}{da:Option Addr}{dc:Nat}{w:cn}
theorem Kk(hG:dK G=0)(hd:fZ w da G.doors){l:List Nat}{la:Option Addr}{lc:Nat}(hr:fN w la l)(hl:∀d∈l,d<G.doors.length)(hlen:l.length<=1000):
 Calls V.prog 177 #[gV G da dc,.slice la l.length lc] w (fi λv w'=>v=.int .i64 (GG G l)/\Ext w w'):=by
 have ok:=eQ hG;have hW:=uf ok
 have WA:∀k,k<=l.length->xd l k<=G.doors.length:=λk hk=>by
  unfold xd;split
  ·omega
  ·have:k-1<l.length:=by omega
   have h2:=hl _ (List.getElem_mem this);rw[getD_eq this];omega
 refine gd Tryz.func177 Tryz.ntmps177 ?_;refine ej λw1 gb e1 Yf hb=>?_;refine fW l.length (λk (_:Unit)=>[(1,.slice la l.length lc),(2,cM gb),(5,.int .i64 (wK (lj G) l k)),(6,.int .i64 ((xd l k:Nat)-1)),(7,.int .i64 k)]) (λk _ w'=>Ext w1 w') () ⟨⟨rfl,rfl,rfl,rfl,rfl,trivial⟩,Ext.refl _⟩ ?_;rintro k _ w2 hk e2;have WB:=hd.ext (e1.trans e2);have De:=e2.at_ hb;have Uf:=xe hW l k;refine cS (du ⟨λHJ=>?_,λVk=>?_⟩)
 ·have P6:k<l.length:=by simpa using HJ
  obtain⟨bb,oo,rfl,hc⟩:=(hr.ext (e1.trans e2)) k P6;have Yg:=hl _ (List.getElem_mem P6);have hw:=hW (xd l k) (l[k]+1);have sC:∀w3,Ext w2 w3->Calls V.prog 145 #[gV G da dc,.int .i64 ((xd l k:Nat)-1),.int .i64 l[k]] w3 (fi λv w'=>v=.int .i64 (lj G (xd l k) (l[k]+1))/\Ext w3 w'):=λw3 e3=>by have:=Fq (dc:=dc) hG (WB.ext e3) (WA k (by omega)) (show l[k]+1<=G.doors.length by omega);rwa[show((l[k]+1:Nat):Int)-1=(l[k]:Int) by omega]at this
  have s1:wK (lj G) l (k+1)=wK (lj G) l k+lj G (xd l k) (l[k]+1):=by simp only[wK,getD_eq P6]
  have s2:((xd l (k+1):Nat):Int)-1=l[k]:=by simp[xd,List.getElem?_eq_getElem P6]
  refine cX cV (dx (gV G da dc) (λw3 e3=>dA (e3.at_ De) ⟨rfl,Ext.refl _⟩) (iK k P6 (cK hc (fh _ (λw3 e3=>sC w3 e3) (vf (iK k P6 (cK hc λw3 e3=>cF ⟨P6,(),⟨rfl,rfl,?_,?_,rfl,trivial⟩,e2.trans e3⟩)))))))
  ·show some _=some _;rw[s1]
  ·show some _=some _;rw[s2]
 ·have P6:k=l.length:=by
   have:¬k<l.length:=by simpa using Vk
   omega
  subst P6;have hw:=hW (xd l l.length) 0;have sC:Calls V.prog 145 #[gV G da dc,.int .i64 ((xd l l.length:Nat)-1),.int .i64 (-1)] w2 (fi λv w'=>v=.int .i64 (lj G (xd l l.length) 0)/\Ext w2 w'):=Fq (j:=0) hG WB (WA _ (Nat.le_refl _)) (Nat.zero_le _);exact dA De (dG sC λw3 e3=>cF ⟨_,rfl,rfl,(e1.trans e2).trans e3⟩)
def Fs(a b:Int):dr:=[.int .i64 a,.int .i64 b]
def Hf(z:dK G=0)(A:fZ w da G.doors){l:List Nat}{la:Option Addr}{lc:Nat}(B:fN w la l)(C:∀d∈l,d<G.doors.length)(m:l.length<=1000):
 Calls V.prog 143 #[gV G da dc,.slice la l.length lc] w (fi λv q=>v=.agg (Fs (iG G l) (iU G l)).toArray/\Ext w q):=by
 have n:=eQ z;have J:=AF n l (by omega);have K:=tj (uf n) l;have L:=n.knock;have M:0<=G.knock*(l.length:Int)/\G.knock*(l.length:Int)<=5000:=⟨Cu (by omega) (by omega),Int.le_trans (Int.mul_le_mul L.2 (show(l.length:Int)<=1000 by omega) (by omega) (by omega)) (by decide)⟩;have r:GG G l+G.knock*(l.length:Int)=iG G l:=by unfold iG BH GG;rw[Int.mul_comm]
 have N:GG G l=pH (lj G) l:=rfl;refine gd Tryz.func143 Tryz.ntmps143 ?_;refine ej λw1 O D P Q=>eD λR E F S s=>?_;have p:=D.trans F;have f:=F.at_ Q;refine cX cV (dx (gV G da dc) (λH h=>dA (h.at_ f) ⟨rfl,Ext.refl _⟩) (fh _ (λH h=>Kk (dc:=dc) (lc:=lc) z (A.ext (p.trans h)) (B.ext (p.trans h)) C m) (cK (cr f rfl) (kX (GA (vf (λH h=>?_)))))));rw[r];refine fW l.length (λk (_:Unit)=>[(1,.slice la l.length lc),(2,cM O),(4,cM E),(5,i64 (iG G l)),(6,i64 (n6 G (l.take k))),(7,i64 k)]) (λk _ q=>Ext R q) () ⟨⟨rfl,rfl,rfl,rfl,by show some _=some _;simp[n6],rfl,trivial⟩,h⟩ ?_;rintro k _ w4 T i;have t1:=yE n (l.take k);have U:(l.take k).length<=1000:=by simp;omega
 refine cS (du ⟨λt=>?_,λu=>?_⟩);have c:k<l.length:=by simpa using t
 obtain⟨b,o,rfl,W⟩:=(B.ext (p.trans i)) k c;have e:=C _ (ef c);obtain⟨b2,o2,x,_,_,X⟩:=(A.ext (p.trans i)) _ e;have t2:=n.door _ (ef e);subst x;refine cX cV (cK (cr (i.at_ f) rfl) (iK k c (cK W (gE l[k] 3 e (cK X (vf λI Y=>cF ⟨c,(),⟨rfl,rfl,rfl,rfl,?_,rfl,trivial⟩,i.trans Y⟩))))));show some _=some _;rw[yD G l k c e];have y:k=l.length:=by
  have:¬k<l.length:=by simpa using u
  omega
 subst y;rw[mW]at*;refine cF (dS (.agg (Fs (iG G l) (iU G l)).toArray) (dq (i.at_ s) λI Z g=>?_));have g:I.heap[E]? =some (.cells (Fs (iG G l) (iU G l)).toArray 56):=g.trans (cT (λa=>some (Obj.cells a 56)) (dC (pm 56).toArray _ rfl));exact⟨.agg (Fs (iG G l) (iU G l)).toArray,kH _ g λj v hj=>by rw[cG];simpa using hj,_,rfl,rfl,(p.trans i).cC Z (by have:=D.size;omega)⟩
end
def SH(t:Ty):Tq:=⟨t.door,t.shift,t.opened⟩
def l9(l:List Ty)(d h:Nat):Nat:=(l.filter λt=>decide (t.door=d/\t.shift%2=h)).length
def zx(l:List Ty)(d:Nat):Bool:=l.any λt=>decide (t.door=d)&&t.opened
def J9(l:List Ty)(d a:Nat):Bool:=l.any λt=>decide (t.door=d)&&decide (t.shift/2=a)
def uF(l:List Ty)(d:Nat):Sx:=⟨((l9 l d 0+l9 l d 1:Nat):Int),(l9 l d 0:Nat),(l9 l d 1:Nat),zx l d,J9 l d 0,J9 l d 1,J9 l d 2,false⟩
structure Made(G:Gd)(l:List Ty)(s:Nat):Prop where
 log:fQ G (l.map SH)=(0,(List.range G.doors.length).map (uF l))
 last:∀t∈l,t.shift<=s
def Made.nil(G:Gd):Made G [] 0:=⟨by simp only[fQ,vC,nH];congr 1;refine List.ext_getElem (by simp) λi a b=>?_;simp only[List.getElem_replicate,List.getElem_map];rfl,λt h=>by cases h⟩
theorem zB{a:Type}{f:a->dr}{n:Nat}(b:∀x,(f x).length=n):∀l:List a,(l.flatMap f).length=l.length*n
 |[]=>by simp
 |t::r=>by rw[mV,jA,b,zB b r,eI,Nat.add_mul,Nat.one_mul,Nat.add_comm]
theorem pX{b:Type}{f:b->dr}{n:Nat}(a:∀x,(f x).length=n):∀(l:List b) (k:Nat) (c:k<l.length) (j:Nat) (v:cq),(f l[k])[j]? =some v->(l.flatMap f)[k*n+j]? =some v
 |x::r,0,_,j,v,h=>by have d:j<(f x).kq:=(iI.1 h).1;rw[mV,Nat.zero_mul,cG,nT d];exact h
 |x::r,k+1,c,j,v,h=>by have e:=pX a r k (by simpa using c) j v (by simpa using h);rw[mV,oM (by rw[a,Nat.add_mul];omega),a,show(k+1)*n+j-n=k*n+j by rw[Nat.add_mul];omega];exact e
section
variable{G:Gd}{da:Option Addr}{dc:Nat}{w:cn}
def IH(c:fZ w da G.doors)(a:G.doors.length<=100000):Calls V.prog 87 #[gV G da dc] w (fi λv d=>v=.int .i64 (dK G)/\Ext w d):=by refine gd Tryz.func87 Tryz.ntmps87 ?_;refine ej λe i b f g=>dA g (cD (Jl G da dc e (c.ext b) a) ?_);rintro _ j ⟨rfl,h⟩;exact⟨_,rfl,rfl,b.trans h⟩
end
def Yq:∀s:Nat,s<32->∀d:Nat,d<5->∀x:Nat,x<5->(qi s d).testBit x=(s.testBit x||decide (x=d)):=by decide+kernel
theorem A4{x:Nat}:∀(l:cz) (s:Nat),s<32->(∀d∈l,d<5)->x<5->((setFrom s l).testBit x=true↔s.testBit x=true\/x∈l)
 |[],s,_,_,_=>by simp[setFrom]
 |d::r,s,a,h,b=>by have c:=h d iP;have:=A4 (x:=x) r (qi s d) (Gj s a d c) (λy e=>h y (iw _ e)) b;show(setFrom (qi s d) r).testBit x=true↔_;rw[this,Yq s a d c x b,Hp,decide_eq_true_iff,eO,or_assoc]
def Ka(h:∀d∈l,d<5)(a:m<5):(io l).testBit m=true↔m∈l:=by have:=A4 l 0 (by omega) h a;unfold io;rw[this];simp
def Q9:m∈fl s↔m<5/\s.testBit m=true:=by unfold fl n8;rw[xq,gR]
section
variable{G:Gd}{xs:List Sx}
end
section
variable{G H:Gd}{σ τ:Nat->Nat}
end
section
variable{G H:Gd}{σ τ:Nat->Nat}{xs ys:List Sx}
end
def NE(a:Ext w t)(d:DE m t e)(h:w.heap.size<=m):Ext w e:=⟨d.1.os.trans a.os,d.1.tape.trans a.tape,d.1.output.trans a.output,cZ a.size d.1.size,cZ a.drawn d.1.drawn,λx b=>(d.1.block x (dE b a.size) (by omega)).trans (a.block x b)⟩
section
variable{G H:Gd}{σ τ:Nat->Nat}
end
section
variable{H G:Gd}
end
end Go.Proofs.W
variable{W X:Array cq}
namespace Go.Proofs.W
open Go.RowKit
def Yz(a:List Dr)(c:m<a.length)(d:k<3):(a.flatMap dL)[m*3+k]? =(dL a[m])[k]? :=by have b:k<(dL a[m]).kq:=d;rw[eV b];exact pX (f:=dL) (n:=3) (λ_=>rfl) a m c k _ (eV b)
def Kg(b:List Dr):∀u∈b.flatMap dL,u.oneCell'=true:=λu c=>by obtain⟨d,_,a⟩:=sq.1 c;simp only[dL,eO,mu,jW]at a;rcases a with rfl|rfl|rfl<;>rfl
def z8(R:ii w a (H.doors.flatMap dL))(K:H.doors.length<=100000):Calls V.prog 36 #[gV H a m] w (fi λv L=>Ext w L/\∃b c,v=gV H b c/\l8 w.heap.size L (.slice b H.doors.length c) H.doors):=by
 refine gd Tryz.func36 Tryz.ntmps36 ?_;refine ej λw1 s M u y=>eD λN z p S i=>eg [] 81 λw3 nb r A B=>?_;have d:=M.trans p;have s1:=M.size;have s2:=p.size;have s3:=r.size;refine cu (cr ((p.trans r).at_ y) rfl) (pL (n0:=N.heap.size) Ph B A (vz H.doors) ((R.ext d).ext r) (Kg _) (by omega) λv4 O C T=>?_);have f:=T N r (cJ _);have U:=d.trans f;obtain⟨b,c,rfl,W,hc⟩:=l8.row C;have k:O.heap[s]? =some (.cells (gV H a m).cells 24):=f.at_ (p.at_ y);have l:=f.at_ i;refine dq k λX D g=>?_;replace g:X.heap[s]? =some (.cells (gL H b c).toArray 24):=g;have E:z≠s:=by have:=cP.lt_of_heap y;omega
 have F:=D.fe l E;refine dA g (dq F λG P I=>?_);have J:G.heap[z]? =some (.cells (gL H b c).toArray 24):=I.trans (cT (λb=>some (Obj.cells b 24)) (dC (pm 24).toArray (gL H b c) rfl));have Y:Sem.run V.prog (loadVar 24 ⟨z,0,none⟩) G=.ok (gV H b c) G:=kH (gL H b c) J λj v Z=>by rw[cG];simpa using Z
 refine⟨gV H b c,Y,_,rfl,(U.cC D u).cC P (by omega),b,c,rfl,?_⟩;have n:∀x,cH (.slice b H.doors.length c) x->∀Q t,O.heap[x]? =some (.cells Q t)->t=81:=λx o Q t h=>by obtain⟨aa,q⟩:=cR.c_ C o;rw[q]at h;injection h with h;injection h with _ h;exact h.symm
 exact l8.low (cR.keep (cR.keep C D λx o e=>by subst e;exact absurd (n _ o _ _ k) (by decide)) P (λx o e=>by subst e;exact absurd (n _ o _ _ l) (by decide))) d.size
theorem l8.set{a:List Dr}(h:l8 m w (.slice (some ⟨k,0,none⟩) a.length j) a)(v:w.heap[k]? =some (.cells W 81))(H:i<a.length)(l:t.heap[k]? =some (.cells (W.setIfInBounds (i*3+2) (.int .i64 I)) 81)):l8 m t (.slice (some ⟨k,0,none⟩) (a.set i ⟨a[i].st,a[i].at_,I⟩).length j) (a.set i ⟨a[i].st,a[i].at_,I⟩):=by
 obtain⟨J,⟨K,_⟩|⟨x,L,y,z,e,d,p,A,B,C,D⟩⟩:=h;omega;injection e with e _ E;obtain rfl:k=x:=cT Addr.block (cO e);rw[v]at d;injection d with d;injection d with d;subst d;subst E;have F:=vz a;have b:=vz (a.set i ⟨a[i].st,a[i].at_,I⟩);rw[xp]at b;refine⟨by rw[xp];exact b,.inr ⟨k,j,_,z,rfl,l,by simpa using p,by rw[xp];exact A,B,λf n=>?_,λf n g=>?_⟩⟩;rw[b]at n;obtain⟨q,r,rfl,s⟩:∃q r,f=q*3+r/\r<3:=⟨f/3,f%3,by omega,by omega⟩;have u:q<a.length:=by omega
 rw[Yz _ (by rw[xp];exact u) s,List.getElem_set];have c:=C (q*3+r) (by omega);rw[Yz a u s]at c;split;rename_i o;subst o;by_cases G:r=2;subst G;rw[kI (by simp only[eI,fB]at p;omega)];rfl;rw[eo (by omega),c];obtain rfl|rfl:r=0\/r=1:=by omega
 rfl;rfl;rw[eo (by omega),c];rw[b]at n;rw[Array.size_setIfInBounds]at g;rw[eo (by omega)];exact D f (by omega) g
def cR.st{o b a c:Nat}{t:cw}{p i k:dr}{w q:cn}{l d:dU}(h:cR o t p w (.slice (some ⟨b,0,none⟩) a c) a i)(r:w.heap[b]? =some (.cells l t))(m:q.heap[b]? =some (.cells d t))(s:d.size=l.size)(u:k.length=i.length)(n:∀j,j<i.length->d[j]? =k[j]?)(g:∀j,i.length<=j->d[j]? =l[j]?)(I:0<a):cR o t p q (.slice (some ⟨b,0,none⟩) a c) a k:=by obtain⟨v,⟨x,_⟩|⟨y,J,z,A,e,f,B,C,D,K,E⟩⟩:=h;omega;injection e with e _ F;obtain rfl:b=y:=cT Addr.block (cO e);rw[r]at f;injection f with f;injection f with f;subst f;subst F;refine⟨by rw[u];exact v,.inr ⟨b,c,d,A,rfl,m,by rw[s];exact B,C,D,λj G=>n j (by omega),λj G H=>?_⟩⟩;rw[g j (by omega)];exact E j (by omega) (by omega)
theorem Kb:∀{l:gC} (i:Nat),I∈l->0<=Ee I l i
 |y::r,i,h=>by simp only[Ee];by_cases a:I=y;rw[cB a];exact Int.natCast_nonneg _;rw[cy a];exact Kb (i+1) ((eO.1 h).resolve_left a)
def TV:RM (d:Int) (pI l)=decide (d∈l):=by
 have a:((d:Int)∈pI l)↔d∈l:=by unfold pI;rw[mq];constructor;rintro⟨e,b,h⟩;rw[<-Int.ofNat.inj h];exact b;exactλh=>⟨d,h,rfl⟩
 unfold RM;by_cases h:d∈l;rw[decide_eq_true h,decide_eq_true (Kb 0 (a.2 h))];rw[kR h,NS 0 λc=>h (a.1 c)];rfl
section
variable{G:Gd}{da:Option Addr}{dc:Nat}{w:cn}{l:List Int}{la:Option Addr}{lc:Nat}
def ww(e:fZ w da G.doors)(a:G.doors.length<=100000)(f:gF w la l)(g:l.length<=100000)(i:l.length<=lc):Calls V.prog 147 #[gV G da dc,.slice la l.length lc] w (fi λv j=>v=.int .i64 (my G l)/\Ext w j):=by
 refine gd Tryz.func147 Tryz.ntmps147 ?_;refine ej λn o b k d=>dA d (dG (G7 (dc:=dc) (e.ext b) a) λp c=>fD ⟨λh=>?_,λh=>?_⟩);have h:¬dK G=0:=dO h;exact⟨_,rfl,by rw[my,cy h];rfl,b.trans c⟩;have h:dK G=0:=by simpa using h
 exact dA (c.at_ d) (dG (IG (dc:=dc) (f.ext (b.trans c)) g i a) λq m=>⟨_,rfl,by rw[my,cB h];rfl,(b.trans c).trans m⟩)
def TW(m:fZ w da G.doors)(e:G.doors.length<=100000)(a b:Int):Calls V.prog 86 #[gV G da dc,.int .i64 a,.int .i64 b] w (fi λv p=>v=B9 G a b/\Ext w p):=by
 refine gd Tryz.func86 Tryz.ntmps86 ?_;refine ej λt u g q n=>dA n (dG (G7 (dc:=dc) (m.ext g) e) λx k=>fD ⟨λh=>?_,λh=>?_⟩);have h:¬dK G=0:=dO h;exact⟨_,rfl,by rw[B9,cy h];rfl,g.trans k⟩;have l:dK G=0:=by simpa using h
 have d:=k.at_ n;have f:=g.trans k;have o:¬(kP a (-1) (G.doors.length-1)=true/\kP b (-1) (G.doors.length-1)=true)->B9 G a b=.tuple #[i64 0,i64 3]:=λh=>by rw[B9,cB l,cy h]
 refine cu (cr d rfl) (cS (fx (dg (gJ _ _ _ _) (ei ⟨λh=>?_,λh=>?_⟩))));have h:kP a (-1) (G.doors.length-1)=false:=by simpa using h
 exact jZ (by simp[h]) ⟨_,rfl,by rw[o (by simp[h])];rfl,f⟩;have h:kP a (-1) (G.doors.length-1)=true:=by simpa using h
 refine cu (cr d rfl) (cS (fx (dg (gJ _ _ _ _) (ei ⟨λc=>?_,λc=>?_⟩))));have c:kP b (-1) (G.doors.length-1)=false:=by simpa using c
 exact⟨_,rfl,by rw[o (by simp[c])];rfl,f⟩;have c:kP b (-1) (G.doors.length-1)=true:=by simpa using c
 have y: -1<=a/\a<=G.doors.length-1:=by simpa[kP]using h
 have r: -1<=b/\b<=G.doors.length-1:=by simpa[kP]using c
 obtain⟨i,rfl⟩:∃i:Nat,a=(i:Int)-1:=⟨(a+1).toNat,by omega⟩;obtain⟨j,rfl⟩:∃j:Nat,b=(j:Int)-1:=⟨(b+1).toNat,by omega⟩;exact dA d (dG (Fq (dc:=dc) l (m.ext f) (i:=i) (j:=j) (by omega) (by omega)) λz s=>⟨_,rfl,by rw[B9,cB l,cB ⟨h,c⟩];simp,f.trans s⟩)
def tA(h:my G l=0):dK G=0/\ig G.doors.length l=0/\∃a:cz,l=pI a/\l.map Int.toNat=a/\l.length=a.length/\∀d∈a,d<G.doors.length:=by unfold my at h;by_cases b:dK G=0;rw[cB b]at h;obtain⟨a,rfl,c⟩:=od h;exact⟨b,h,a,rfl,by simp[pI,Ct],by simp[pI],c⟩;rw[cy b]at h;exact absurd h b
def A5(t:fZ w da G.doors)(d:G.doors.length<=100000)(u:gF w la l)(z:l.length<=1000)(C:l.length<=lc):Calls V.prog 89 #[gV G da dc,.slice la l.length lc] w (fi λv D=>v=vg G l/\Ext w D):=by
 refine gd Tryz.func89 Tryz.ntmps89 ?_;refine ej λQ R e E A=>eD λF n a H f=>dA (a.at_ A) (dG (ww (dc:=dc) (t.ext (e.trans a)) d (u.ext (e.trans a)) (by omega) C) λS b=>?_);have B:=(e.trans a).trans b;have g:∀{i:cn} (x y:Int),Ext F i->i.heap[n]? =some (.cells (pm 56).toArray 56)->∀{k:cn->Prop},(∀c,Ext w c->Sem.run V.prog (loadVar 56 ⟨n,0,none⟩) c=.ok (.agg (mz x y).toArray) c->k c)->DO V.prog (Instr.storeAt 56 (.pointer (some ⟨n,0,none⟩)) (.agg (mz x y).toArray)) i k:=λ{i} x y o I k J=>
  dq I λc K p=>J c (((e.trans a).trans o).cC K (by have:=e.size;omega)) (kH (mz x y) p λj v L=>by rw[cG];show(mz x y).toArray[j]? =some v;simpa using L)
 refine fD ⟨λh=>?_,λh=>?_⟩;have h:¬my G l=0:=dO h;exact dS (.agg (mz 0 0).toArray) (g 0 0 b (b.at_ f) λM m q=>⟨_,q,_,rfl,by rw[vg,cy h];rfl,m⟩);have h:my G l=0:=by simpa using h
 obtain⟨N,_,T,rfl,O,P,r⟩:=tA h;have s:=(u.ext B).En;rw[P]at z⊢;refine dA (b.at_ (a.at_ A)) (dG (Hf (dc:=dc) N (t.ext B) s r z) λM m=>g _ _ (b.trans m) (m.at_ (b.at_ f)) λi o q=>⟨_,q,_,rfl,by rw[vg,cB h,O];rfl,o⟩)
def r9(G:Gd)(l:gC):cq:=if my G l=0 then .tuple #[.int .i64 (MK G (l.map Int.toNat)),.int .i64 0]else .tuple #[.int .i64 0,.int .i64 (my G l)]
def NB(t:fZ w da G.doors)(f:G.doors.length<=100000)(u:gF w la l)(x:l.length<=1000)(y:l.length<=lc):Calls V.prog 90 #[gV G da dc,.slice la l.length lc] w (fi λv z=>v=r9 G l/\Ext w z):=by
 refine gd Tryz.func90 Tryz.ntmps90 ?_;refine ej λD A e B q=>dA q (dG (A5 (dc:=dc) (t.ext e) f (u.ext e) x y) λE g=>?_);have i:=g.at_ q;unfold vg;split;rename_i h;refine eD λC r k n b=>dq b λs m c=>?_;have o:¬A=r:=by have:=cP.lt_of_heap i;omega
 have p:Ext w s:=((e.trans g).trans k).cC m (by have:=(e.trans g).size;omega);have j:=m.fe (k.at_ i) o;refine fD (lx (by simp) (cu (cr c rfl) (cu (cr j rfl) (ue ⟨λa=>?_,λa=>?_⟩))));have a:iU G (l.map Int.toNat)<=G.minutes:=dO a;exact⟨_,rfl,by rw[r9,cB h,MK,cB a];rfl,p⟩;have a:¬iU G (l.map Int.toNat)<=G.minutes:=ee a;refine cu (cr c rfl) (cu (cr j rfl) (lZ ⟨λd=>?_,λd=>?_⟩));have d:G.minutes<iG G (l.map Int.toNat):=dO d;exact⟨_,rfl,by rw[r9,cB h,MK,cy a,cB d];rfl,p⟩;have d:¬G.minutes<iG G (l.map Int.toNat):=ee d;exact⟨_,rfl,by rw[r9,cB h,MK,cy a,cy d];rfl,p⟩;rename_i h;refine eD λC r k n b=>dq b λs m c=>?_;exact fD (jZ (by simpa using h) ⟨_,rfl,by rw[r9,cy h];rfl,((e.trans g).trans k).cC m (by have:=(e.trans g).size;omega)⟩)
def NC(u:fZ w da G.doors)(j:G.doors.length<=100000)(r:gF w la l)(x:l.length<=1000)(y:l.length<=lc):Calls V.prog 61 #[gV G da dc,.slice la l.length lc] w (fi λv z=>v=r9 G l/\Ext w z):=by
 refine gd Tryz.func61 Tryz.ntmps61 ?_;refine ej λH I c A s=>dA s (cD (yG (dc:=dc) (u.ext c) j (r.ext c) (by omega) y) ?_);rintro v J ⟨e,⟨i,rfl⟩|⟨i,K,mk,L,rfl,t⟩⟩;have a:my G l=dK G:=by simp[my,i]
 exact fD (jZ (by simpa using i) ⟨_,rfl,by rw[r9,a,cy i];rfl,c.trans e⟩);have a:my G l=ig G.doors.length l:=by simp[my,i]
 refine fD ⟨λh=>?_,λh=>?_⟩;have h:¬ig G.doors.length l=0:=dO h;exact⟨_,rfl,by rw[r9,a,cy h];rfl,c.trans e⟩;have h:my G l=0:=by rw[a];simpa using h
 obtain⟨_,_,p,rfl,q,B,k⟩:=tA h;have m:=e.at_ s;have n:=(r.ext (c.trans e)).En;rw[B]at x⊢;have C:=eQ i;have D:=C.many;refine cX cV (fh _ (λE b=>BK (t.ext b).g k (by omega) (n.ext b)) (cK (cr m rfl) (TE λE b=>⟨λd=>?_,λd=>?_⟩)));have d:iU G p<=G.minutes:=dO d;exact⟨_,rfl,by rw[r9,cB h,q,MK,cB d];rfl,(c.trans e).trans b⟩;have d:¬iU G p<=G.minutes:=ee d;refine cX cV (fh _ (λF o=>Ej (t.ext (b.trans o)).g k (by omega) (n.ext (b.trans o))) (cK (cr (b.at_ m) rfl) (yA λF o=>⟨λf=>?_,λf=>?_⟩)));have f:G.minutes<iG G p:=dO f;exact⟨_,rfl,by rw[r9,cB h,q,MK,cy d,cB f];rfl,((c.trans e).trans b).trans o⟩;have f:¬G.minutes<iG G p:=ee f;exact⟨_,rfl,by rw[r9,cB h,q,MK,cy d,cy f];rfl,((c.trans e).trans b).trans o⟩
end
end Go.Proofs.W
variable{M Y:List cq}
namespace Go.Proofs.W
open Go.RowKit
def ir{c:Type}(f:c->dr)(n:Nat)(w:cn)(a:ek)(l:List c):Prop:=∀k (h:k<l.length),∃b o,a=some ⟨b,o,none⟩/\∀j v,(f l[k])[j]? =some v->w.cell? ⟨b,o+k*n+j,none⟩=some v
def ir.cells{k:Type}{f:k->dr}{n:Nat}{w:cn}{a:ek}{l:List k}(h:ir f n w a l)(m:0<n)(d:∀x,(f x).length=n):ii w a (l.flatMap f):=by
 rcases mY l.length with g|g;exact .inl (by rw[oL g];rfl);obtain⟨b,o,e,_⟩:=h 0 g;refine .inr ⟨b,o,e,λj u p=>?_⟩;have c:=(iI.1 p).1;rw[zB d]at c;have i:=Nat.div_add_mod j n;have v:=Nat.mod_lt j m;have q:j/n<l.length:=(Nat.div_lt_iff_lt_mul m).2 c;rw[Nat.mul_comm]at i;have r:j%n<(f l[j/n]).length:=by rw[d];exact v
 have s:=pX d l (j/n) q (j%n) _ (eV r);rw[i,p]at s;obtain⟨z,A,t,y⟩:=h (j/n) q;rw[e]at t;cases t;have:=y (j%n) _ (eV r);rw[vF,i]at this;rw[this,cO s]
def ir.own{d:Type}{f:d->dr}{n m:Nat}{w:cn}{l:List d}(h:cR m T M w z l.length (l.flatMap f))(u:M.length=n)(o:∀x,(f x).length=n):∃a c,z=.slice a l.length c/\ir f n w a l/\l.length<=c:=by obtain⟨v,⟨p,rfl⟩|⟨b,c,y,A,rfl,q,B,r,C,s,D⟩⟩:=h;exact⟨none,0,by rw[p],λk e=>by omega,by omega⟩;refine⟨_,c,rfl,λk e=>⟨b,0,rfl,λj z g=>cr q ?_⟩,r⟩;have t:j<(f l[k]).kq:=(iI.1 g).1;have i:=pX o l k e j z g;rw[cG,s _ (iI.1 i).1];exact i
theorem ja.cells{w:cn}{a:ek}{l:List Tq}(h:ja w a l):ii w a (l.flatMap nQ):=ir.cells (f:=nQ) (n:=3) h (by decide) λ_=>rfl
theorem fZ.cells{w:cn}{a:ek}{l:List Dr}(h:fZ w a l):ii w a (l.flatMap dL):=ir.cells (f:=dL) (n:=3) (λk d=>by
 obtain⟨b,o,e,g,i,m⟩:=h k d;refine⟨b,o,e,λj v c=>?_⟩;match j,c with
 |0,c=>cases c;exact g
 |1,c=>cases c;exact i
 |2,c=>cases c;exact m) (by decide) λ_=>rfl
def iL(n:Int):dr:=[.int .i64 n]
theorem gF.cells{w:cn}{a:ek}{l:gC}(h:gF w a l):ii w a (l.flatMap iL):=ir.cells (f:=iL) (n:=1) (λk d=>by
 obtain⟨b,o,e,g⟩:=h k d;refine⟨b,o,e,λj v c=>?_⟩;match j,c with
 |0,c=>cases c;rw[oi];exact g) (by decide) λ_=>rfl
def Hd(a:Nat)(w:cn)(v:cq)(l:gC):Prop:=cR a 3 [.int .i64 0] w v l.length (l.flatMap iL)
def Hd.row{w:cn}{l:gC}(h:Hd m w z l):∃a c,z=.slice a l.length c/\gF w a l/\l.length<=c:=by obtain⟨a,c,d,g,i⟩:=ir.own (f:=iL) (n:=1) h rfl λ_=>rfl;refine⟨a,c,d,λk j=>?_,i⟩;obtain⟨b,o,e,p⟩:=g k j;have:=p 0 _ rfl;rw[oi]at this;exact⟨b,o,e,this⟩
def Si{a:Type}{f:a->dr}(b:∀x,∀u∈f x,u.oneCell'=true)(l:List a):∀u∈l.flatMap f,u.oneCell'=true:=λu c=>by obtain⟨d,_,e⟩:=sq.1 c;exact b d u e
def YE(x:Int):∀u∈iL x,u.oneCell'=true:=λu a=>by simp only[iL,eO,mu,jW]at a;rw[a];rfl
def Kc{l:List Int}{w:cn}(h:gF w a l)(b:l.length<=1000000):Calls V.prog 45 #[.slice a l.length m] w (fi λv d=>Ext w d/\Hd w.heap.size d v l):=by refine gd Tryz.func45 Tryz.ntmps45 ?_;exact eg [] 3 λk o e c g=>pL (us:=l.flatMap iL) sg g c (zB (f:=iL) (n:=1) (λ_=>rfl) l) ((h.ext e).cells) (Si YE l) b λp q i j=>⟨_,rfl,j w e (cJ _),i⟩
section
variable{x y:dw}{w:cn}
def TX(q:Dr):Sem.run V.prog (do eqGuard .neq 81 x y (.agg (dL q).toArray) (.agg (dL q).toArray);binOp .neq 81 (.agg (dL q).toArray) (.agg (dL q).toArray)) w=.ok (.bool false) w:=by obtain⟨a,b,c⟩:=q;show Sem.run jD (do eqGuard .neq 81 x y (.agg #[i64 a,i64 b,i64 c]) (.agg #[i64 a,i64 b,i64 c]);binOp .neq 81 (.agg #[i64 a,i64 b,i64 c]) (.agg #[i64 a,i64 b,i64 c])) w=.ok (.bool false) w;go_simp
end
def z9{q:ek}{w:cn}(J:fZ w a H.doors)(x:fZ w q H.doors)(E:H.doors.length<=100000):Calls V.prog 40 #[gV H a m,gV H q k] w (fi λv g=>v=.bool true/\Ext w g):=by
 refine Fc Tryz.func40 Tryz.ntmps40 (dM.seq dj ?_);refine ej λu F r K n=>ej λL s G M y=>?_;have N:=r.trans G;have n:=G.at_ n;refine dM.ij (dM.of dj (cu (cr n rfl) (cS (cu (cr y rfl) (cS (fD (lx (by simp) ?_)))))));refine dM.ij (dM.of dj ?_);refine fW H.doors.length (λc (_:Unit)=>[(2,cM F),(3,cM s),(5,i64 c)]) (λc _ g=>Ext L g) () ⟨by trivial,Ext.refl _⟩ ?_;rintro c _ I W e;have l:=N.trans e;refine cu (cr (e.at_ n) rfl) (cS (du ⟨λd=>?_,λO=>?_⟩));have d:c<H.doors.length:=by simpa using d
 obtain⟨b,o,z,P,Q,i⟩:=J c d;obtain⟨R,S,t,A,B,C⟩:=x c d;subst z t
 have T:∀{g} (h:Ext I g),∀j v,(dL H.doors[c])[j]? =some v->g.cell? (cY b (o+c*3+j))=some v:=λh j v f=>by
  match j,f with
  |0,f=>cases f;exact(l.trans h).cell P
  |1,f=>cases f;exact(l.trans h).cell Q
  |2,f=>cases f;exact(l.trans h).cell i
 have D:∀{g} (h:Ext I g),∀j v,(dL H.doors[c])[j]? =some v->g.cell? (cY R (S+c*3+j))=some v:=λh j v f=>by
  match j,f with
  |0,f=>cases f;exact(l.trans h).cell A
  |1,f=>cases f;exact(l.trans h).cell B
  |2,f=>cases f;exact(l.trans h).cell C
 exact cX cV (cK (cr (e.at_ n) rfl) (gE c 3 d (dx (.agg (dL H.doors[c]).toArray) (λu r=>dJ (vs:=dL H.doors[c]) (T r) qm) (cK (cr (e.at_ y) rfl) (gE c 3 d (dx (.agg (dL H.doors[c]).toArray) (λu r=>dJ (vs:=dL H.doors[c]) (D r) qm) (dx (.bool false) (λu _=>⟨_,u,TX _,rfl,Ext.refl _⟩) λX U=>lx rfl (cF ⟨d,(),by trivial,e.trans U⟩))))))));refine dM.jN (l0:=[(2,cM F),(3,cM s)]) (by trivial) (dM.ij (rF.start (rF.Nv 41 dj ?_)));have p:=e.at_ n;have i:=e.at_ y;refine cu (cr p rfl) (cu (cr i rfl) (ff (jZ (decide_eq_true rfl) ?_)));refine cu (cr p rfl) (cu (cr i rfl) (ff (jZ (decide_eq_true rfl) ?_)));refine cu (cr p rfl) (cu (cr i rfl) (ff (jZ (decide_eq_true rfl) ?_)));refine cu (cr p rfl) (cu (cr i rfl) (ff (jZ (decide_eq_true rfl) ?_)));refine cu (cr p rfl) (cu (cr i rfl) (ff (jZ (decide_eq_true rfl) ?_)));exact cu (cr p rfl) (cu (cr i rfl) (ff (rF.fin (dM.of dj ⟨_,rfl,cT Value.bool (decide_eq_true rfl),l⟩))))
variable{G:Gd}{da:Option Addr}{dc:Nat}{w:cn}
section
variable{G:Gd}{da:Option Addr}{dc:Nat}{w:cn}
end
def gU.at{d:List cz}(h:gU m w x d)(i:k<d.length):∃b c a e,x=.slice (some ⟨b,0,none⟩) d.length c/\w.cell? ⟨b,k,none⟩=some (.slice a d[k].length e)/\fE m w (.slice a d[k].length e) d[k]/\fN w a d[k]/\d[k].length<=e:=by obtain⟨r,⟨s,⟨t,rfl⟩|⟨b,c,v,y,rfl,j,z,A,B,l,C⟩⟩,D,f⟩:=h;omega;obtain⟨u,n,g⟩:=f k i;obtain⟨o,e,rfl,p,q⟩:=g.row;exact⟨b,c,o,e,rfl,cr j (by rw[l k (by omega)];exact n),g,p,q⟩
section
variable{G:Gd}{da:Option Addr}{dc:Nat}{w:cn}
end
def A7(b:Nat)(a:Int)(l:cz)(v:cq)(w:cn):Prop:=(a≠0/\v=.tuple #[.slice none 0 0,.int .i64 a])\/(a=0/\∃u,v=.tuple #[u,.int .i64 0]/\fE b w u l)
section
variable{G:Gd}{da:Option Addr}{dc:Nat}{w:cn}{l:List Tq}{la:Option Addr}{lc:Nat}
end
section
variable{G:Gd}{da:Option Addr}{dc:Nat}{w:cn}{l:List Tq}{la:Option Addr}{lc:Nat}
end
variable{G:Gd}{da:Option Addr}{dc:Nat}{w:cn}
section
variable{G:Gd}{da:Option Addr}{dc:Nat}{w:cn}{l:List Tq}{la:Option Addr}{lc:Nat}
end
section
variable{G:Gd}{da:Option Addr}{dc:Nat}{w:cn}{l:List Tq}{la:Option Addr}{lc:Nat}
end
section
variable{x y:dw}{w:cn}
end
def ir.ext{c:Type}{f:c->dr}{l:List c}(h:ir f m w a l)(e:Ext w t):ir f m t a l:=λk d=>by obtain⟨b,o,g,i⟩:=h k d;exact⟨b,o,g,λj v n=>e.cell (i j v n)⟩
def Hj{a:Type}(f:a->dr)(n b:Nat)(w:cn)(l:List a):Prop:=∀k (h:k<l.length),∀j v,(f l[k])[j]? =some v->w.cell? ⟨b,0+k*n+j,none⟩=some v
def Hj.of{a:Type}{f:a->dr}{l:List a}{t:cw}(b:∀x,(f x).length=m)(c:w.heap[k]? =some (.cells (l.flatMap f).toArray t)):Hj f m k w l:=λd e j v g=>by refine cr c ?_;rw[cG];simpa using pX b l d e j v g
def Hj.ext{a:Type}{f:a->dr}{l:List a}(h:Hj f m k w l)(e:Ext w t):Hj f m k t l:=λb c j v d=>e.cell (h b c j v d)
def Cf{a:Type}(f:a->cq)(b:Nat)(w:cn)(l:List a):Prop:=∀k (h:k<l.length),w.cell? ⟨b,0+k,none⟩=some (f l[k])
def Cf.of{a:Type}{f:a->cq}{l:List a}{t:cw}(b:w.heap[m]? =some (.cells (l.map f).toArray t)):Cf f m w l:=λk c=>by refine cr b ?_;rw[cG];simp[c]
def Cf.ext{a:Type}{f:a->cq}{l:List a}(h:Cf f m w l)(e:Ext w t):Cf f m t l:=λk b=>e.cell (h k b)
structure Kd(w:cn)(a:Option Addr)(c:Nat)(l:List Int):Prop where
 row:gF w a l
 len:l.length<=21
 cap:l.length<=c
theorem Kd.ext{l:gC}(h:Kd w a m l)(e:Ext w t):Kd t a m l:=⟨h.row.ext e,h.len,h.cap⟩
structure NH(w:cn)(da:Option Addr)(G:Gd):Prop where
 row:fZ w da G.doors
 len:G.doors.length<=20
theorem NH.ext(h:NH w a H)(e:Ext w t):NH t a H:=⟨h.row.ext e,h.len⟩
def NI:Calls V.prog 76 #[gV H a m] w (fi λv b=>v=.bool (decide (20<H.doors.length))/\Ext w b):=by refine gd Tryz.func76 Tryz.ntmps76 ?_;refine ej λf g c d e=>cu (cr e rfl) (cS (lZ ⟨_,rfl,cT Value.bool ?_,c⟩));rw[Bool.eq_iff_iff];simp only[decide_eq_true_iff];omega
section
variable{G:Gd}{L:Nat->Nat}
end
section
variable{G:Gd}{xs:List Sx}
end
section
variable{G:Gd}{xs:List Sx}{f:Nat}{ps:List (Nat×List Nat)}
end
section
variable{H G:Gd}{ns:List Nat}
section
variable{xs ys:List Sx}{S:List Nat}{f:Nat}
end
end
section
variable{G:Gd}{l:List Ty}{s f:Nat}{S:List Nat}
end
theorem ml.keep{d:List (Nat×cz)}(h:ml m w x d)(e:cW A w t)(a:∀b,m<=b->¬A b):ml m t x d:=by obtain⟨i,j,f,l⟩:=h;exact⟨i,j,cR.keep f e λb c=>a b (cR.blk f c).1,λk n=>by obtain⟨u,o,g⟩:=l k n;exact⟨u,o,cR.keep g e λb c=>a b (cR.blk g c).1⟩⟩
def DE.own(h:DE m w t)(k:cW (cH x) t e)(c:∀a,cH x a->w.heap.size<=a):DE m w e:=
 ⟨(h.1.trans k (H:=λa=>a=m\/w.heap.size<=a) (λ_ _ h=>.inl h) λa _ b=>.inr (c a b)).trans (cW.refl (λ_=>False) _) (λa b h=>h.elim id λh=>by omega) λ_ _ h=>h.elim,λd=>(h.2 d).keep k λa b=>by have:=c a b;have:=d.lt;omega⟩
structure zI(t0:cw)(n0:Nat)(a b:cn):Prop where
 k:cW (λx=>n0<=x) a b
 p:∀(x:Nat) cs t,t≠t0->a.heap[x]? =some (.cells cs t)->b.heap[x]? =some (.cells cs t)
 q:∀(x:Nat) cs,a.heap[x]? =some (.cells cs t0)->∃rI:Array cq,b.heap[x]? =some (.cells rI t0)/\rI.size=cs.size
abbrev NJ:=zI 24
def Vz(j:cw)(l:Nat):fJ (zI j l):=
 ⟨λw=>⟨cW.refl _ w,λ_ _ _ _ h=>h,λ_ d h=>⟨d,h,rfl⟩⟩,λa b c h k=>⟨h.k.trans k.k (λ_ _ h=>h) λ_ _ h=>h,λx d t i e=>k.p x d t i (h.p x d t i e),λx d e=>by obtain⟨f,m,n⟩:=h.q x d e;obtain⟨g,o,r⟩:=k.q x f m;exact⟨g,o,r.trans n⟩⟩,λw=>⟨(Ext.drew w).keep _,λx d t _ e=>(Ext.drew w).at_ e,λx d e=>⟨d,(Ext.drew w).at_ e,rfl⟩⟩⟩
def VA(a:Nat):fJ (NJ a):=Vz 24 a
def Ext.eu(h:Ext w t)(c:cw)(d:Nat):zI c d w t:=⟨h.keep _,λx b e _ a=>h.at_ a,λx b a=>⟨b,h.at_ a,rfl⟩⟩
def Ext.et(h:Ext w t)(a:Nat):NJ a w t:=h.eu 24 a
def cR.et(h:cR k U M w x i Y)(e:zI T m w t)(f:U≠T):cR k U M t x i Y:=by obtain⟨a,h|⟨b,c,d,g,j,l,n⟩⟩:=h;exact⟨a,.inl h⟩;exact⟨a,.inr ⟨b,c,d,g,j,e.p b d U f l,n⟩⟩
theorem zI.ext(h:zI T m w t)(a:w.heap.size<=m):Ext w t:=h.k.ext λx b=>by omega
def qu{b:Type}(f:cn->ek->List b->Prop)(l:List b)(e:Int)(u:cq)(w:cn):Prop:=∃a c,u=.tuple #[.slice a l.length c,.int .i64 e]/\f w a l
def uI{b:Type}(f:cn->ek->List b->Prop)(l:List b)(u:cq)(w:cn):Prop:=∃a c,u=.slice a l.length c/\f w a l
section
variable{w:cn}{kx:cq->Prop}{kr kp kl:gy->Prop}{lb ea:Bool}
def zJ{a:dr}(b:∀j v,a[j]? =some v->w.cell? ⟨m,o+j,none⟩=some v)(k:kx (.agg a.toArray))(c:Ec T=some true:=by rfl)(d:NX T=some a.length:=by rfl):vS Ext Ext w (λf g=>jj V.prog (Instr.loadAt T (.pointer (some ⟨m,o,none⟩))) f g) kx kr kp lb kl ea:=
 .exact _ (λ_ e=>dJ (λj v h=>e.cell (b j v h)) qm c d) k
def NK{a:ek}(b:w.heap[k]? =some (.cells (gL H a m).toArray 24))(c:kx (gV H a m)):vS Ext Ext w (λd f=>jj V.prog (Instr.loadAt 24 (.pointer (some ⟨k,0,none⟩))) d f) kx kr kp lb kl ea:=
 .exact _ (λ_ e=>dA (e.at_ b) qm) c
def Cg{x y:dw}{m:Int}{a:IntKind}(h:kx (.bool false)):vS Ext Ext w (λb f=>jj V.prog (do eqGuard .neq T x y (.int a m) (.int a m);binOp .neq T (.int a m) (.int a m)) b f) kx kr kp lb kl ea:=
 .exact _ (λ_ _=>fD ⟨cT Value.bool (by simp),Ext.refl _⟩) h
end
def Ext.cl{w a:cn}{b:dr}(e:Ext w a)(h:∀j v,b[j]? =some v->w.cell? ⟨m,o+j,none⟩=some v):∀j v,b[j]? =some v->a.cell? ⟨m,o+j,none⟩=some v:=λj v k=>e.cell (h j v k)
def Fy{l:gC}{c a:ek}{w:cn}(e:gF w c l)(d:gF w a l)(b:l.length<=100000):Calls V.prog 58 #[.slice c l.length m,.slice a l.length k] w (fi λv f=>v=.bool true/\Ext w f):=by have:=yF l l c a m k w e d b;simpa using this
section
variable{α:Type}{f:cn->Option Addr->List α->Prop}{l:List α}{A:Int}
def qu.st(d:∀{w c:cn} {a:ek} {l:List α},f w a l->Ext w c->f c a l):∀v a b,qu f l A v a->Ext a b->qu f l A v b:=λ_ _ _ ⟨x,y,g,h⟩ e=>⟨x,y,g,d h e⟩
def uI.st(d:∀{w c:cn} {a:ek} {l:List α},f w a l->Ext w c->f c a l):∀v a b,uI f l v a->Ext a b->uI f l v b:=λ_ _ _ ⟨x,y,g,h⟩ e=>⟨x,y,g,d h e⟩
def qu.cs{v:cq}{w:cn}{P:cq->Prop}(h:qu f l A v w)(k:∀x y,f w x l->P (.tuple #[.slice x l.length y,.int .i64 A])):P v:=by obtain⟨x,y,rfl,h⟩:=h;exact k x y h
end
def Sn{n0 g:Nat}{w:cn}{k:cU}{n:dU}{v:cq}(d:dr)(o:w.heap[g]? =some (.cells n T))(f:n.size=d.length)(p:n0<=g)(r:∀i,zI T n0 w i->i.heap[g]? =some (.cells d.toArray T)->k i)(m:v.cells=d.toArray:=by rfl)(s:ri d=true:=by rfl)(u:NX T=some d.length:=by rfl):DO V.prog (Instr.storeAt T (.pointer (some ⟨g,0,none⟩)) v) w k:=by refine iT o (by rw[m];simp[f]) (λi q y=>?_) (by rw[m];exact fK s) (by rw[m];exact u);have c:sd i g d.toArray T:=y.trans (cT (λa=>some (Obj.cells a T)) (by rw[m];exact dC n d f));refine r i ⟨q.trans (cW.refl (λ_=>False) _) (λx _ b=>by subst b;exact p) λ_ _ h=>h.elim,λx j t z b=>q.fe b λe=>?_,λx j b=>?_⟩ c;subst e;exact fS b o z;by_cases l:x=g;subst l;rw[o]at b;injection b with b;injection b with b;subst b;exact⟨_,c,by simp[f]⟩;exact⟨j,q.fe b l,rfl⟩
def N5(b:Nat)(s:Int)(u:cq)(w:cn):Prop:=∃a f g,u=.slice (some ⟨a,0,none⟩) 4 4/\a≠b/\w.heap[a]? =some (.cells [.int .i64 s,.int .i64 f,.int .i64 g,.int .i64 s].toArray 3)
def N5.de{s:Int}(u:cq)(a b:cn)(h:N5 m s u a)(e:DE m a b):N5 m s u b:=by obtain⟨d,f,g,i,c,j⟩:=h;exact⟨d,f,g,i,c,e.1.fe j c⟩
def Kt(a:Int)(l:cz):gC:=if a=0 then pI l else []
def A7.res{b:Int}{l:cz}{v:cq}{w:cn}(h:A7 m b l v w):qu gF (Kt b l) b v w:=by unfold Kt;rcases h with⟨c,rfl⟩|⟨c,u,rfl,e⟩;rw[cy c];exact⟨none,0,rfl,λk f=>by simp at f⟩;rw[cB c,c];obtain⟨a,d,rfl,g,_⟩:=e.row;exact⟨a,d,by simp[pI],g.ints⟩
def Ci(A:Int)(u:cq)(_:cn):Prop:=u=.int .i64 A
def Ci.st{A:Int}:∀v a b,Ci A v a->Ext a b->Ci A v b:=λ_ _ _ h _=>h
def Ux{R:gy}{w:cn}:∀a,Ext w a->∀u,R u a->R u a/\Ext a a:=λ_ _ _ h=>⟨h,Ext.refl _⟩
def Ce{n:Nat}{l:cz}(a:l.Pairwise (·<·))(e:n<=5)(b:∀d∈l,d<n):l.length<=5:=by
 have h:∀d∈l,d<5:=λd c=>by have:=b d c;omega
 rw[<-Fg a h];exact l5 (io l) 5
def TY:∀s:Nat,s<32->io (fl s)=s:=by decide+kernel
def zz(n:Nat)(p:Nat->Bool):((List.range n).filter p).Pairwise (·<·):=List.Pairwise.filter _ List.pairwise_lt_range
section
variable{G:Gd}{da:Option Addr}{dc:Nat}{w:cn}{la:Option Addr}{lc:Nat}
def oI(G:Gd)(l:gC):cz:=(List.range G.doors.length).filter λi:Nat=>RM i l
def Ke{l:gC}:∀d∈oI G l,d<G.doors.length:=λd a=>gR.1 (xq.1 a).1
def Ra{l:cz}(g:G.doors.length<=5)(c:∀d∈l,d<G.doors.length):oI G (pI l)=fl (io l):=by
 have a:∀d∈l,d<5:=λd f=>by have:=c d f;omega
 refine Ks (zz _ _) (List.Pairwise.filter _ List.pairwise_lt_range) λx=>?_;rw[Q9,oI,xq,gR,TV,iQ];constructor;rintro⟨e,b⟩;exact⟨by omega,(Ka a (by omega)).2 b⟩;rintro⟨e,b⟩;have:=(Ka a e).1 b;exact⟨c x this,this⟩
def Fu{l:cz}(c:G.doors.length<=5)(b:∀d∈l,d<G.doors.length):io (oI G (pI l))=io l:=by
 have a:∀d∈l,d<5:=λd e=>by have:=b d e;omega
 rw[Ra c b];exact TY _ (NT a)
def A8{l:List Int}(q:G.doors.length<=100000)(s:gF w la l)(t:l.length<=100000):Calls V.prog 149 #[gV G da dc,.slice la l.length lc] w (fi λv c=>Ext w c/\fE w.heap.size c v (oI G l)):=by
 refine gd Tryz.func149 Tryz.ntmps149 ?_;refine ej λr u g x j=>?_;refine fW G.doors.length (λk v=>[(1,.slice la l.length lc),(2,cM u),(5,v),(6,i64 k)]) (λk v c=>Ext r c/\fE r.heap.size c v ((List.range k).filter λi:Nat=>RM i l)) (.slice none 0 0) ⟨by trivial,Ext.refl _,cR.nil _ _ _ _⟩ ?_;rintro k v y E ⟨a,e⟩;refine cu (cr (a.at_ j) rfl) (cS (du ⟨λm=>?_,λn=>?_⟩));have d:k<G.doors.length:=by simpa using m
 have z:((List.range k).filter λi:Nat=>RM i l).length<=k:=cZ (List.length_filter_le _ _) (by simp);have f:(List.range (k+1)).filter (λi:Nat=>RM i l)=(List.range k).filter (λi:Nat=>RM i l)++if RM k l then [k]else []:=by rw[oO,List.filter_append,List.filter_cons];cases RM k l<;>rfl
 refine dg (Hb l k la lc y (s.ext (g.trans a)) t) (yz ⟨λh=>?_,λh=>?_⟩);rw[Cc]at h;rw[h,cB rfl]at f;refine eg [i64 k] 3 λF H o A p=>gq sg (cR.ext e o) (a.trans o).size p (by omega) λB I C D _=>cF ⟨d,B,by trivial,(a.trans o).yR D λb j=>(cR.blk e j).1,?_⟩;rw[f];unfold fE;rw[jA];simpa[jy]using C;rw[Cc]at h;rw[h,cy Bool.false_ne_true,List.append_nil]at f;exact cF ⟨d,v,by trivial,a,by rw[f];exact e⟩;obtain rfl:k=G.doors.length:=by simp at n;omega
 exact⟨_,rfl,g.trans a,e.low g.size⟩
def uG(I:dK G=0)(D:fZ w da G.doors){l:List Nat}(hr:fN w la l)(X:l.Pairwise (·<·))(J:∀d∈l,d<G.doors.length)(hc:l.length<=lc):
 Calls V.prog 148 #[gV G da dc,.slice la l.length lc] w (fi λv E=>Ext w E/\fE w.heap.size E v (dX G (io l))):=by
 have Y:=eQ I;have K:=Y.many;have o:=Ce X K J;refine gd Tryz.func148 Tryz.ntmps148 ?_;refine ej λZ gb L aa hb=>cD (zK l.length l la lc Z rfl o (hr.ext L) hc) ?_;rintro v F ⟨e2,x⟩;have E2:=L.trans e2;have M:=e2.at_ hb;obtain⟨f,i⟩:∃f,f=zA l:=⟨_,rfl⟩;have x:gU Z.heap.size F v f:=by rw[i];exact x
 have y:0<f.length:=by rw[i];exact Q4 _ l rfl
 have N:f.length<=3125:=by rw[i];exact cZ (uC l.length l o) (cZ (Nat.pow_le_pow_right (by omega) o) (by decide))
 have j:∀r∈f,(∀d∈r,d<G.doors.length)/\r.length<=1000:=λr h=>by rw[i]at h;exact⟨IF J r h,by have:=zy _ l rfl r h;omega⟩
 have O:∀r∈f,0<=GG G r:=λr h=>(tj (uf Y) r).1;have z:∀{b},uE G f f.length b->f.getD b []=dX G (io l):=λh=>by rw[i]at h⊢;exact h.fin X (λd D=>by have:=J d D;omega) o
 clear i;obtain⟨a,c,rfl,_,_⟩:=x.row;refine fW (f.length-1) (λk (b:Nat)=>[(2,cM gb),(5,.slice a f.length c),(6,i64 b),(7,i64 ((k+1:Nat):Int))]) (λk b E=>Ext F E/\uE G f (k+1) b) 0 ⟨by trivial,Ext.refl _,uE.init y⟩ ?_;rintro k b w3 hk ⟨n,H⟩;have m:=H.1;have s:f.getD b []=f[b]:=by rw[jG,eV m];rfl
 obtain⟨b1,c1,a8,c8,e,p,P,Q,_⟩:=x.at m;cases e;have A:=n.at_ M;have R:=E2.trans n;have p:F.cell? ⟨b1,0+b,none⟩=some (.slice a8 f[b].length c8):=by rw[cG];exact p
 refine cS (du ⟨λS=>?_,λT=>?_⟩);have q:k+1<f.length:=by have:=dO S;omega
 obtain⟨ab,ac,a7,c7,e,u,ad,U,_⟩:=x.at q;cases e;have u:F.cell? ⟨b1,0+(k+1),none⟩=some (.slice a7 f[k+1].length c7):=by rw[cG];exact u
 have B:=j _ (ef q);have C:=j _ (ef m);have g:=H.step q O;rw[s]at g;refine cX cV ?_;refine NK A<|iK (k+1) q<|cK (n.cell u) ?_;refine fh _ (λw4 t=>Kk (dc:=dc) I (D.ext (R.trans t)) (U.ext (n.trans t)) B.1 B.2) ?_;refine NK A<|iK b m<|cK (n.cell p) ?_;refine fh _ (λw4 t=>Kk (dc:=dc) I (D.ext (R.trans t)) (Q.ext (n.trans t)) C.1 C.2)<|Mk λw4 t=>⟨λh=>?_,λh=>?_⟩;rw[cB (dO h)]at g;exact cF ⟨by omega,k+1,by trivial,n.trans t,g⟩;rw[cy (ee h)]at g;exact cF ⟨by omega,b,by trivial,n.trans t,g⟩;have W:k+1=f.length:=by have:=ee T;omega
 rw[W]at H;have hS:=z H;rw[s]at hS;refine fw b m (cu (n.cell p) ⟨_,rfl,R,?_⟩);rw[<-hS];exact(fE.low P L.size).ext n
def Fv{l:List Int}(z:fZ w da G.doors)(d:G.doors.length<=100000)(A:gF w la l)(J:l.length<=1000)(m:l.length<=lc):
 Calls V.prog 91 #[gV G da dc,.slice la l.length lc] w (fi λv B=>Ext w B/\A7 w.heap.size (my G l) (dX G (io (l.map Int.toNat))) v B):=by
 refine gd Tryz.func91 Tryz.ntmps91 ?_;refine ej λg K j F C=>dA C (dG (ww (dc:=dc) (z.ext j) d (A.ext j) (by omega) m) λn o=>fD ⟨λh=>?_,λh=>?_⟩);exact⟨_,rfl,j.trans o,.inl ⟨dO h,rfl⟩⟩;have h:my G l=0:=by simpa using h
 obtain⟨D,_,p,rfl,H,E,q⟩:=tA h;have r:=(eQ D).many;have i:=o.at_ C;have k:=j.trans o;rw[H,<-Fu r q];refine cX cV ?_;refine NK i<|NK i ?_;refine .rel (λu g=>fE n.heap.size g u (oI G (pI p))) (λu a b h e=>cR.ext h e) (λs f=>cD (A8 (da:=da) (dc:=dc) d (A.ext (k.trans f)) (by omega)) λu I ⟨t,x⟩=>⟨x.low f.size,t⟩) ?_;refine .rel (λu g=>fE n.heap.size g u (dX G (io (oI G (pI p))))) (λu a b h e=>cR.ext h e) (λs f u y=>?_) ?_;obtain⟨a,c,rfl,E,m⟩:=y.row;exact cD (uG (dc:=dc) D (z.ext (k.trans f)) E (zz _ _) Ke m) λu I ⟨t,x⟩=>⟨x.low f.size,t⟩;refine .rel (λu g=>fE n.heap.size g u (dX G (io (oI G (pI p))))) (λu a b h e=>cR.ext h e) (λs f=>?_) ?_
 ·repeat intro _
  exact⟨by assumption,Ext.refl _⟩
 intro s f u y;repeat intro _
 exact⟨_,rfl,k.trans f,.inr ⟨h,u,rfl,y.low k.size⟩⟩
def Fw{l:List Int}(t:fZ w da G.doors)(m:G.doors.length<=100000)(E:gF w la l)(J:l.length<=1000)(K:l.length<=lc):
 Calls V.prog 66 #[gV G da dc,.slice la l.length lc] w (fi λv F=>Ext w F/\A7 w.heap.size (my G l) (dX G (io (l.map Int.toNat))) v F):=by
 refine gd Tryz.func66 Tryz.ntmps66 ?_;refine ej λT U j L x=>dA x (cD (yG (dc:=dc) (t.ext j) m (E.ext j) (by omega) K) ?_);rintro v M ⟨y,⟨f,rfl⟩|⟨f,W,mk,X,rfl,z⟩⟩;have e:my G l=dK G:=by simp[my,f]
 exact fD (jZ (by simpa using f) ⟨_,rfl,j.trans y,.inl ⟨by rw[e];exact f,by rw[e];rfl⟩⟩);have e:my G l=ig G.doors.length l:=by simp[my,f]
 refine fD ⟨λh=>?_,λh=>?_⟩;have h:¬ig G.doors.length l=0:=dO h;exact⟨_,rfl,j.trans y,.inl ⟨by rw[e];exact h,by rw[e];rfl⟩⟩;have h:my G l=0:=by rw[e];simpa using h
 obtain⟨_,_,k,rfl,N,O,p⟩:=tA h;have A:=(eQ f).many;have q:=j.trans y;have B:=(E.ext q).En;rw[N];rw[O]at J⊢;have i:=nP.io (G:=G) A (l:=k) p;refine dg (rS k la lc M B (λd t=>by have:=p d t;omega) (by omega)) (cD (Ez (n0:=w.heap.size) z.g (λb x=>x.elim) z.Uw (by have:=z.lo;have:=j.size;omega) i.1 i.2) ?_);rintro _ H ⟨P,_,a,c,rfl,C,Q⟩;have I:Ext w H:=P.from q (cJ _);have r:=C.n;refine cD (Mv a (dX G (io k)).length c (jy (dX G (io k))) H (by simp[jy]) (λh=>?_) r.cells (Ek _) ?_) ?_;rcases mY (dX G (io k)).length with D|D;exact D;obtain⟨b,o,f,_⟩:=r 0 D;rw[h]at f;cases f;have:=ut (G:=G) (s:=io k);omega;rintro u Y ⟨R,S⟩;exact⟨_,rfl,I.trans R,.inr ⟨h,u,rfl,S.low I.size⟩⟩
end
def Kf(d:Nat)(w:cn)(v:cq)(c:List cz):Prop:=∃a:dr,cR d 27 [.slice none 0 0] w v c.length a/\a.length=c.length/\(∀k (h:k<c.length),∃u,a[k]? =some u/\fE d w u c[k])/\∀(i j:Nat) (u e:cq) (b:Nat),a[i]? =some u->a[j]? =some e->cH u b->cH e b->i=j
def Kf.own{a:List cz}(h:Kf m w x a):gU m w x a:=by obtain⟨b,c,d,e,_⟩:=h;exact⟨b,c,d,e⟩
theorem Kf.ext{a:List cz}(h:Kf m w x a)(e:Ext w t):Kf m t x a:=by obtain⟨b,c,d,f,g⟩:=h;refine⟨b,c.ext e,d,λk i=>?_,g⟩;obtain⟨u,j,l⟩:=f k i;exact⟨u,j,cR.ext l e⟩
def P1{d:nd}{U:Array Bool}{o n1:Nat}{e:List cz}(G:cR o 27 [.slice none 0 0] w x e.length M)(O:M.length=e.length)(W:∀d (h:d<e.length),∃y,M[d]? =some y/\fE o w y e[d])(H:∀(i j:Nat) (y P:cq) (m:Nat),M[i]? =some y->M[j]? =some P->cH y m->cH P m->i=j)(I:o<=w.heap.size)(f:∀y∈M,∀m,cH y m->m<n1)(J:fE o w y l)(p:∀m,cH y m->n1<=m)(X:w.heap[m]? =some (.cells [y].toArray 27))(q:e.length+1<=1000000) (C:∀D r,Kf o r D (e++[l])->cW (cH x) w r->d D r):zV V.prog (builtin .append #[66,66] T U #[x,.slice (some ⟨m,0,none⟩) 1 k]) w d:=by
 have s:y.oneCell'=true:=by obtain⟨a,k,rfl,_⟩:=J.row;rfl
 refine gq Pi G I X q (λD r Y K g3=>C D r ⟨M++[y],by simpa using Y,by simp[O],λi t=>?_,λi j E Q m t u L N=>?_⟩ K) rfl (by simp[ri,s]);rcases fj i e.length with v|Z;obtain⟨E,H,R⟩:=W i v;refine⟨E,by rw[nT (by omega)];exact H,?_⟩;rw[nU v];exact R.keep K (kN R G (by decide));obtain rfl:i=e.length:=by simp at t;omega
 refine⟨y,by rw[oM (by omega)];simp[O],?_⟩;simp only[vA (cJ _),mZ,oN];exact J.keep K (kN J G (by decide));have b:=(iI.1 t).1;have c:=(iI.1 u).1;simp only[jA,eI,fB]at b c;have g:∀{d:Nat} {z:cq},d<M.length->(M++[y])[d]? =some z->M[d]? =some z:=λC A=>by rwa[nT C]at A
 have n:∀{d:Nat} {z:cq},¬d<M.length->(M++[y])[d]? =some z->z=y/\d=M.length:=λ{d z} C A=>by
  have hl:=(iI.1 A).1;simp only[jA,eI,fB]at hl;obtain rfl:d=M.length:=by omega
  simp at A;exact⟨A.symm,rfl⟩
 by_cases S:i<M.length;have F:=g S t;by_cases B:j<M.length;exact H i j E Q m F (g B u) L N;obtain⟨rfl,_⟩:=n B u;have:=f E (vD F) m L;have:=p m N;omega;obtain⟨rfl,F⟩:=n S t;by_cases B:j<M.length;have:=f Q (vD (g B u)) m N;have:=p m L;omega;rw[F,(n B u).2]
end Go.Proofs.W
variable{S:cn->Prop}
namespace Go.Proofs.W
open Go.RowKit
def Vy(h:cR m U [z] w (.slice (some ⟨j,0,none⟩) k o) k M)(H:i<k)(e:x.cells=#[x])(s:x.oneCell'=true)(t:∀b,cR m U [z] b (.slice (some ⟨j,0,none⟩) k o) k (M.set i x)->cW (λl=>l=j) w b->S b)(u:NX T=some 1:=by rfl):DO V.prog (Instr.storeAt T (.pointer (some ⟨j,0+i,none⟩)) x) w S:=by obtain⟨n,⟨I,_⟩|⟨v,J,p,y,U,A,q,B,C,D,E⟩⟩:=h;omega;injection U with U _ F;obtain rfl:j=v:=cT Addr.block (cO U);subst F;simp only[eI,fB,oi,cG]at n q;refine iT A (by rw[e];show 0+i+1<=_;omega) (λb G g=>t b ⟨by simpa using n,.inr ⟨j,o,p.setIfInBounds i x,y,rfl,?_,by simpa using q,B,C,λf c=>?_,λf c d=>?_⟩⟩ G) (λl r=>by rw[e]at r;rw[iJ.1 r];exact s) (by rw[e];exact u);rw[g,e];show some (Obj.cells (p.setIfInBounds (0+i) _) _)=_;rw[cG];rw[xp]at c;by_cases a:i=f;subst a;rw[kI (by omega),List.getElem?_set_self (by omega)];rw[eo a,List.getElem?_set_ne a];exact D f c;rw[xp]at c;rw[Array.size_setIfInBounds]at d;rw[eo (by omega)];exact E f c d
def Yr(h:cR m 27 [.slice none 0 0] w (.slice (some ⟨j,0,none⟩) k o) k M)(c:i<k)(d:∃a l o,x=.slice a l o)(e:∀b,cR m 27 [.slice none 0 0] b (.slice (some ⟨j,0,none⟩) k o) k (M.set i x)->cW (λf=>f=j) w b->S b):DO V.prog (Instr.storeAt 27 (.pointer (some ⟨j,0+i,none⟩)) x) w S:=by obtain⟨a,l,g,rfl⟩:=d;exact Vy h c rfl rfl e
def Kh(o:Option (List cz))(a:Nat)(u:cq)(w:cn):Prop:=∀D,o=some D->gU a w u D
def Ko(o:Option (List cz))(a:Nat)(v:cq)(w:cn):Prop:=∃u,v=.tuple #[u,.bool o.isSome]/\Kh o a u w
def Kh.st{o:Option (List cz)}{c:Nat}:∀v a b,Kh o c v a->Ext a b->Kh o c v b:=λ_ _ _ h e D d=>(h D d).ext e
theorem Ko.st{o:Option (List cz)}{c:Nat}:∀v a b,Ko o c v a->Ext a b->Ko o c v b:=λ_ _ _ ⟨u,d,f⟩ e=>⟨u,d,Kh.st _ _ _ f e⟩
def Ko.cs{o:Option (List cz)}{a:Nat}{P:cq->Prop}(h:Ko o a x w)(k:∀u,Kh o a u w->P (.tuple #[u,.bool o.isSome])):P x:=by obtain⟨u,rfl,h⟩:=h;exact k u h
def VB(A:Bool)(u:cq)(_:cn):Prop:=u=.bool A
def VB.st{A:Bool}:∀v a b,VB A v a->Ext a b->VB A v b:=λ_ _ _ h _=>h
theorem Kh.low{o:Option (List cz)}{a b:Nat}(h:Kh o a x w)(c:b<=a):Kh o b x w:=λD d=>(h D d).low c
section
variable{G:Gd}{da:Option Addr}{dc:Nat}
def Ki(a:G.Ok){g:cz}(b:∀d∈g,d<G.doors.length):(∀d∈dX G (io g),d<G.doors.length)/\(dX G (io g)).length<=1000:=by have h:=(pi a (io g)).1;have c:=nP.io (G:=G) a.many (l:=g) b;exact⟨λd e=>c.2 d (h.mem_iff.1 e),by have:=ut (G:=G) (s:=io g);omega⟩
def R4{n:List cz}{d i:Nat}{r:cz}(l:(d::r).Pairwise (·<·))(h:∀g∈n,g.Pairwise (·<·)/\∀x∈g,∀y∈d::r,x<y):∀g∈jb n d i,g.Pairwise (·<·)/\∀x∈g,∀y∈r,x<y:=by have j:=List.pairwise_cons.1 l;unfold jb;intro g c;split at c;rename_i k;rcases tG c with c|rfl;exact⟨(h g c).1,λx e y f=>(h g c).2 x e y (iw _ f)⟩;rw[getD_eq k];have m:=h _ (ef k);refine⟨List.pairwise_append.2 ⟨m.1,List.pairwise_singleton _ _,λa l b o=>?_⟩,λx e y f=>?_⟩;rw[iJ.1 o];exact m.2 a l d iP;rcases jH.1 e with e|e;exact m.2 x e y (iw _ f);rw[iJ.1 e];exact j.1 y f;rcases jH.1 c with c|c;exact⟨(h g c).1,λx e y f=>(h g c).2 x e y (iw _ f)⟩;rw[iJ.1 c];refine⟨List.pairwise_singleton _ _,λx e y f=>?_⟩;rw[iJ.1 e];exact j.1 y f
theorem zq(hG:dK G=0)(m:Nat)(hm:m<=5):∀(l:List Nat) (a:Option Addr) (c:Nat) (gs:List (List Nat)) (gv:Value) (n0:Nat) (w:World),fZ w da G.doors->l.Pairwise (·<·)->(∀g∈gs,g.Pairwise (·<·)/\∀x∈g,∀y∈l,x<y)->(∀d∈l,d<G.doors.length)->(∀g∈gs,∀d∈g,d<G.doors.length)->gs.length<=m->fN w a l->l.length<=c->gU n0 w gv gs->Calls V.prog 152 #[gV G da dc,.slice a l.length c,gv,.int .i64 m] w (fi λv w'=>Ext w w'/\Ko (mc G m l gs) w.heap.size v w')
 |[],a,c,gs,gv,n0,w,hd,_,YM,_,YN,YW,_,_,hg=>by
  have ok:=eQ hG;refine gd Tryz.func152 Tryz.ntmps152 ?_;refine ej λw1 gb e1 Yf hb=>cS (ff (jZ (by simp) ?_));obtain⟨ga,gc,rfl,_,_⟩:=hg.row;refine fW gs.length (λk v=>[(2,.slice ga gs.length gc),(3,.int .i64 m),(4,cM gb),(10,v),(11,.int .i64 k)]) (λk v w'=>Ext w1 w'/\gU w1.heap.size w' v (wv G (gs.take k))/\∀g∈gs.take k,zE G g=true) (.slice none 0 0) ⟨⟨rfl,rfl,rfl,rfl,rfl,trivial⟩,Ext.refl _,⟨[],cR.nil _ _ _ _,rfl,λk hk=>by simp[wv]at hk⟩,λg hg=>by simp at hg⟩ ?_;rintro k v w2 hk ⟨e2,hv,hs⟩;have E2:=e1.trans e2;have De:=e2.at_ hb;refine cS (du ⟨λHJ=>?_,λVk=>?_⟩)
  ·have P6:k<gs.length:=by simpa using HJ
   obtain⟨b1,c1,a7,c7,e,YX,Y5,Wx,YY⟩:=(hg.ext E2).at P6;cases e;have Y6:=YN _ (List.getElem_mem P6);obtain⟨Zc,Zd⟩:=Ki ok Y6;have OJ:gs.take (k+1)=gs.take k++[gs[k]]:=List.take_succ_eq_append_getElem P6;refine cX cV ?_;refine NK De<|iK k P6<|cK (by rw[Nat.zero_add];exact YX) ?_;refine .rel (λu w3=>fE w1.heap.size w3 u (dX G (io gs[k]))) (λu a b h e=>cR.ext h e) (λw3 e3=>cD (uG (dc:=dc) hG (hd.ext (E2.trans e3)) (Wx.ext e3) (YM _ (List.getElem_mem P6)).1 Y6 YY) λu w4 ⟨e4,h4⟩=>⟨h4.low (e2.trans e3).size,e4⟩) ?_;refine .rel (λu w3=>fE w1.heap.size w3 u (dX G (io gs[k]))) (λu a b h e=>cR.ext h e) (λw3 e3=>?_) ?_
   ·repeat intro _
    exact⟨by assumption,Ext.refl _⟩
   intro w3 e3 u hu;repeat intro _
   obtain⟨a9,c9,rfl,Ze,Zo⟩:=hu.row;have TF:=e3.at_ De;have E3:=E2.trans e3;refine cX cV ?_;refine NK TF<|fh _ (λw4 e4=>Hf (dc:=dc) hG (hd.ext (E3.trans e4)) (Ze.ext e4) Zc Zd) ?_;refine .exact (.int .i64 (iU G (dX G (io gs[k])))) (λw1 _=>dS _ ⟨rfl,Ext.refl _⟩) (cK (cr TF rfl) (yA λw4 e4=>⟨λh2=>?_,λh2=>?_⟩))
   ·have h2:G.minutes<iU G (dX G (io gs[k])):=of_decide_eq_true h2;have hq:mc G m [] gs=none:=by
     rw[Fo,if_neg λh=>by have h:=pY.1 h.2 _ (List.getElem_mem P6);have h:iU G (dX G (io gs[k]))<=G.minutes:=of_decide_eq_true h;omega]
    rw[hq];exact⟨_,rfl,E3.trans e4,_,rfl,λD hD=>by cases hD⟩
   ·have h2:¬G.minutes<iU G (dX G (io gs[k])):=of_decide_eq_false h2;have Zp:(wv G (gs.take k)).length<=5:=by simp[wv];omega
    refine eg [.slice a9 (dX G (io gs[k])).length c9] 27 λw5 nb e5 YF Wt=>Fi (hv.ext ((e3.trans e4).trans e5)) (((e2.trans e3).trans e4).trans e5).size (cR.ext hu (e4.trans e5)) Wt (by omega) λv' w6 g1 g2 _=>cF ⟨P6,v',⟨rfl,rfl,rfl,rfl,rfl,trivial⟩,(((e2.trans e3).trans e4).trans e5).yR g2 λb hb=>(hv.blk hb).1,?_,λg hg=>?_⟩
    ·rw[OJ,wv,List.map_append];exact g1
    ·rw[OJ]at hg;rcases List.mem_append.1 hg with hg|hg
     ·exact hs g hg
     ·rw[List.mem_singleton.1 hg];exact decide_eq_true (by omega)
  ·obtain rfl:k=gs.length:=by simp at Vk;omega
   rw[List.take_length]at hv hs;refine cS (ff ⟨_,rfl,E2,v,?_,λD hD=>?_⟩)
   ·rw[Fo];by_cases h:gs.length=m
    ·rw[if_pos ⟨h,pY.2 hs⟩];simp[h]
    ·rw[if_neg λh'=>h h'.1];have h:¬(gs.length:Int)=m:=by omega
     simp[h]
   ·rw[Fo]at hD;split at hD
    ·cases hD
     exact hv.low e1.size
    ·cases hD
 |d::r,a,c,gs,gv,n0,w,hd,ha,YM,YO,YN,YW,hr,hc,hg=>by
  have ok:=eQ hG;refine gd Tryz.func152 Tryz.ntmps152 ?_;refine ej λw1 gb e1 Yf hb=>cS (ff (lx (decide_eq_false (by simp only[List.length_cons];omega)) ?_));obtain⟨ga,gc,rfl,hL,Zq⟩:=hg.row;have Y7:r.length<=4:=by have:=Ce ha ok.many YO;simp at this;omega
  have YA:∀g∈gs,g.length<=4:=λg hg=>by
   have hp:=YM g hg
   have:(g++[d]).length<=5:=Ce (n:=G.doors.length) (List.pairwise_append.2 ⟨hp.1,List.pairwise_singleton _ _,λx hx y hy=>by rw[List.mem_singleton.1 hy];exact hp.2 x hx d List.mem_cons_self⟩) ok.many λx hx=>by
    rcases List.mem_append.1 hx with hx|hx
    ·exact YN g hg x hx
    ·rw[List.mem_singleton.1 hx];exact YO d List.mem_cons_self
   simp at this;omega
  have YZ:∀{i:Nat},i=min (gs.length+1) m->(∀j,j<i->mc G m r (jb gs d j)=none)->mc G m (d::r) gs=none:=λh h2=>by rw[G9 G m d r gs YW,<-h];exact sG h2
  refine fW (min (gs.length+1) m) (λi (_:Unit)=>[(1,.slice a (d::r).length c),(2,.slice ga gs.length gc),(3,.int .i64 m),(4,cM gb),(13,.int .i64 i)]) (λi _ w'=>Ext w1 w'/\∀j,j<i->mc G m r (jb gs d j)=none) () ⟨⟨rfl,rfl,rfl,rfl,rfl,trivial⟩,Ext.refl _,λj hj=>by omega⟩ ?_;rintro i _ w2 hi ⟨e2,WU⟩;have E2:=e1.trans e2;have YG:i=min (gs.length+1) m->Ext w w2/\Ko (mc G m (d::r) gs) w.heap.size (.tuple #[.slice none 0 0,.bool false]) w2:=λh=>by rw[YZ h WU];exact⟨E2,_,rfl,λD hD=>by cases hD⟩
  refine cS (ue ⟨λhle=>du ⟨λHJ=>?_,λHJ=>?_⟩,λhle=>lx rfl ?_⟩)
  ·have Zr:i<=gs.length:=by have:=of_decide_eq_true hle;omega
   have Zs:i<m:=by have:=of_decide_eq_true HJ;omega
   have s2:=E2.size;refine fW gs.length (λk v=>[(1,.slice a (d::r).length c),(2,.slice ga gs.length gc),(3,.int .i64 m),(4,cM gb),(13,.int .i64 i),(14,v),(15,.int .i64 k)]) (λk v w'=>Ext w2 w'/\Kf w2.heap.size w' v (gs.take k)) (.slice none 0 0) ⟨⟨rfl,rfl,rfl,rfl,rfl,rfl,rfl,trivial⟩,Ext.refl _,[],cR.nil _ _ _ _,rfl,λk hk=>by simp at hk,λi j u u' b hi=>by simp at hi⟩ ?_;rintro k nv w3 hk ⟨e3,Ys⟩;refine cS (du ⟨λY0=>?_,λY1=>?_⟩)
   ·have P6:k<gs.length:=by simpa using Y0
    have E3:=E2.trans e3;obtain⟨b7,o7,a7,c7,rfl,YX,Y5,_⟩:=(hL.ext E3) k P6;have Zf:=YA _ (List.getElem_mem P6);refine eg [] 3 λw4 nb e4 YF Uu=>fw k P6 (cu (e4.cell YX) (zw [] Uu (by simp) YF rfl (Y5.ext e4) (by omega) λu w5 g1 e5=>?_));have hu:fE w3.heap.size w5 u gs[k]:=by simp only[List.length_nil,Nat.zero_add,List.nil_append]at g1;exact g1
    obtain⟨a8,c8,rfl,_,_⟩:=hu.row;obtain⟨us,h1,h2,h3,h4⟩:=Ys;have YP:=e4.trans e5;refine eg [.slice a8 gs[k].length c8] 27 λw6 Yt e6 Y2 Wv=>P1 (n1:=w3.heap.size) ((h1.ext YP).ext e6) h2 (λi hi=>by obtain⟨x,q1,q2⟩:=h3 i hi;exact⟨x,q1,cR.ext (cR.ext q2 YP) e6⟩) h4 ((e3.trans YP).trans e6).size (λx hx b hb=>?_) (cR.ext (fE.low hu e3.size) e6) (λb hb=>(cR.blk hu hb).1) Wv (by simp;omega) λv' w7 g1 g2=>cF ⟨P6,v',⟨rfl,rfl,rfl,rfl,rfl,rfl,rfl,trivial⟩,((e3.trans YP).trans e6).yR g2 λb hb=>(h1.blk hb).1,?_⟩
    ·obtain⟨i,hi,rfl⟩:=List.getElem_of_mem hx;obtain⟨x,q1,q2⟩:=h3 i (by omega);rw[List.getElem?_eq_getElem hi]at q1;rw[Option.some.inj q1]at hb;exact(cR.blk q2 hb).2
    ·rw[List.take_succ_eq_append_getElem P6];exact g1
   obtain rfl:k=gs.length:=by simp at Y1;omega
   rw[List.take_length]at Ys;refine(λ(main:∀(w4:World) (Y8:Value) (FQ:List (List Nat)),Ext w2 w4->Kf w2.heap.size w4 Y8 FQ->(∃YH:i<FQ.length,jb gs d i=FQ.set i (FQ[i]++[d])/\FQ[i].length<=4)->dM V.prog _ _ [(1,.slice a (d::r).length c),(2,.slice ga gs.length gc),(3,.int .i64 m),(4,cM gb),(13,.int .i64 i),(14,Y8)] w4 _)=>cS (ff ⟨λh=>?tagA,λh=>dM.jN (l0:=[(1,.slice a (d::r).length c),(2,.slice ga gs.length gc),(3,.int .i64 m),(4,cM gb),(13,.int .i64 i),(14,nv)]) ⟨rfl,rfl,rfl,rfl,rfl,rfl,trivial⟩ (main w3 nv gs e3 Ys ?tagB)⟩)) ?tagC;case tagA=>
    have h:i=gs.length:=Int.ofNat.inj (of_decide_eq_true h);obtain⟨us,h1,h2,h3,h4⟩:=Ys;refine eg [.slice none 0 0] 27 λw4 nb e4 YF hb=>P1 (n1:=w4.heap.size) (l:=[]) (h1.ext e4) h2 (λk hk=>by obtain⟨x,q1,q2⟩:=h3 k hk;exact⟨x,q1,cR.ext q2 e4⟩) h4 (e3.trans e4).size (λx hx b hb=>?_) (cR.nil _ _ _ _) (λb hb=>by obtain⟨_,_,hb⟩:=hb;cases hb) hb (by omega) λv' w5 g1 g2=>dM.jN (l0:=[(1,.slice a (d::r).length c),(2,.slice ga gs.length gc),(3,.int .i64 m),(4,cM gb),(13,.int .i64 i),(14,v')]) ⟨rfl,rfl,rfl,rfl,rfl,rfl,trivial⟩ (main w5 v' (gs++[[]]) ((e3.trans e4).yR g2 λb hb=>(h1.blk hb).1) g1 ⟨by simp;omega,?_,?_⟩)
    ·obtain⟨k,hk,rfl⟩:=List.getElem_of_mem hx;obtain⟨x,q1,q2⟩:=h3 k (by omega);rw[List.getElem?_eq_getElem hk]at q1;rw[Option.some.inj q1]at hb;exact Nat.lt_of_lt_of_le (cR.blk q2 hb).2 e4.size
    ·subst h;rw[jb,if_neg (by omega)];simp
    ·subst h;simp
   case tagB=>
    have h:¬i=gs.length:=λe=>of_decide_eq_false h (congrArg Int.ofNat e);have hl:i<gs.length:=by omega
    exact⟨hl,by rw[jb,if_pos hl,getD_eq hl],YA _ (List.getElem_mem hl)⟩
   case tagC=>
    rintro w4 nv FQ e4 ⟨us,h1,h2,h3,h4⟩ ⟨YH,OJ,Zf⟩;obtain⟨u,hu,YQ⟩:=h3 i YH;obtain⟨nb,nc,rfl,YF,Tr⟩:=h1.cell (by omega);obtain⟨b1,o1,rfl,Y9⟩:=hr 0 (by simp);have Za:∀b,cH u b->w2.heap.size<=b/\b<w4.heap.size:=λb hb=>cR.blk YQ hb;have Y3:¬cH u nb:=kN h1 YQ (by decide) nb ⟨_,_,rfl⟩;have Ue:=rq Y9;have Zg:¬cH u b1:=λh=>by have:=(Za _ h).1;omega
    have Zh:=(E2.trans e4).cell Y9;refine hH 10 cV (iF (cH u)) (λa b h=>h.keep _) ?_;refine .exact (.pointer (some ⟨nb,0+i,none⟩)) (λw1 e=>fw i YH ⟨rfl,Ext.refl _⟩) ?_;refine .exact u (λw1 e=>cu (e.eP (by rw[Nat.zero_add];exact Tr i u hu) Y3) ⟨rfl,Ext.refl _⟩) ?_;refine .exact (.pointer (some ⟨b1,o1+0,none⟩)) (λw1 e=>fw 0 (by simp) ⟨rfl,Ext.refl _⟩) ?_;refine .exact (.int .i64 d) (λw1 e=>cu (e.eP Zh Zg) ⟨rfl,Ext.refl _⟩) ?_;refine .early rfl (λx w1=>∃Yt,x=.slice (some ⟨Yt,0,none⟩) 1 1/\w4.heap.size<=Yt/\w1.heap[Yt]? =some (.cells [.int .i64 d].toArray 3)) (λu a b h e=>by obtain⟨Yt,q1,q2,q3⟩:=h;exact⟨Yt,q1,q2,e.at_ q3⟩) (λw1 e=>eg [.int .i64 d] 3 λw5 Yt e5 Y2 De=>⟨⟨Yt,rfl,by have:=e.size;omega,De⟩,e5⟩) ?_;refine .spec (λx w1=>fE w2.heap.size w1 x (FQ[i]++[d])) (λu a b h e=>cR.ext h e) (λw1 e x hx=>?_) ?_
    ·obtain⟨Yt,rfl,q2,q3⟩:=hx;refine gq sg (cR.ext YQ e) (e4.trans e).size q3 (by omega) λv' w5 g1 g2 _=>⟨?_,g2⟩;unfold fE;simpa[jy]using g1
    refine .late rfl (λx _=>x=.pointer (some ⟨nb,0+i,none⟩)) (λ_ _ _ h _=>h) (λw1 e _ _ _ _=>fw i YH ⟨rfl,Ext.refl _⟩) ?_;rintro w5 e5 p rfl x hx _ _;have YI:Ext w2 w5:=e4.yR e5 λb hb=>(Za b hb).1;obtain⟨xa,xc,Zi,_⟩:=hx.row;have Zb:cR w2.heap.size 27 [.slice none 0 0] w5 (.slice (some ⟨nb,0,none⟩) FQ.length nc) FQ.length us:=cR.keep h1 e5 λb hb De=>kN h1 YQ (by decide) b hb De;refine Yr Zb YH ⟨_,_,_,Zi⟩ λw6 Zj k6=>?_;have e6:Ext w2 w6:=YI.cC k6 YF;have YJ:gU w2.heap.size w6 (.slice (some ⟨nb,0,none⟩) FQ.length nc) (jb gs d i):=by
     rw[OJ];refine⟨us.set i x,by rw[List.length_set];exact Zj,by simp[h2],λk hk=>?_⟩;rw[List.length_set]at hk;by_cases YR:i=k
     ·subst YR;refine⟨x,by rw[List.getElem?_set_self (by omega)],?_⟩;rw[List.getElem_set_self];exact cR.keep hx k6 λb hb e=>by subst e;exact kN Zb hx (by decide) _ ⟨_,_,rfl⟩ hb
     ·obtain⟨y,q1,q2⟩:=h3 k hk;refine⟨y,by rw[List.getElem?_set_ne YR];exact q1,?_⟩;rw[List.getElem_set_ne YR];refine cR.keep (cR.keep q2 e5 λb hb De=>YR (h4 i k u y b hu q1 De hb)) k6 λb hb e=>?_;subst e;exact kN h1 q2 (by decide) _ ⟨_,_,rfl⟩ hb
    have Zk:(jb gs d i).length=FQ.length:=by rw[OJ,List.length_set]
    have Zl:=pj gs d i;have Zm:(jb gs d i).length<=m:=by split at Zl<;>omega
    rw[<-Zk]at YJ⊢;have E6:=E2.trans e6;have Wv:=(e2.trans e6).at_ hb;refine cX cV ?_;refine NK Wv<| .exact (.slice (zb (some ⟨b1,o1,none⟩) 1 c) r.length (c-1)) (λw7 e7=>Nl 1 (by simp) hc ⟨rfl,Ext.refl _⟩) ?_;refine .rel (Ko (mc G m r (jb gs d i)) w6.heap.size) Ko.st (λw7 e7=>cD (zq hG m hm r _ _ (jb gs d i) _ w2.heap.size w7 (hd.ext (E6.trans e7)) (List.pairwise_cons.1 ha).2 (R4 ha YM) (λx hx=>YO x (List.mem_cons_of_mem _ hx)) (qs YN (YO d List.mem_cons_self)) Zm ((hr.ext (E6.trans e7)).drop 1 (by simpa using hc)) (by simp at hc;omega) (YJ.ext e7)) λv w8 ⟨e8,x,h8,h9⟩=>⟨⟨x,h8,h9.low e7.size⟩,e8⟩) ?_;refine .rel (Ko (mc G m r (jb gs d i)) w6.heap.size) Ko.st Ux ?_;refine .rel (Kh (mc G m r (jb gs d i)) w6.heap.size) Kh.st (by rintro _ _ _ ⟨_,rfl,h⟩;exact⟨h,Ext.refl _⟩) ?_;refine .rel (VB (mc G m r (jb gs d i)).isSome) VB.st (by rintro _ _ _ ⟨_,rfl,_⟩;exact⟨rfl,Ext.refl _⟩) ?_;refine .rel (Kh (mc G m r (jb gs d i)) w6.heap.size) Kh.st (by(repeat intro _);exact⟨by assumption,Ext.refl _⟩) ?_;refine .rel (VB (mc G m r (jb gs d i)).isSome) VB.st (by(repeat intro _);exact⟨by assumption,Ext.refl _⟩) ?_;rintro w7 e7 _ rfl x hx;repeat intro _
    have E7:=E6.trans e7;have YK:i<min (gs.length+1) m:=by omega
    cases hq:mc G m r (jb gs d i)with
    |none=>exact lx rfl (cF ⟨YK,(),⟨rfl,rfl,rfl,rfl,rfl,trivial⟩,(e2.trans e6).trans e7,λj hj=>by
     rcases Nat.lt_or_ge j i with h|h
     ·exact WU j h
     ·obtain rfl:j=i:=by omega
      exact hq⟩)
    |some D=>
     have hf:mc G m (d::r) gs=some D:=by rw[G9 G m d r gs YW,vY YK WU hq]
     rw[hf];refine jZ rfl ⟨_,rfl,E7,x,rfl,λD' Zn=>?_⟩;cases Zn;exact(hx D hq).low E6.size
  ·have HJ:¬i<m:=by have:=of_decide_eq_false HJ;omega
   exact⟨_,rfl,YG (by omega)⟩
  ·have hle:¬i<=gs.length:=by have:=of_decide_eq_false hle;omega
   exact⟨_,rfl,YG (by omega)⟩
end
section
variable{G:Gd}{da:Option Addr}{dc:Nat}{w:cn}
def ND(z:dK G=0)(p:fZ w da G.doors){l:List Nat}{a:Option Addr}{c:Nat}(F:fN w a l)(q:l.Pairwise (·<·))(n:∀d∈l,d<G.doors.length)(H:l.length<=c):
 Calls V.prog 102 #[gV G da dc,.slice a l.length c] w (fi λv o=>Ext w o/\Ko (gH G (io l)) w.heap.size v o):=by
 have A:=eQ z;have B:=A.many;have I:=Ce q B n;have f:=nP.io (G:=G) B (l:=l) n;have r:fl (io l)=l:=Fg q λd p=>by have:=n d p;omega
 have C:=Q1 A f;rw[r]at C;rw[<-C];refine gd Tryz.func102 Tryz.ntmps102 ?_;refine ej λJ K L M N=>?_;refine fW (l.length+1) (λm (_:Unit)=>[(1,.slice a l.length c),(2,cM K),(6,i64 m)]) (λm _ o=>Ext J o/\∀j,j<m->mc G j l []=none) () ⟨by trivial,Ext.refl _,λj O=>by omega⟩ ?_;rintro m _ P W ⟨s,e⟩;have i:=L.trans s;refine cS (ue ⟨λb=>?_,λb=>?_⟩);have Q:m<=l.length:=by have:=dO b;omega
 refine dA (s.at_ N) (cD (zq (dc:=dc) z m (by omega) l a c [] (.slice none 0 0) 0 P (p.ext i) q (λg t=>by cases t) n (λg t=>by cases t) (fV _) (F.ext i) H ⟨[],cR.nil _ _ _ _,rfl,λk R=>by simp at R⟩) ?_);rintro _ X ⟨E,u,rfl,S⟩;cases x:mc G m l []with
 |none=>exact lx rfl (cF ⟨by omega,(),by trivial,s.trans E,λj O=>by
  rcases fj j m with h|h;exact e j h;obtain rfl:j=m:=by omega
  exact x⟩)
 |some D=>
  have T:((List.range (l.length+1)).findSome? λm=>mc G m l [])=some D:=vY (by omega) e x;rw[T];refine jZ rfl ⟨_,rfl,i.trans E,u,rfl,λY y=>?_⟩;cases y;exact(S D x).low i.size
 have b:¬m<=l.length:=by have:=ee b;omega
 obtain rfl:m=l.length+1:=by omega
 rw[sG e];exact⟨_,rfl,i,_,rfl,λD U=>by cases U⟩
def Kl{l:List Int}{a:Option Addr}{c:Nat}(y:fZ w da G.doors)(d:G.doors.length<=100000)(z:gF w a l)(O:l.length<=1000)(n:l.length<=c):
 Calls V.prog 92 #[gV G da dc,.slice a l.length c] w (fi λv A=>Ext w A/\((my G l≠0/\v=.tuple #[.slice none 0 0,.int .i64 (my G l)])\/(my G l=0/\Se w.heap.size (gH G (io (l.map Int.toNat))) v A))):=by
 refine gd Tryz.func92 Tryz.ntmps92 ?_;refine ej λB P k J C=>dA C (dG (ww (dc:=dc) (y.ext k) d (z.ext k) (by omega) n) λi o=>fD ⟨λh=>?_,λh=>?_⟩);exact⟨_,rfl,k.trans o,.inl ⟨dO h,rfl⟩⟩;have h:my G l=0:=by simpa using h
 obtain⟨E,_,f,rfl,K,F,p⟩:=tA h;have q:=(eQ E).many;have j:=o.at_ C;have m:=k.trans o;rw[K,<-Fu q p];refine cX cV ?_;refine NK j<|NK j ?_;refine .rel (λu B=>fE i.heap.size B u (oI G (pI f))) (λu a b h e=>cR.ext h e) (λH g=>cD (A8 (da:=da) (dc:=dc) d (z.ext (m.trans g)) (by omega)) λu L ⟨r,s⟩=>⟨s.low g.size,r⟩) ?_;refine .rel (Ko (gH G (io (oI G (pI f)))) i.heap.size) Ko.st (λH g u t=>?_) ?_;obtain⟨a,c,rfl,F,n⟩:=t.row;exact cD (ND (dc:=dc) E (y.ext (m.trans g)) F (zz _ _) Ke n) λv L ⟨r,x,s,M⟩=>⟨⟨x,s,M.low g.size⟩,r⟩;refine .rel (Ko (gH G (io (oI G (pI f)))) i.heap.size) Ko.st Ux ?_;refine .rel (Kh (gH G (io (oI G (pI f)))) i.heap.size) Kh.st (by rintro _ _ _ ⟨_,rfl,h⟩;exact⟨h,Ext.refl _⟩) ?_;refine .rel (VB (gH G (io (oI G (pI f)))).isSome) VB.st (by rintro _ _ _ ⟨_,rfl,_⟩;exact⟨rfl,Ext.refl _⟩) ?_;refine .rel (Kh (gH G (io (oI G (pI f)))) i.heap.size) Kh.st (by(repeat intro _);exact⟨by assumption,Ext.refl _⟩) ?_;refine .rel (VB (gH G (io (oI G (pI f)))).isSome) VB.st (by(repeat intro _);exact⟨by assumption,Ext.refl _⟩) ?_;rintro H g _ rfl u t;repeat intro _
 have I:=m.trans g;cases N:gH G (io (oI G (pI f)))with
 |none=>exact ei (jZ rfl ⟨_,rfl,I,.inr ⟨h,rfl⟩⟩)
 |some D=>exact ei (lx rfl ⟨_,rfl,I,.inr ⟨h,u,rfl,(t D N).low m.size⟩⟩)
end
def Yu{k:nd}{x y:dw}(a:0<m)(h:k (.int .i64 (I.tmod m)) w):jj V.prog (do eqGuard .rem T x y (.int .i64 I) (.int .i64 m);binOp .rem T (.int .i64 I) (.int .i64 m)) w k:=by refine⟨_,w,?_,h⟩;show Sem.run jD (Op.intDiv .rem .i64 I m) w=_;unfold Op.intDiv;rw[cy (by omega)];simp only[Sem.run_pure]
def W4{m:Int}{n:Nat}(a:0<n)(b:n<=1000)(w:cn):Calls V.prog 34 #[.int .i64 m,.int .i64 n] w (fi λv c=>(∃z:Nat,v=.int .i64 z/\z<n)/\c=w):=by have d:=Int.tmod_lt_of_pos m (show(0:Int)<n by omega);have e:=Int.lt_tmod_of_pos m (show(0:Int)<n by omega);refine gd Tryz.func34 Tryz.ntmps34 ?_;generalize f:m.tmod n=z at d e;refine Yu a ?_;rw[f];refine du ⟨λh=>?_,λh=>?_⟩;have h:z<0:=dO h;exact cF ⟨_,rfl,⟨(z+n).toNat,cT (Value.int .i64) (by omega),by omega⟩,rfl⟩;have h:¬z<0:=ee h;exact⟨_,rfl,⟨z.toNat,cT (Value.int .i64) (by omega),by omega⟩,rfl⟩
theorem Yh(x:Int):∀(l:gC) (i:Nat),(l.flatMap iL).set i (.int .i64 x)=(l.set i x).flatMap iL
 |[],_=>rfl
 |y::r,0=>rfl
 |y::r,i+1=>by have:=Yh x r i;simp only[mV,List.set_cons_succ,iL,qx,sr,List.set_cons_succ]at this⊢;rw[this]
def Sj(G:Gd)(a b:Int):∃p q:Int,B9 G a b=.tuple #[.int .i64 p,.int .i64 q]:=by unfold B9;split;split<;>exact⟨_,_,rfl⟩;exact⟨_,_,rfl⟩
def Km(G:Gd)(l:gC):∃p q r:Int,vg G l=.tuple #[.agg (mz p q).toArray,.int .i64 r]:=by unfold vg;split<;>exact⟨_,_,_,rfl⟩
def NF(G:Gd)(l:gC):∃p q:Int,r9 G l=.tuple #[.int .i64 p,.int .i64 q]:=by unfold r9;split<;>exact⟨_,_,rfl⟩
def YL{x y:dw}(a b:Int):Sem.run V.prog (do eqGuard .neq 56 x y (.agg (mz a b).toArray) (.agg (mz a b).toArray);binOp .neq 56 (.agg (mz a b).toArray) (.agg (mz a b).toArray)) w=.ok (.bool false) w:=by show Sem.run jD (do eqGuard .neq 56 x y (.agg #[i64 a,i64 b]) (.agg #[i64 a,i64 b]);binOp .neq 56 (.agg #[i64 a,i64 b]) (.agg #[i64 a,i64 b])) w=.ok (.bool false) w;go_simp
def Y4(G:Gd)(l:gC):Int:=if my G l=0 then(match gH G (io (l.map Int.toNat))with|none=>11|some _=>0)else my G l
def YB(G:Gd)(l:gC):List cz:=if my G l=0 then(gH G (io (l.map Int.toNat))).getD []else []
def Yi{l:gC}(h:(my H l≠0/\x=.tuple #[.slice none 0 0,.int .i64 (my H l)])\/(my H l=0/\Se m (gH H (io (l.map Int.toNat))) x w)):qu wM (YB H l) (Y4 H l) x w:=by
 unfold YB Y4;rcases h with⟨b,rfl⟩|⟨b,d⟩;rw[cy b,cy b];exact⟨none,0,rfl,λk e=>by simp at e⟩;rw[cB b,cB b];cases f:gH H (io (l.map Int.toNat))with
 |none=>
  rw[f]at d;exact⟨none,0,d,λk e=>by simp at e⟩
 |some j=>
  rw[f]at d;obtain⟨u,rfl,g⟩:=d;obtain⟨a,c,rfl,i,_⟩:=g.row;exact⟨a,c,rfl,i⟩
structure Fx where
 G:Gd
 da:Option Addr
 dc:Nat
 l:List Int
 la:Option Addr
 lc:Nat
 a:Int
 b:Int
structure Yv(gs ls ps bs:Nat)(w:cn)(cs:List Fx):Prop where
 gI:Hj (λc:Fx=>gL c.G c.da c.dc) 7 gs w cs
 lI:Cf (λc:Fx=>.slice c.la c.l.length c.lc) ls w cs
 aI:Cf (λc:Fx=>.int .i64 c.a) ps w cs
 bI:Cf (λc:Fx=>.int .i64 c.b) bs w cs
 all:∀c∈cs,NH w c.da c.G/\Kd w c.la c.lc c.l
theorem Yv.ext{a:List Fx}(h:Yv m k i j w a)(e:Ext w t):Yv m k i j t a:=⟨h.gI.ext e,h.lI.ext e,h.aI.ext e,h.bI.ext e,λc b=>⟨(h.all c b).1.ext e,(h.all c b).2.ext e⟩⟩
def zr(a b c d k e:Nat)(f:ek)(n g:Nat):L:=[(19,.slice (some ⟨a,0,none⟩) 4 4),(20,.slice (some ⟨b,0,none⟩) 4 4),(21,.slice (some ⟨c,0,none⟩) 4 4),(22,.slice (some ⟨d,0,none⟩) 4 4),(23,.int .i64 k),(24,cM e),(25,.slice f n g)]
def Yw(G:Gd)(l:gC):(YB G l).length<=5/\∀x∈YB G l,x.length<=5:=by
 unfold YB;split;cases h:gH G (io (l.map Int.toNat))with
 |none=>exact⟨fV _,λx a=>by cases a⟩
 |some b=>exact⟨pR h,zg h⟩
 exact⟨fV _,λx a=>by cases a⟩
def Yj{l:List cz}{b:ek}(f:wM w a l)(d:wM w b l)(c:l.length<=100000)(e:∀x∈l,x.length<=100000):Calls V.prog 71 #[.slice a l.length m,.slice b l.length k] w (fi λv g=>v=.bool true/\Ext w g):=by have:=Em l l a b m k w f d c e;simpa using this
def NR{k:nd}{x y:dw}{a:IntKind}(h:k (.bool false) w):jj V.prog (do eqGuard .neq T x y (.int a I) (.int a I);binOp .neq T (.int a I) (.int a I)) w k:=fD (by simpa using h)
def Hg{G:Gd}{dc:Nat}(hd:fZ w a G.doors)(c4:G.doors.length<=9223372036854775807)(Q b:Int){wk:gC}{wa:ek}(hw:gF w wa wk)(c5:wk.length<=9223372036854775807)(bM:wk.length<=k)(a9 ac:Int) {ns:gC}{na:ek}(hr:gF w na ns)(bN:ns.length<=9223372036854775807):
 Calls V.prog 21 #[gV G a dc,.int .i64 Q,.int .i64 b,.slice wa wk.length k,.int .i64 a9,.int .i64 ac,.slice na ns.length i] w (ux λv w'=>v=.bool true/\Ext w w'):=by
 refine Fc Tryz.func21 Tryz.ntmps21 (dM.seq dj ?_);refine ej λU ob e1 c6 hb=>dM.ij (dM.ij (rF.start (rF.Nv 7 dj ?_)));refine dA hb (dG NI λw2 e2=>?_);have E2:=e1.trans e2;refine⟨λh=>?_,λh=>cS (lZ ?_)⟩;refine rF.fin (dM.of dj (jZ rfl (iW (rE w2) (λw' h=>.inr ⟨rfl,h⟩) ?_)));rintro _ w3 ⟨rfl,e3⟩;exact .inl ⟨_,rfl,rfl,E2.trans e3⟩;refine rF.fin (dM.of dj ⟨λh4=>?_,λh4=>?_⟩);refine iW (rE w2) (λw' h=>.inr ⟨rfl,h⟩) ?_;rintro _ w3 ⟨rfl,e3⟩;exact .inl ⟨_,rfl,rfl,E2.trans e3⟩;have ba:G.doors.length<=20:=by have:=ee h;omega
 have cv:wk.length<=20:=by have:=ee h4;omega
 refine dM.seq dj (cD (Fe (hr.ext E2) bN) ?_);rintro _ w3 ⟨e3,db,rfl,c7,hD⟩;have E3:=E2.trans e3;refine dM.seq dj (cD (Cb hD 5 (by omega)) ?_);rintro _ w4 ⟨d4,M,ma,C,rfl,hO,c8,hM,c9⟩;have ok:=eQ hM;have dd:=ok.many;have df:=E3.size;have an:w.heap.size<=db:=by have:=E2.size;omega
 have dh:=hD.lt;have dk:=d4.1.size;have E4:Ext w w4:=NE E3 d4 an;refine eD λw5 gb e5 bO bP=>dq bP λw6 k6 aK=>?_;replace aK:w6.heap[gb]? =some (.cells (gL M ma C).toArray 24):=aK.trans (cT (λQ=>some (Obj.cells Q 24)) (dC (pm 24).toArray (gL M ma C) rfl));have ao:Ext w4 w6:=Ext.cC e5 k6 bO;have D6:=(d4.2 hD).ext ao;refine dM.seq dj (dA aK (cD (Kq (dc:=C) D6 (by omega)) ?_));rintro _ w7 ⟨d7,D,xa,xc,rfl,bQ,bb,bR,_,_,bS⟩;have ds:=ao.size;have dv:=d7.1.size;have bc:¬gb=db:=by omega
 have g7:=d7.1.fe aK bc;have bd:l8 w3.heap.size w7 (.slice ma M.doors.length C) M.doors:=cR.keep (cR.ext hO ao) d7.1 λb hb e=>by have:=(cR.blk hO hb).1;omega
 have D7:=d7.2 D6;have E7:Ext w w7:=NE (E4.trans ao) d7 an;have bT:w7.heap[ob]? =some (.cells (gL G a dc).toArray 24):=by have h1:w4.heap[ob]? =some (.cells (gL G a dc).toArray 24):=d4.1.fe ((e2.trans e3).at_ hb) (by have:=cP.lt_of_heap hb;have:=e2.size;omega);exact d7.1.fe (ao.at_ h1) (by have:=cP.lt_of_heap hb;have:=e2.size;omega)
 obtain⟨X,hX⟩:∃X,X=pI D:=⟨_,rfl⟩;have bU:D.length=X.length:=by rw[hX];simp[pI]
 have be:gF w7 xa X:=by rw[hX];exact bQ.ints
 rw[bU]at bb bR⊢;clear hX;refine dM.seq dj (cD (Kc be (by omega)) ?_);rintro v Y ⟨e8,hv⟩;refine eg [i64 ac] 3 λw9 L e9 ab ap=>gq sg (cR.ext hv e9) (by have:=e8.size;have:=e9.size;omega) ap (by omega) λv' aZ bV bW _=>?_;have bf:Ext w7 aZ:=(e8.trans e9).ia bW (cR.ext hv e9) (cJ _);have aY:Hd w7.heap.size aZ v' (X++[ac]):=by unfold Hd;rw[jA,List.flatMap_append];exact bV
 have bX:(X++[ac]).length=X.length+1:=by simp
 obtain⟨vb,vc,rfl,bY,_⟩:=cR.cell aY (by omega);refine dM.seq dj (cS (cD (W4 (m:=a9) (n:=(X++[ac]).length) (by omega) (by omega) aZ) ?_));rintro _ a0 ⟨⟨z,rfl,hz⟩,rfl⟩;refine fw z hz (Vy aY hz rfl rfl λa0 hT bZ=>?_);rw[Yh]at hT;have O:Ext w7 a0:=bf.cC bZ bY;have bg:=E7.trans O;obtain⟨T,aq⟩:∃T,T=(X++[ac]).set z ac:=⟨_,rfl⟩;have b0:(X++[ac]).length=T.length:=by rw[aq,xp]
 rw[b0]at bX hT⊢;have hT:Hd w7.heap.size a0 (j7 vb T.length vc) T:=by rw[aq];rw[<-aq];rw[<-aq]at hT;exact hT
 obtain⟨_,_,e,b1,b2⟩:=hT.row;cases e;clear aq;have b3:=D7.ext O;refine dM.seq dj (dA (O.at_ bT) (dA (O.at_ g7) (dA (O.at_ g7) (dA (O.at_ g7) ?_))));refine eg (gL G a dc++gL M ma C++gL M ma C++gL M ma C) 24 λaL gs ad dx bh=>eg [.slice wa wk.length k,.slice xa X.length xc,j7 vb T.length vc,.slice wa wk.length k] 27 λak ls al dy bi=>?_;have P:=ad.trans al;have b4:=(O.trans P).at_ g7;have dL:=bg.size;have c0:=O.size;have c1:=P.size;have d0:=ad.size;have rf:∀{v:cq} {w:cn},v=v/\DE db w w:=⟨rfl,(zv db).refl _⟩;have g8:∀Y,DE db ak Y->Y.heap[gb]? =some (.cells (gL M ma C).toArray 24):=λY e8=>e8.1.fe b4 bc;have fr:∀Y,DE db ak Y->Calls V.prog 30 #[cM db,i64 (-1),i64 ((M.doors.length:Int)-1)] Y (fi λu w9=>(∃f:Int,u=i64 f)/\DE db Y w9):=λY e8=>(lf (e8.2 (b3.ext P)) (-1) (M.doors.length-1) (by omega) (by omega) (by omega)).mono λe w9 h=>by obtain⟨v,rfl,⟨z,h1,_⟩,d⟩:=h;exact⟨v,rfl,⟨z,h1⟩,d⟩
 refine dM.ij<|cX (zv db) ?_;iterate 2
  refine .exact (.slice ma M.doors.length C) (λY e8=>cu (cr (g8 Y e8) rfl) rf)<| .exact (i64 M.doors.length) (λ_ _=>cS rf)<| .exact (i64 ((M.doors.length:Int)-1)) (λ_ _=>fx rf)<| .rel (λu _=>∃f:Int,u=i64 f) (λ_ _ _ h _=>h) (λY e8=>?_) ?_
  ·repeat intro _
   exact cD (fr Y e8) λ_ _ h=>h
 refine .rel (N5 db Q) N5.de (λY e8=>?_) ?_;rintro u ⟨g,rfl⟩ v ⟨f,rfl⟩;exact eg [i64 Q,i64 f,i64 g,i64 Q] 3 λw9 L e9 ab ap=>⟨⟨L,f,g,rfl,by have:=e8.1.size;omega,ap⟩,e9.de db⟩;iterate 2
  refine .exact (.slice ma M.doors.length C) (λY e8=>cu (cr (g8 Y e8) rfl) rf)<| .exact (i64 M.doors.length) (λ_ _=>cS rf)<| .exact (i64 ((M.doors.length:Int)-1)) (λ_ _=>fx rf)<| .rel (λu _=>∃f:Int,u=i64 f) (λ_ _ _ h _=>h) (λY e8=>?_) ?_
  ·repeat intro _
   exact cD (fr Y e8) λ_ _ h=>h
 refine .rel (N5 db b) N5.de (λY e8=>?_) ?_
 ·rintro u ⟨g,rfl⟩ v ⟨f,rfl⟩;repeat intro _
  exact eg [i64 b,i64 f,i64 g,i64 b] 3 λw9 L e9 ab ap=>⟨⟨L,f,g,rfl,by have:=e8.1.size;omega,ap⟩,e9.de db⟩
 refine .rel (N5 db Q) N5.de (λY e8=>?_) ?_
 ·repeat intro _
  exact⟨by assumption,(zv db).refl _⟩
 refine .rel (N5 db b) N5.de (λY e8=>?_) ?_
 ·repeat intro _
  exact⟨by assumption,(zv db).refl _⟩
 rintro ae am _ ⟨bs,f2,g2,rfl,d1,bj⟩ _ ⟨ps,f,g,rfl,d2,bk⟩;repeat intro _
 have aM:Ext w ae:=NE (bg.trans P) am an;have bl:l8 w3.heap.size ae (.slice ma M.doors.length C) M.doors:=cR.keep (cR.ext bd (O.trans P)) am.1 λb hb e=>by have:=(cR.blk bd hb).1;omega
 have I:gF ae xa X:=(be.ext (O.trans P)).keep am.1 λb o hn e hb=>by have:=bS b o e;omega
 have J:gF ae (Bb vb 0) T:=(b1.ext P).keep am.1 λb o hn e hb=>by
  cases e
  omega
 obtain⟨cs,af⟩:∃cs:List Fx,cs=[⟨G,a,dc,wk,wa,k,Q,b⟩,⟨M,ma,C,X,xa,xc,f,f2⟩,⟨M,ma,C,T,some (cY vb 0),vc,g,g2⟩,⟨M,ma,C,wk,wa,k,Q,b⟩]:=⟨_,rfl⟩;have d3:cs.length=4:=by rw[af];rfl
 have bm:Yv gs ls ps bs ae cs:=by have eM:NH ae ma M:=⟨l8.Sh bl,by omega⟩;have E:Kd ae wa k wk:=⟨hw.ext aM,by omega,bM⟩;refine⟨Hj.of (t:=24) (λ_=>rfl) ?_,Cf.of (t:=27) ?_,Cf.of (t:=3) ?_,Cf.of (t:=3) ?_,?_⟩;rw[af];exact am.1.fe (al.at_ bh) (by omega);rw[af];exact am.1.fe bi (by omega);rw[af];exact bk;rw[af];exact bj;rw[af];intro c hc;simp only[eO,mu,jW]at hc;rcases hc with rfl|rfl|rfl|rfl;exact⟨⟨hd.ext aM,ba⟩,E⟩;exact⟨eM,I,(by omega:X.length<=21),bb⟩;exact⟨eM,J,(by omega:T.length<=21),b2⟩;exact⟨eM,E⟩
 clear af;refine dM.jN (l0:=[(19,j7 gs 4 4),(20,j7 ls 4 4),(21,j7 ps 4 4),(22,j7 bs 4 4)]) (by trivial) (dM.ij (dM.seq dj ?_));refine rX 4 (λK (_:Unit)=>[(19,j7 gs 4 4),(20,j7 ls 4 4),(21,j7 ps 4 4),(22,j7 bs 4 4),(23,i64 K)]) (λK _ w'=>Ext ae w') () ⟨by trivial,Ext.refl _⟩ ?_;rintro K _ aN hk aO;refine dM.ij (dM.of dj (cS (du ⟨λb5=>?_,λd5=>?_⟩)));rotate_left;refine dM.ij (dM.of dj (iW (rE aN) (λw' h=>.inr ⟨rfl,h⟩) ?_));rintro _ bn ⟨rfl,ag⟩;exact dM.of dj (.inl ⟨_,rfl,rfl,(aM.trans aO).trans ag⟩);have N:K<4:=by have:=dO b5;omega
 have ar:=bm.ext aO;have au:K<cs.length:=by omega
 have b6:=ar.all _ (ef au);have qg:=ar.gI K au;have ql:=ar.lI K au;have F:=ar.aI K au;have H:=ar.bI K au;have d6:=aM.trans aO;generalize cs[K]=c at*;obtain⟨gI,lI⟩:=b6;have c2:=lI.len;have c3:=gI.len;refine dM.ij (dM.block (dM.ij ?_));obtain⟨n0,d8⟩:∃n0,n0=aN.heap.size:=⟨_,rfl⟩;have ext:∀{U:cn},NJ n0 aN U->Ext aN U:=λe=>e.ext (by omega);refine hH 11 cV (VA n0) (λQ b h=>h.et n0)<| .exact (Ba gs (0+K*7)) (λw _=>eN K 7 N qm)<| .exact (gV c.G c.da c.dc) (λw e=>dJ (vs:=gL c.G c.da c.dc) ((ext e).cl qg) qm)<| .rel (λu U=>∃Q d,u=gV c.G Q d/\l8 n0 U (.slice Q c.G.doors.length d) c.G.doors) (λu Q b ⟨x,d,h1,h2⟩ e=>⟨x,d,h1,cR.et h2 e (by decide)⟩) (λU e=>?_) ?_;refine cD (z8 ((gI.row.ext (ext e)).cells) (by omega)) ?_;rintro u w2 ⟨e2,Q,d,rfl,h⟩;exact⟨⟨Q,d,rfl,l8.low h (by have:=(ext e).size;omega)⟩,e2⟩;refine .exact (Ba ls (0+K)) (λw _=>fw K N qm)<| .exact (.slice c.la c.l.length c.lc) (λw e=>cu ((ext e).cell ql) qm)<| .rel (λu U=>Hd n0 U u c.l) (λu Q b h e=>cR.et h e (by decide)) (λU e=>?_) ?_
 ·repeat intro _
  exact cD (Kc (lI.row.ext (ext e)) (by omega)) λu w2 ⟨e2,h⟩=>⟨cR.low h (by have:=(ext e).size;omega),e2⟩
 refine .rel (λu U=>∃L,u=cM L/\n0<=L/\∃cs,sd U L cs 24/\cs.size=7) (λu Q b ⟨L,h1,h2,cs,h3,h4⟩ e=>by obtain⟨av,h5,h6⟩:=e.q L cs h3;exact⟨L,h1,h2,av,h5,h6.trans h4⟩) (λaL ad=>?_) ?_
 ·repeat intro _
  exact eD λak L al ab hb=>⟨⟨L,rfl,by have:=(ext ad).size;omega,_,hb,rfl⟩,al⟩
 refine .vT (λvs U=>∃L r Q d,vs=cM L::r/\U.heap[L]? =some (.cells (gL c.G Q d).toArray 24)/\l8 n0 U (.slice Q c.G.doors.length d) c.G.doors) (λ_ Q b ⟨L,r,x,d,h1,h2,h3⟩ e=>⟨L,r,x,d,h1,e.at_ h2,cR.ext h3 e⟩) (λaL ad=>?_) ?_;rintro _ ⟨L,rfl,ab,av,aw,ax⟩ v2 _ _ ⟨Q,d,rfl,b7⟩;exact Sn (gL c.G Q d) aw ax ab λak aP ay=>⟨⟨L,_,Q,d,rfl,ay,cR.et b7 aP (by decide)⟩,aP⟩;refine .rel (λu U=>Hd n0 U u c.l) (λu Q b h e=>cR.et h e (by decide)) (λU e=>?_) ?_
 ·repeat intro _
  exact⟨by assumption,Ext.refl _⟩
 rintro bn ag b8 b9 _ ⟨L,rfl,ab,_⟩ d9 _ _ ⟨_,_,rfl,_⟩;rintro⟨Z,r,a',d,ca,W,bo⟩;obtain rfl:Z=L:=xn (List.cons.inj ca).1.symm;have ag:=ext ag;have cb:Hd n0 bn b8 c.l:=b9;obtain⟨ka,kc,rfl,az,aQ⟩:=cb.row;have ah:=l8.Sh bo;have ea:=cP.lt_of_heap W;refine dM.jN (l0:=zr gs ls ps bs K Z ka c.l.length kc) (by trivial) ?_;obtain⟨p,q,bp⟩:=Sj c.G c.a c.b;obtain⟨t1,t2,t3,ht⟩:=Km c.G c.l;obtain⟨s1,s2,hs⟩:=NF c.G c.l;refine dM.ij<|cX cV<|NK W<|iK K N<|cK (ag.cell F)<|iK K N<|cK (ag.cell H) ?_;refine fh (.tuple #[i64 p,i64 q]) (λw e=>by rw[<-bp];exact Yo (dc:=d) (ah.ext e) (by omega) c.a c.b) λeb bq=>dM.ij ?_;have aA:=ag.trans bq;refine cX cV<|gE K 7 N<|zJ (aA.cl qg)<|iK K N<|cK (aA.cell F)<|iK K N<|cK (aA.cell H) ?_;refine fh (.tuple #[i64 p,i64 q]) (λw e=>by rw[<-bp];exact TW (dc:=c.dc) (gI.row.ext (aA.trans e)) (by omega) c.a c.b) λec br=>dM.ij (dM.ij ?_);have a1:=aA.trans br;have a2:=bq.trans br;refine cX cV<|NK (a2.at_ W)<|fh _ (λw e=>IH (dc:=d) (ah.ext (a2.trans e)) (by omega))<|gE K 7 N<|zJ (a1.cl qg)<|fh _ (λw e=>G7 (dc:=c.dc) (gI.row.ext (a1.trans e)) (by omega))<|Cg<|lx rfl<|Cg<|lx rfl<|Cg λed bt=>dM.of dj (lx rfl ?_);have cc:=a1.trans bt;have aR:=a2.trans bt;refine dM.seq dj (dA (aR.at_ W) (dG (v0:=.tuple #[.agg (mz t1 t2).toArray,i64 t3]) (by rw[<-ht];exact Jr (dc:=d) (ah.ext aR) (by omega) (az.ext aR) (by omega) aQ) λa3 bu=>?_));refine eD λel pb cd ce bv=>Sn (n0:=a3.heap.size) (mz t1 t2) bv rfl ce λaS cf bw=>?_;have aB:Ext a3 aS:=((cd.keep λx=>a3.heap.size<=x).trans cf.k (λ_ _ h=>h) λ_ _ h=>h).ext λx hx=>by omega
 have aC:=cc.trans (bu.trans aB);have cg:=aR.trans (bu.trans aB);obtain⟨n1,em⟩:∃n1,n1=aS.heap.size:=⟨_,rfl⟩;have aa:∀{U:cn},zI 56 n1 aS U->Ext aS U:=λe=>e.ext (by omega);refine dM.jN (l0:=(30,cM pb)::(27,i64 t3)::zr gs ls ps bs K Z ka c.l.length kc) (by trivial) (dM.ij ?_);refine hH 13 cV (Vz 56 n1) (λQ b h=>h.eu 56 n1)<| .exact (Ba gs (0+K*7)) (λw _=>eN K 7 N qm)<| .exact (gV c.G c.da c.dc) (λw e=>dJ (vs:=gL c.G c.da c.dc) ((aC.trans (aa e)).cl qg) qm)<| .exact (Ba ls (0+K)) (λw _=>fw K N qm)<| .exact (.slice c.la c.l.length c.lc) (λw e=>cu ((aC.trans (aa e)).cell ql) qm) ?_;refine .exact (.tuple #[.agg (mz t1 t2).toArray,i64 t3]) (λw e=>dG (by rw[<-ht];exact A5 (dc:=c.dc) (gI.row.ext (aC.trans (aa e))) (by omega) (lI.row.ext (aC.trans (aa e))) (by omega) lI.cap) λw2 e2=>⟨rfl,e2⟩) ?_;refine .rel (λu U=>∃L,u=cM L/\n1<=L/\∃cs,sd U L cs 56/\cs.size=2) (λu Q b ⟨L,h1,h2,cs,h3,h4⟩ e=>by obtain⟨av,h5,h6⟩:=e.q L cs h3;exact⟨L,h1,h2,av,h5,h6.trans h4⟩) (λaL ad=>eD λak L al ab hb=>⟨⟨L,rfl,by have:=(aa ad).size;omega,_,hb,rfl⟩,al⟩) ?_;refine .vT (λvs U=>∃L r,vs=cM L::r/\U.heap[L]? =some (.cells (mz t1 t2).toArray 56)) (λ_ Q b ⟨L,r,h1,h2⟩ e=>⟨L,r,h1,e.at_ h2⟩) (λaL ad=>?_) ?_;rintro _ ⟨L,rfl,ab,av,aw,ax⟩;exact Sn (mz t1 t2) aw ax ab λak aP ay=>⟨⟨L,_,rfl,ay⟩,aP⟩;rintro en aD _ ⟨sb,rfl,es,_⟩;rintro⟨a4,r2,bx,bz⟩;obtain rfl:a4=sb:=xn (List.cons.inj bx).1.symm;have aD:=aa aD;have aT:=cg.trans aD;have ch:=aC.trans aD;refine dM.jN (l0:=(31,cM a4)::(29,i64 t3)::(30,cM pb)::(27,i64 t3)::zr gs ls ps bs K Z ka c.l.length kc) (by trivial) (dM.seq dj ?_);refine dA (aT.at_ W) (dG (v0:=.tuple #[i64 s1,i64 s2]) (by rw[<-hs];exact NC (dc:=d) (ah.ext aT) (by omega) (az.ext aT) (by omega) aQ) λev bA=>dM.ij ?_);have aE:=ch.trans bA;refine cX cV<|gE K 7 N<|zJ (aE.cl qg)<|iK K N<|cK (aE.cell ql) ?_;refine fh (.tuple #[i64 s1,i64 s2]) (λw e=>by rw[<-hs];exact NB (dc:=c.dc) (gI.row.ext (aE.trans e)) (by omega) (lI.row.ext (aE.trans e)) (by omega) lI.cap) λex bB=>?_;have ai:=bA.trans bB;have ci:=aE.trans bB;have aU:=aT.trans ai;have bC:∀{b:Nat} {t:cw} {w:cn},w.heap[b]? =some (.cells (mz t1 t2).toArray t)->∀j v,(mz t1 t2)[j]? =some v->w.cell? (cY b (0+j))=some v:=λh j v hj=>by rw[cG];exact cr h (by simpa using hj)
 refine dM.jN (l0:=(31,cM a4)::(29,i64 t3)::(30,cM pb)::(27,i64 t3)::(32,i64 s1)::(33,i64 s2)::(34,i64 s1)::(35,i64 s2)::zr gs ls ps bs K Z ka c.l.length kc) (by trivial) (dM.ij (dM.seq dj ?_));refine dJ (vs:=mz t1 t2) (bC (ai.at_ (aD.at_ bw))) (dJ (vs:=mz t1 t2) (bC (ai.at_ bz)) ⟨_,_,YL t1 t2,lx rfl (NR (lx rfl (NR (lx rfl (NR (dM.of dj (lx rfl ?_)))))))⟩);obtain⟨A,hA⟩:∃A,A=my c.G c.l:=⟨_,rfl⟩;obtain⟨R,hR⟩:∃R,R=Kt (my c.G c.l) (dX c.G (io (c.l.map Int.toNat))):=⟨_,rfl⟩;obtain⟨B,hB⟩:∃B,B=Y4 c.G c.l:=⟨_,rfl⟩;obtain⟨S,hS⟩:∃S,S=YB c.G c.l:=⟨_,rfl⟩;have bD:R.length<=100000:=by have:=ut (G:=c.G) (s:=io (c.l.map Int.toNat));rw[hR,Kt];split;simp[pI];omega;simp
 obtain⟨a5,aF⟩:=Yw c.G c.l;rw[<-hS]at a5 aF;have bE {l:gC} {A:Int}:=@qu.st _ gF l A gF.ext;have bF {l:gC}:=@uI.st _ gF l gF.ext;have bG {l:List cz} {A:Int}:=@qu.st _ wM l A wM.ext;have bH {l:List cz}:=@uI.st _ wM l wM.ext;refine dM.jN (l0:=zr gs ls ps bs K Z ka c.l.length kc) (by trivial) (dM.seq dj ?_);refine dA (aU.at_ W) (cD (Fw (dc:=d) (ah.ext aU) (by omega) (az.ext aU) (by omega) aQ) ?_);rintro v ey ⟨bJ,h⟩;have h:=h.res;rw[<-hA]at h hR;rw[<-hR]at h;obtain⟨aV,aW,rfl,bK⟩:=h;have aG:=ci.trans bJ;have cj:=aU.trans bJ;refine dM.jN (l0:=(36,.slice aV R.length aW)::(27,i64 A)::zr gs ls ps bs K Z ka c.l.length kc) (by trivial) (dM.ij ?_);refine cX cV<|gE K 7 N<|zJ (aG.cl qg)<|iK K N<|cK (aG.cell ql) ?_;refine .rel (qu gF R A) bE (λU e=>cD (Fv (dc:=c.dc) (gI.row.ext (aG.trans e)) (by omega) (lI.row.ext (aG.trans e)) (by omega) lI.cap) λu w2 ⟨e2,h⟩=>⟨by rw[hR,hA];exact h.res,e2⟩) ?_;refine .rel (qu gF R A) bE Ux ?_;refine .rel (uI gF R) bF (by rintro _ _ _ ⟨x,y,rfl,h⟩;exact⟨⟨x,y,rfl,h⟩,Ext.refl _⟩) ?_;refine .rel (Ci A) Ci.st (by rintro _ _ _ ⟨_,_,rfl,_⟩;exact qm) ?_;refine .rel (uI gF R) bF (by(repeat intro _);exact⟨by assumption,Ext.refl _⟩) ?_;refine .rel (Ci A) Ci.st (by(repeat intro _);exact⟨by assumption,Ext.refl _⟩) ?_;rintro eL a6 _ rfl _ ⟨ya,yc,rfl,ck⟩;repeat intro _
 have cm:=aG.trans a6;have aX:=cj.trans a6;refine dM.jN (l0:=(37,.slice ya R.length yc)::(29,i64 A)::(36,.slice aV R.length aW)::(27,i64 A)::zr gs ls ps bs K Z ka c.l.length kc) (by trivial) (dM.seq dj ?_);refine dA (aX.at_ W) (cD (EY (dc:=d) (ah.ext aX) (by omega) (az.ext aX) (by omega) aQ) ?_);rintro v e0 ⟨bL,h⟩;have h:=Yi h;rw[<-hB,<-hS]at h;obtain⟨sa,sc,rfl,co⟩:=h;have aH:=cm.trans bL;refine dM.jN (l0:=(38,.slice sa S.length sc)::(33,i64 B)::(37,.slice ya R.length yc)::(29,i64 A)::(36,.slice aV R.length aW)::(27,i64 A)::zr gs ls ps bs K Z ka c.l.length kc) (by trivial) (dM.ij ?_);refine cX cV<|gE K 7 N<|zJ (aH.cl qg)<|iK K N<|cK (aH.cell ql) ?_;refine .rel (qu wM S B) bG (λU e=>cD (Kl (dc:=c.dc) (gI.row.ext (aH.trans e)) (by omega) (lI.row.ext (aH.trans e)) (by omega) lI.cap) λu w2 ⟨e2,h⟩=>⟨by rw[hS,hB];exact Yi h,e2⟩) ?_;refine .rel (qu wM S B) bG Ux ?_;refine .rel (uI wM S) bH (by rintro _ _ _ ⟨x,y,rfl,h⟩;exact⟨⟨x,y,rfl,h⟩,Ext.refl _⟩) ?_;refine .rel (Ci B) Ci.st (by rintro _ _ _ ⟨_,_,rfl,_⟩;exact qm) ?_;refine .rel (uI wM S) bH (by(repeat intro _);exact⟨by assumption,Ext.refl _⟩) ?_;refine .rel (Ci B) Ci.st (by(repeat intro _);exact⟨by assumption,Ext.refl _⟩) ?_;rintro e4 a7 _ rfl _ ⟨ta,tc,rfl,cp⟩;repeat intro _
 have aJ:=aH.trans a7;have aj:=bL.trans a7;have a8:=aX.trans aj;refine dM.jN (l0:=(39,.slice ta S.length tc)::(35,i64 B)::(38,.slice sa S.length sc)::(33,i64 B)::(37,.slice ya R.length yc)::(29,i64 A)::(36,.slice aV R.length aW)::(27,i64 A)::zr gs ls ps bs K Z ka c.l.length kc) (by trivial) (dM.ij ?_);refine cX cV<|Cg<|lx rfl<|Cg<|lx rfl<|fh _ (λw e=>Fy ((bK.ext (a6.trans aj)).ext e) ((ck.ext aj).ext e) bD)<|kF<|lx rfl ?_;refine fh _ (λw e=>Yj ((co.ext a7).ext e) (cp.ext e) (by omega) (λx hx=>by have:=aF x hx;omega))<|kF<|lx rfl ?_;refine NK (a8.at_ W)<|gE K 7 N<|zJ (aJ.cl qg)<|fh _ (λw e=>z9 (ah.ext (a8.trans e)) (gI.row.ext (aJ.trans e)) (by omega))<|kF<|lx rfl<|iK K N<|cK (aJ.cell ql)<|fh _ (λw e=>Fy (az.ext (a8.trans e)) (lI.row.ext (aJ.trans e)) (by omega))<|kF ?_;intro e6 ct;exact dM.of dj (lx rfl (dM.of dj (cF ⟨by omega,(),by trivial,aO.trans (aJ.trans ct)⟩)))
end Go.Proofs.W
variable{R:Go.cP.dm}{K:dH}
namespace Go.Proofs.W
open Go.Conc Go.cP Go.RowKit
noncomputable def SI(L:cz)(f:Nat):Bool:=f==163||okF L false (λ_=>false) f
abbrev jR:=Array (Nat×Nat)
def jR.sh(a:jR)(b:Nat):Option Nat:=(a[b]?).map (·.2)
def jR.r(a:jR)(b c:Nat):Prop:=∃n,a[b]? =some (c,n)
def jR.mg{d:jR}(b c e:Nat)(h:d.r b c)(a:d.r b e):c=e:=by obtain⟨n,h⟩:=h;obtain⟨m,a⟩:=a;rw[h]at a;cases a;rfl
def jR.oq{a:jR}(b d c:Nat)(h:a.r b c)(f:a.r d c):b=d\/(a.sh b≠none/\a.sh d≠none):=by obtain⟨n,h⟩:=h;obtain⟨m,f⟩:=f;unfold jR.sh;rw[h,f];exact .inr ⟨λe=>(by cases e),λe=>(by cases e)⟩
noncomputable def Qa(L:cz)(a:jR):dm where
 S:=λg=>L.contains g
 dim:=false
 ok:=λf=>gD V.prog (λg=>L.contains g) false false
 df:=λ_=>false
 fs:=PR.funcs
 hole:=λf=>f==163
 sh:=a.sh
 r:=a.r
 mg:=jR.mg
 oq:=jR.oq
def Cj(h:l.all (SI l)=true)(f:Nat)(d:l.contains f=true)(b:f≠163):
 ∃a c,V.prog.funcs[f]? =some a/\a.body=some c/\gD V.prog (λg=>l.contains g) false false c=true/\(a.name== "runtime.NumGoroutine")=false:=by
 have:=mU.1 h f (by simpa using d);unfold SI at this;rw[show(f==163)=false by simpa using b,Bool.false_or]at this;unfold okF at this;split at this;rename_i a e;split at this;rename_i c i;simp only[dW,tE]at this;exact⟨a,c,e,i,this.1,this.2⟩;cases this;cases this
def Qb:(V.f163.name== "runtime.NumGoroutine")=false:=by kernel_rfl
def NL:(Tryz.f163.name== "runtime.NumGoroutine")=false:=by kernel_rfl
def NM:∃c,Tryz.f163.body=some c:=⟨_,xR⟩
def Ku{j:jR}(h:l.all (SI l)=true):Go.cP.Good V.prog (Qa l j):=by
 refine⟨⟨V.zero,λf a=>?_,V.Dg,As _,V.bad⟩,rfl,λf a k=>?_,⟨λf a=>?_⟩,λ⟨f,a⟩=>by cases a⟩;by_cases e:f=163;subst e;exact⟨V.f163,V.wT,V.func163,Qb,rfl⟩;obtain⟨d,c,b,g,_,i⟩:=Cj h f a e;exact⟨d,c,b,i,g⟩;have e:f≠163:=λe=>by subst e;cases k
 obtain⟨d,c,b,g,m,_⟩:=Cj h f a e;exact⟨d,c,b,g,m⟩;by_cases e:f=163;subst e;obtain⟨c,n⟩:=NM;exact⟨Tryz.f163,c,Tryz.func163,NL,n,λh=>by cases h⟩;obtain⟨d,c,b,g,_,i⟩:=Cj h f a e;exact⟨d,c,(V.wU f e).symm.trans b,i,g,λ_=>b⟩
noncomputable def NN(L:cz)(df:Nat->Bool)(a:jR):dm where
 S:=λg=>L.contains g
 dim:=false
 ok:=λf=>gD V.prog (λg=>L.contains g) false (df f)
 df:=df
 fs:=V.prog.funcs
 hole:=λ_=>false
 sh:=a.sh
 r:=a.r
 mg:=jR.mg
 oq:=jR.oq
def NO(b:R.fs=P.funcs)(h:∀f,R.S f=true->∃a c,P.funcs[f]? =some a/\(a.name== "runtime.NumGoroutine")=false/\a.body=some c):Og P R:=⟨λf e=>by obtain⟨a,c,d,g,i⟩:=h f e;exact⟨a,c,by rw[b];exact d,g,i,λ_=>d⟩⟩
def Kv{g:Nat->Bool}{i:jR}(h:l.all (okF l false g)=true):Go.cP.Good V.prog (NN l g i):=by refine⟨V.fit h,rfl,λf a _=>?_,NO (by unfold NN;dsimp only) λf a=>?_,λ_ _=>rfl⟩;obtain⟨b,c,d,e,j,_⟩:=tT h f a;exact⟨b,c,d,e,j⟩;obtain⟨b,c,d,e,_,k⟩:=tT h f a;exact⟨b,c,d,k,e⟩
def runNT_then{b c:Machine}{t d:Trace}(h:runNT P m b t=(.next c,d)):runNT P (m+k) b t=runNT P k c d:=by
 induction m generalizing b t with
 |zero=>
  simp only[runNT]at h;injection h with a e;injection a with a;subst a e;rw[cG]
 |succ m f=>
  rw[show m+1+k=(m+k)+1 from by omega];simp only[runNT]at h⊢;cases g:stepT P b with
  |mk s i=>
   rw[g]at h;cases s with
   |next j=>exact f h
   |ended o w=>simp only at h;injection h with a e;cases a
def Qc(e:Ending)(a:cn):Prop:=e=.returned (.bool true)\/(e=.panicked jh/\QZ a)
def NP{z:Nat->Bool}(hL:l.all (SI l)=true)(ac:f.all (okF f false z)=true){fn:Func}{tm:Tmp}(hf:V.prog.funcs[K]? =some fn)(ad:fn.results=#[.tmp tm])(s:K≠163)(ae:l.contains K=true)(af:f.contains K=true) (ag:PR.inits.idxOf? K=none){k v:cn}{ws:jR} (t:∀b c n:Nat,ws[b]? =some (c,n)->∃o J,v.heap[b]? =some o/\k.heap[c]? =some J/\∀p:dm,p.r=ws.r->p.sh=ws.sh->SO p n o J)(R:∀p:dm,p.r=ws.r->p.sh=ws.sh->fc p X W) (hC:∀T:Ta,Go.cP.Below v T->Calls V.prog K X (cQ v T) Qc):∃N last o q t',runNT PR (N+1) (solo (G (Frame.enter PR K W .normal) []) k) #[]=(.ended o q,t')/\runN PR N (solo (G (Frame.enter PR K W .normal) []) k)=.next last/\Go.step PR last=.ended o q/\
  Go.Conc.Good PR (λx q=>x=.bool true/\Go.RowKit.Below k.heap.size k q) last o q t':=by
 have S:Go.cP.Good jD (Qa l ws):=Ku hL;have am:ws.size<=v.me:=Nat.le_of_not_lt λh=>by obtain⟨_,_,y,_⟩:=t v.me _ _ (iY h);exact Nat.lt_irrefl _ (lt_of_heap y)
 have F:∀b,v.me<=b->ws.sh b=none:=λb hb=>by unfold jR.sh;rw[lT (by omega)];rfl
 have H:∀(p:dm),p.r=ws.r->p.sh=ws.sh->∀b c,ws.r b c->∃o J,v.heap[b]? =some o/\k.heap[c]? =some J/\Hv p (ws.sh b) o J:=λp y A b c ⟨n,P⟩=>by obtain⟨o,J,B,h4,h5⟩:=t b c n P;exact⟨o,J,B,h4,.inr ⟨n,by unfold jR.sh;rw[P];rfl,h5 p y A⟩⟩
 have U:Go.cP.Good jD (NN f z ws):=Kv ac;have ev:(V.prog.it PR.funcs)=PR:=OZ;have I:Inv jD ⟨Frame.enter jD K X .normal,[floor],v⟩:=by
  have h:Inv jD ⟨Frame.enter jD K X .normal,[floor],cQ v (qf v k)⟩:=
   ⟨NN f z ws,k,G (Frame.enter (V.prog.it (NN f z ws).fs) K W .normal) [],U,λ_=>rfl,WR.qf ⟨H _ rfl rfl,F⟩,rJ U af (R _ rfl rfl) .normal (.inl rfl),⟨[],[],rfl,rfl,.nil⟩,⟨rfl,rfl⟩,⟨rfl,rfl⟩,⟨rfl,rfl⟩⟩
  exact h.cQ v.tape
 have C:Go.cP.Reach jD (sJ K (λx _=>x=.bool true)) ⟨Frame.enter jD K X .normal,[floor],v⟩:=by refine qE sJ.callers (λc T hi Q=>?_) I λT hT=>?_;rcases Q with Q|⟨y,A,B,h4,h5⟩;exact .inl (Go.cP.Left.cQ (λx w T h=>h) c T hi Q);exact .inr ⟨y,A,B,h4,h5.cQ T⟩;obtain⟨e,q,fr,Y,Q,Z,hl⟩:=hC T hT [floor];rcases Y with rfl|⟨rfl,Y⟩;obtain⟨n,hn⟩:=Q;exact⟨n,fr,[floor],q,hn,.inl ⟨rfl,Z,_,rfl,hl⟩⟩;obtain⟨n,hn⟩:=Q;exact⟨n,fr,[floor],q,hn,.inr ⟨rfl,Z,hl.1,hl.2.1,Y⟩⟩
 have hI:CL jD PR.funcs k (Qa l ws) (λ_=>False) ⟨Frame.enter jD K X .normal,[floor],v⟩ #[G (Frame.enter (V.prog.it PR.funcs) K W .normal) []] (G (Frame.enter (V.prog.it PR.funcs) K W .normal) []) k #[] (λ_=>0):=by
  refine⟨I,S,rfl,rfl,⟨rJ S ae (R _ rfl rfl) .normal (.inl rfl),⟨[],[],rfl,rfl,.nil⟩,⟨rfl,rfl⟩,⟨rfl,rfl⟩,⟨rfl,rfl⟩⟩,⟨H _ rfl rfl,F⟩,⟨λi g hi hg=>?_,λj _=>Go.ConcN.Deaf_absent (by simp)⟩,?_,λb h=>h.elim,λ_ _ _ h=>h,λb c P hc=>?_,cJ _,λ_ _=>rfl,⟨rfl,rfl,rfl⟩,⟨λg hg=>?_,rfl,λ⟨g,hg⟩=>by cases hg⟩⟩;have:i<1:=(eU.1 hg).1;omega;have h:=past_nil;exact⟨h.clean,λi a ha hm=>by simp[touchAt,Trace.act?]at ha,h.over,h.hears,λop ah=>by simp at ah⟩;obtain⟨n,P⟩:=P;obtain⟨_,_,y,_,A⟩:=t b c n P;obtain⟨cs,fz,_,_,_,rfl,_,B,_⟩:=(A (Qa l ws) rfl rfl).out;exact⟨cs,sR,fz,y,B⟩;have e:g=163:=by have:(g==163)=true:=hg;simpa using this
  subst e;rw[V.func163,show PR.funcs[163]? =some Tryz.f163 from Tryz.func163];intro e;have:=cT Func.ntmps (cO e);rw[Tryz.ntmps163]at this;cases this
 obtain⟨N,ai,q,aa,t',q',L,O,X',a',r1,D,r3,_⟩:=lead (fs:=PR.funcs) sJ.callers (PF JX s k) _ C _ _ _ _ _ none _ _ hI
 have aj:Go.cP.Left jD K (λx _=>x=.bool true) L.fr L.cl L.v:=by
  rcases r3 with h|⟨y,A,B,h4,h5⟩;exact h;exfalso;have E:dQ jD O L.fr a'.frame:=by
   have u:=D.gor.fr;generalize E:(G L.fr L.cl).frame=fr at u;generalize al:a'.frame=an at u;cases u with
   |fr hf=>subst E;exact hf
   | @hole g hS hh X ao hx=>
    have:L.fr=Frame.enter jD g X .normal:=E;rw[this]at B;cases B
  have hm:=E.mode;rw[B]at hm;generalize a'.frame.mode=m at hm;cases hm with
  |panicking hc=>
   unfold jh at hc;cases hc with
   |cons Y _=>
    rcases Y.ok with h|h;exact D.holes.2.2 h;exact h 3 _ _ rfl
 have ak:O.hole K=false:=by
  cases h:O.hole K with
  |false=>rfl
  |true=>
   exfalso;exact D.holes.1 K h (V.wU K s)
 obtain⟨M,last,o,w2,t2,s1,s2,s3,s4⟩:=D.ends (sl:=aa) aj hf ad ak (by rw[ev];exact ag) (Post:=λx q=>x=.bool true/\Go.RowKit.Below k.me k q) λx x' d hx hv=>by subst hx;cases hv;exact⟨rfl,D.world.2.1,D.world.1,D.world.2.2,D.grown,λb hb=>D.kept b hb⟩
 rw[ev]at r1 s1 s2 s3 s4;have ab:runNT PR (N+(M+1)) (solo (G (Frame.enter PR K W .normal) []) k) #[]=(.ended o w2,t2):=(runNT_then r1).trans s1;refine⟨N+M,last,o,w2,t2,ab,?_,s3,s4⟩;have y:runNT PR (N+M) (solo (G (Frame.enter PR K W .normal) []) k) #[]=runNT PR M (crowd ai q aa) t':=runNT_then r1;have A:=runNT_fst PR (N+M) (solo (G (Frame.enter PR K W .normal) []) k) #[];rw[y,runNT_fst,s2]at A;exact A.symm
inductive VW (ws:jR):cq->cq->Prop
 |bool (b:Bool):VW ws (.bool b) (.bool b)
 |int (k:IntKind) (n:Int):VW ws (.int k n) (.int k n)
 |nil (l c:Nat):VW ws (.slice none l c) (.slice none l c)
 |slice {j b n:Nat} (l c:Nat) (h:ws[j]? =some (b,n)):VW ws (.slice (some ⟨j,0,none⟩) l c) (.slice (some ⟨b,n,none⟩) l c)
def Cp{c:Type}(a b:Array c):Prop:=∀(j:Nat) p,a[j]? =some p->b[j]? =some p
def Cp.refl{b:Type}(a:Array b):Cp a a:=λ_ _ h=>h
def Cp.trans{d:Type}{a b c:Array d}(h:Cp a b)(k:Cp b c):Cp a c:=λj p x=>k j p (h j p x)
theorem Cp.push{b:Type}(a:Array b)(x:b):Cp a (a.push x):=λj p h=>by rw[nS,cy (Nat.ne_of_lt (eU.1 h).1)];exact h
def VW.mono{e d:jR}(h:VW e x y)(k:Cp e d):VW d x y:=by
 cases h with
 |bool b=>exact .bool b
 |int a b=>exact .int a b
 |nil l c=>exact .nil l c
 |slice l c h=>exact .slice l c (k _ _ h)
def VW.vr{d:jR}(h:VW d x y){ρ:dm}(e:ρ.r=d.r)(f:ρ.sh=d.sh):VR ρ x y:=by
 cases h with
 |bool b=>exact .bool b
 |int a b=>exact .int a b
 |nil l c=>exact .fF l c
 | @slice j b n l c h=>
  refine .slice l c ?_;have:=AR.mk (ρ:=ρ) (b:=j) (c:=b) 0 none (by rw[e];exact⟨n,h⟩);rw[f,jR.sh,h,cG]at this;exact this
inductive Cq (ws:jR):List cq->List cq->Prop
 |nil:Cq ws [] []
 |cons {x y:cq} {l m:List cq} (h:VW ws x y) (t:Cq ws l m):Cq ws (x::l) (y::m)
theorem Cq.length{a:jR}(h:Cq a M Y):M.length=Y.length:=by
 induction h with
 |nil=>rfl
 |cons _ _ b=>simp[b]
def Cq.get{b:jR}(h:Cq b M Y):∀{i:Nat} {x:cq},M[i]? =some x->∃y,Y[i]? =some y/\VW b x y:=by
 induction h with
 |nil=>intro i x h;simp at h
 | @cons x y M Y h t c=>
  intro i z a;cases i with
  |zero=>simp at a;subst a;exact⟨y,rfl,h⟩
  |succ i=>simp at a;obtain⟨y,d,e⟩:=c a;exact⟨y,by simpa using d,e⟩
theorem Cq.mono{b a:jR}(h:Cq b M Y)(k:Cp b a):Cq a M Y:=by
 induction h with
 |nil=>exact .nil
 |cons h _ c=>exact .cons (h.mono k) c
def Cq.XO{a:jR}{l m:dr}(h:Cq a l m)(b:R.r=a.r)(c:R.sh=a.sh):fc R l.toArray m.toArray:=by
 refine fc.ku ?_;simp only;induction h with
 |nil=>exact .nil
 |cons h _ d=>exact .cons (h.vr b c) d
theorem Cq.self{a:jR}:∀{l:dr},(∀x∈l,VW a x x)->Cq a l l
 |[],_=>.nil
 |x::l,h=>.cons (h x (by simp)) (Cq.self λy b=>h y (by simp[b]))
structure Seen(W:cn)(ws:jR)(vs:Array (Array cq)):Prop where
 size:vs.size=ws.size
 at_:∀(j b n:Nat),ws[j]? =some (b,n)->∃cs rI t fz,vs[j]? =some cs/\W.heap[b]? =some (.cells rI t fz)/\∀(i:Nat) x,cs[i]? =some x->∃y,rI[i+n]? =some y/\VW ws x y
def FA(c:Array dU)(a:ek)(d:dr):Prop:=∀(k:Nat) x,d[k]? =some x->∃j b,a=some ⟨j,0,none⟩/\c[j]? =some b/\b[k]? =some x
def FA.mono{c b:Array dU}(h:FA c a M)(k:Cp c b):FA b a M:=λi x d=>by obtain⟨j,e,f,g,l⟩:=h i x d;exact⟨j,e,f,k _ _ g,l⟩
def Seen.none(W:cn):Seen W #[] #[]:=⟨rfl,λj b n h=>by simp at h⟩
theorem Seen.add{d:jR}{u:Array dU}(h:Seen w d u)(o p:Nat)(z:Cq d M Y) (L:∀s,a=some s->s.spot=.none/\(∃x,w.shape? s.block=some x)/\∀(i:Nat) y,Y[i]? =some y->w.cell? (s.add i)=some y)(N:a=.none->M=[]):∃q r A,Seen w q r/\Cp d q/\Cp u r/\VW q (.slice A o p) (.slice a o p)/\FA r A M/\(A=.none->a=.none):=by
 cases a with
 |none=>
  obtain rfl:=N rfl;exact⟨d,u,.none,h,.refl _,.refl _,.nil _ _,λk x g=>by simp at g,λh=>h⟩
 |some s=>
  obtain⟨b,l,I⟩:=s;obtain⟨rfl,⟨x,g⟩,O⟩:=L _ rfl;obtain⟨B,t,C,J⟩:∃B t C,w.heap[b]? =some (.cells B t C):=by simp only[World.shape?]at g;split at g;rename_i c e f h;exact⟨c,e,f,h⟩;cases g
  have D:=Cp.push d (b,l);have P:(d.push (b,l))[d.size]? =some (b,l):=by simp
  have K:(u.push M.toArray)[d.size]? =some M.toArray:=by simp[<-h.size]
  refine⟨d.push (b,l),u.push M.toArray,some ⟨d.size,0,.none⟩,⟨by simp[h.size],λj c n m=>?_⟩,D,Cp.push _ _,.slice o p P,λk x g=>⟨d.size,_,rfl,K,by simpa using g⟩,λe=>by cases e⟩;rw[nS]at m;split at m;rename_i e;subst e;cases m;refine⟨M.toArray,B,t,C,K,J,λi x g=>?_⟩;obtain⟨y,E,F⟩:=z.get (i:=i) (x:=x) (by simpa using g);have v:=O i y E;rw[iB]at v;simp only[World.cell?,J]at v;refine⟨y,?_,F.mono D⟩;rw[Nat.add_comm];simpa using v;obtain⟨G,H,Q,R,E,F,v⟩:=h.at_ j c n m;refine⟨G,H,Q,R,Cp.push _ _ _ _ E,F,λi x g=>?_⟩;obtain⟨y,S,T⟩:=v i x g;exact⟨y,S,T.mono D⟩
def NQ(b:Array dU)(w:cn):Prop:=∀(j:Nat) a,b[j]? =some a->w.heap[j]? =some (.cells a sR (0,a.size))
def FA.cell{b:Array dU}(h:FA b a M)(c:NQ b w)(k:Nat)(d:M[k]? =some x):∃j,a=some ⟨j,0,.none⟩/\w.cell? ⟨j,k,.none⟩=some x:=by obtain⟨j,e,f,g,i⟩:=h k x d;exact⟨j,f,by simp only[World.cell?,c j e g];simpa using i⟩
def Kw{k:Nat->Bool}(H:l.all (SI l)=true)(m:f.all (okF f false k)=true){E:Func}{tm:Tmp}(I:V.prog.funcs[K]? =some E)(p:E.results=#[.tmp tm])(c:K≠163)(q:l.contains K=true)(s:f.contains K=true) (u:PR.inits.idxOf? K=none){ws:jR}{z:Array dU}(J:Seen w ws z){xs args:dU}(A:∀g:dm,g.r=ws.r->g.sh=ws.sh->fc g xs args)
 (L:∀B:cn,NQ z B->Calls V.prog K xs B (ux λv a=>v=.bool true/\Ext B a)):
 ∃N last o a F,runNT PR (N+1) (solo (G (Frame.enter PR K args .normal) []) w) #[]=(.ended o a,F)/\runN PR N (solo (G (Frame.enter PR K args .normal) []) w)=.next last/\Go.step PR last=.ended o a/\Go.Conc.Good PR (λx a=>x=.bool true/\Go.RowKit.Below w.heap.size w a) last o a F:=by
 refine NP (v:={w with heap:=z.map λd=>.cells d sR (0,d.size)}) (ws:=ws) H m I p c q s u (λj b n C=>?_) A λT Y=>?_;obtain⟨d,M,t,Z,O,P,Q⟩:=J.at_ j b n C;refine⟨.cells d sR (0,d.size),_,by simp[O],P,λg R D=>⟨_,_,_,_,_,rfl,rfl,λo S=>⟨fV _,S⟩,λi x U=>?_⟩⟩;obtain⟨y,W,X⟩:=Q i x U;exact⟨y,W,X.vr R D⟩;refine(L _ λj d C=>?_).mono λe a h=>?_;simp[cQ,C];rcases h with⟨v,rfl,rfl,_⟩|h;exact .inl rfl;exact .inr h
end Go.Proofs.W
namespace Go.Proofs.YteeagjkaflglpaaGreat
open Go.ChangeShapes Go.WideShapes Go.ChangeAt Go.RowKit Go.Conc Go.Proofs.W Go.Deep
section
variable{H:Type}{enc:cw×cq->H}{w:cn}{sp:Nat->Bool}{b0:Nat}
structure Given{α:Type}(w:cn)(f:α->List cq)(a:Option Addr)(cap:Nat)(xs:List α):Prop where
 cap:xs.length<=cap
 len:xs.length<=9223372036854775807
 nil:a=none->xs=[]
 at_:∀ad,a=some ad->ad.spot=none/\(∃x,w.shape? ad.block=some x)/\∀(i:Nat) y,(xs.flatMap f)[i]? =some y->w.cell? (ad.add i)=some y
def rG{α:Type} [Inhabited α]{f:α->dr}{n:Nat}{t e:cw}(C:0<n)(q:∀x,(f x).length=n)(E:Tryz.prog.underlying t=some (.slice e))(M:Tryz.prog.cellsOf e=n) (r:∀{k:Nat} {s:dr} {x:DataW H×List MemPlace},DataW.trod enc Tryz.prog w 0 sp true k e s=some x->∃y,s=f y){v:cq}{o:Nat}{x:DataW H×List MemPlace}(u:Value.okWide Tryz.prog w .any b0 t v)(h:DataW.trod enc Tryz.prog w 0 sp true o t [v]=some x):∃a g F,v=.slice a F.length g/\Given w f a g F:=by
 rcases open_slice E h with⟨d,_⟩|⟨a,b,g,m,k,D,W,d,_,N,O,z,_,P⟩;have d:=(List.cons.inj d).1;exact⟨none,0,[],d,⟨fV _,fV _,λ_=>rfl,λQ e=>by cases e⟩⟩;have d:=(List.cons.inj d).1;subst d;obtain⟨R,S⟩:=IL E u;have T:b<=m:=by rw[z];split<;>omega
 obtain⟨X,U⟩:=choose_lt (α:=α) (n:=b) (p:=λi y=>w.cells? 0 (a.add (i*n)) n=some (f y)) λi A=>by obtain⟨s,d,V⟩:=P i (by omega);obtain⟨y,rfl⟩:=r V;rw[M]at d;exact⟨y,d⟩
 have c:((List.range b).map X).length=b:=by simp
 refine⟨some a,g,(List.range b).map X,by rw[c],⟨by rw[c];exact N,by rw[c];simp only[maxLen]at O;omega,λe=>(by cases e),λQ e=>?_⟩⟩;cases e;refine⟨R,S,λi y G=>?_⟩;have A:=(iI.1 G).1;rw[zB q,c]at A;have I:i/n<b:=(Nat.div_lt_iff_lt_mul C).2 A;have J:=Nat.mod_lt i C;have j:=Nat.div_add_mod i n;rw[Nat.mul_comm]at j;obtain⟨_,_,l⟩:=World.cells?_some (U (i/n) I);have K:=l (i%n) J;rw[add_add,j]at K;rw[K];have B:i%n<(f ((List.range b).map X)[i/n]).length:=by rw[q];exact J
 have L:=pX q ((List.range b).map X) (i/n) (by rw[c];exact I) (i%n) _ (eV B);rw[j,G]at L;rw[cO L];simp only[List.getElem_map,List.getElem_range];exact eV _
def zM{t:cw}{k:Nat}{d:dr}{x:DataW H×List MemPlace}(j:Tryz.prog.underlying t=some (.struct (Tryz.prog.fieldsOf t)))(h:DataW.trod enc Tryz.prog w 0 sp true k t d=some x){l:List (cw×Nat)}(m:(Tryz.prog.fieldsOf t).toList.map (λf=>(f.type,f.offset))=l)(i:Nat){u:cw}{o:Nat}(e:l[i]? =some (u,o)):
 ∃k y,DataW.trod enc Tryz.prog w 0 sp true k u ((d.drop o).take (Tryz.prog.cellsOf u))=some y:=by
 obtain⟨p,n,_,_,q,b,r⟩:=DataW.trod_struct j h;subst m;rw[so]at e;obtain⟨g,a,s⟩:=il.1 e;have a:(Tryz.prog.fieldsOf t)[i]? =some g:=by simpa using a
 have c:i<p.length:=by rw[b];exact(eU.1 a).1
 have:=r i g a;rw[eV c]at this;cases s;exact⟨n,_,this⟩
def II:Tryz.prog.cellsOf 81=3:=by kernel_rfl
def Qd:Tryz.prog.cellsOf 24=7:=by kernel_rfl
def Qe:Tryz.prog.cellsOf 22=1:=by kernel_rfl
def IJ:Tryz.prog.underlying 81=some (.struct (Tryz.prog.fieldsOf 81)):=by kernel_rfl
def uJ:Tryz.prog.underlying 24=some (.struct (Tryz.prog.fieldsOf 24)):=by kernel_rfl
def Q8:Tryz.prog.underlying 22=some (.slice 81):=by kernel_rfl
def Hl:(Tryz.prog.fieldsOf 81).toList.map (λf=>(f.type,f.offset))=[(3,0),(3,1),(3,2)]:=by kernel_rfl
def tB:(Tryz.prog.fieldsOf 24).toList.map (λf=>(f.type,f.offset))=[(3,0),(3,1),(3,2),(3,3),(3,4),(3,5),(22,6)]:=by kernel_rfl
def nL{k i o:Nat}{t:cw}{a:dr}{x:DataW H×List MemPlace}(c:Tryz.prog.underlying t=some (.struct (Tryz.prog.fieldsOf t)))(h:DataW.trod enc Tryz.prog w 0 sp true k t a=some x){l:List (cw×Nat)}(d:(Tryz.prog.fieldsOf t).toList.map (λf=>(f.type,f.offset))=l)(e:l[i]? =some (3,o)):∃n,a[o]? =some (.int .i64 n):=by obtain⟨k,y,g⟩:=zM c h d i e;obtain⟨n,b,_⟩:=DataW.trod_int Tryz.IK g;rw[Tryz.KX]at b;refine⟨n,?_⟩;have j:=cT (λl:dr=>l[0]?) b;simpa using j
def Hm{t:cw}{k:Nat}{b:dr}{x:DataW H×List MemPlace}(c:Tryz.prog.underlying t=some (.struct (Tryz.prog.fieldsOf t)))(h:DataW.trod enc Tryz.prog w 0 sp true k t b=some x):b.length=Tryz.prog.cellsOf t:=by obtain⟨d,n,_,_,a,_⟩:=DataW.trod_struct c h;exact a
def Kx{k:Nat}{d:dr}{x:DataW H×List MemPlace}(h:DataW.trod enc Tryz.prog w 0 sp true k 81 d=some x):∃q:Dr,d=dL q:=by
 obtain⟨a,e⟩:=nL IJ h Hl (i:=0) rfl;obtain⟨b,f⟩:=nL IJ h Hl (i:=1) rfl;obtain⟨c,g⟩:=nL IJ h Hl (i:=2) rfl;have j:=Hm IJ h;rw[II]at j;match d,j with
 |[u,v,z],_=>
  simp at e f g;exact⟨⟨a,b,c⟩,by simp[dL,e,f,g]⟩
instance:Inhabited Tq:=⟨⟨0,0,false⟩⟩
instance:Inhabited Dr:=⟨⟨0,0,0⟩⟩
def Hn{v:cq}{d:DataW H}{p:List MemPlace}(c:Value.okWide Tryz.prog w .any b0 27 v)(h:DataW.Trod enc Tryz.prog w 0 sp true 27 v d p):∃a b e,v=.slice a e.length b/\Given w iL a b e:=by obtain⟨a,g,b,rfl⟩:=okWide_slice Tryz.vH c;obtain⟨k,h⟩:=h;exact rG (f:=iL) (n:=1) (by decide) (λ_=>rfl) Tryz.vH Tryz.KX (λh=>by obtain⟨n,i,_⟩:=DataW.trod_int Tryz.IK h;exact⟨n,i⟩) c h
def Kz{v:cq}(a:Value.okWide Tryz.prog w .any b0 3 v):∃n,v=.int .i64 n:=okWide_int Tryz.IK a
def Qf:Tryz.prog.cellTypes Tryz.prog.depth 24=some [3,3,3,3,3,3,22]:=by kernel_rfl
def Ck{v:cq}{d:DataW H}{p:List MemPlace}(c:Value.okWide Tryz.prog w .any b0 24 v)(h:DataW.Trod enc Tryz.prog w 0 sp true 24 v d p):∃G a b,v=gV G a b/\Given w dL a b G.doors:=by
 simp only[Value.okWide,uJ]at c;obtain⟨l,rfl,B,O,e,_,g⟩:=c;rw[Qf]at e;cases e;obtain⟨k,h⟩:=h;have h:DataW.trod enc Tryz.prog w 0 sp true k 24 l.toList=some (d,p):=h;obtain⟨C,o⟩:=nL uJ h tB (i:=0) rfl;obtain⟨D,q⟩:=nL uJ h tB (i:=1) rfl;obtain⟨E,r⟩:=nL uJ h tB (i:=2) rfl;obtain⟨F,s⟩:=nL uJ h tB (i:=3) rfl;obtain⟨I,t⟩:=nL uJ h tB (i:=4) rfl;obtain⟨J,x⟩:=nL uJ h tB (i:=5) rfl;obtain⟨P,y,m⟩:=zM uJ h tB 6 rfl;rw[Qe]at m;have z:=Hm uJ h;rw[Qd]at z;obtain⟨l⟩:=l;match l,z with
 |[Q,R,S,T,U,V,A],_=>
  simp at o q r s t x m;subst o q r s t x;obtain⟨u,K,L⟩:=g 6 A rfl;cases K;have j:Value.okWide Tryz.prog w .any b0 22 A:=by simp only[Value.okWide,Q8];exact L
  obtain⟨a,b,M,rfl,N⟩:=rG (f:=dL) (n:=3) (by decide) (λ_=>rfl) Q8 II Kx j m;exact⟨⟨C,D,E,F,I,J,M⟩,a,b,rfl,N⟩
end
def Given.seen{m:Type}{f:m->dr}{W:cn}{g:Nat}{i:List m}(h:Given W f a g i){o:jR}{p:Array dU}(q:Seen W o p)(r:∀x,∀u∈f x,(∃k n,u=.int k n)\/∃b,u=.bool b):∃c d j,Seen W c d/\Cp o c/\Cp p d/\VW c (.slice j i.length g) (.slice a i.length g)/\FA d j (i.flatMap f)/\(j=none->i.length=0):=by obtain⟨c,d,j,s,t,v,w,y,z⟩:=q.add (a:=a) i.kq g (Cq.self (l:=i.flatMap f) λu A=>by obtain⟨x,_,B⟩:=sq.1 A;rcases r x u B with⟨k,n,rfl⟩|⟨b,rfl⟩;exact .int _ _;exact .bool _) h.at_ (λe=>by rw[h.nil e];rfl);exact⟨c,d,j,s,t,v,w,y,λe=>by rw[h.nil (z e)];rfl⟩
def zN{d:Type}{f:d->dr}{n:Nat}(p:0<n)(c:∀x,(f x).length=n){g:Array dU}{w:cn}{b:List d}(h:FA g a (b.flatMap f))(l:NQ g w):ir f n w a b:=λk m=>by
 have q:0<(f b[k]).length:=by rw[c];exact p
 obtain⟨j,e,_⟩:=h.cell l (k*n+0) (pX c b k m 0 _ (eV q));refine⟨j,0,e,λi v r=>?_⟩;obtain⟨t,o,s⟩:=h.cell l (k*n+i) (pX c b k m i v r);rw[e]at o;cases o;rw[cG];exact s
def TZ{w:cn}{l:List Dr}(h:ir dL 3 w a l):fZ w a l:=λk d=>by obtain⟨b,o,e,c⟩:=h k d;exact⟨b,o,e,c 0 _ rfl,c 1 _ rfl,c 2 _ rfl⟩
def T1{w:cn}{l:gC}(h:ir iL 1 w a l):gF w a l:=λk c=>by obtain⟨b,o,e,d⟩:=h k c;have:=d 0 _ rfl;rw[oi]at this;exact⟨b,o,e,this⟩
def Qg(x:Dr):∀u∈dL x,(∃k n,u=.int k n)\/∃b,u=.bool b:=λu a=>by simp only[dL,eO,mu,jW]at a;rcases a with rfl|rfl|rfl<;>exact .inl ⟨_,_,rfl⟩
def Qh(x:Int):∀u∈iL x,(∃k n,u=.int k n)\/∃b,u=.bool b:=λu a=>by simp only[iL,eO,mu,jW]at a;rw[a];exact .inl ⟨_,_,rfl⟩
def T2{c:jR}{d:ek}{b:Nat}(h:VW c (.slice d N.doors.length b) (.slice a N.doors.length b)){e:Go.cP.dm}(f:e.r=c.r)(g:e.sh=c.sh):Go.cP.VR e (gV N d b) (gV N a b):=
 Go.cP.fc.agg (Cq.XO (l:=gL N d b) (m:=gL N a b) (.cons (.int _ _) (.cons (.int _ _) (.cons (.int _ _) (.cons (.int _ _) (.cons (.int _ _) (.cons (.int _ _) (.cons h .nil))))))) f g)
end Go.Proofs.YteeagjkaflglpaaGreat
namespace Go.Proofs.W
open Go.Conc Go.cP Go.RowKit
def VC(f:Nat):Bool:=f==190||f==163
end Go.Proofs.W
namespace Go.Proofs.W
def Yk:cz:=[21,26,27,28,30,34,35,36,38,40,42,43,44,45,48,53,55,58,59,60,61,66,69,71,76,85,86,87,88,89,90,91,92,95,96,97,102,104,105,106,107,108,109,110,111,113,114,115,116,117,119,120,121,122,123,125,128,129,130,131,133,134,135,137,138,143,144,145,146,147,148,149,152,153,154,155,156,157,158,159,160,161,162,163,164,165,166,167,168,169,170,171,172,173,174,175,176,177,178,179,180,181,182,184,185,186,195,196,197,198,199,200,201,222,231]
def P2:cz:=[21,26,27,28,30,34,35,36,38,40,42,43,44,45,48,53,55,58,59,60,61,66,69,71,76,85,86,87,88,89,90,91,92,95,96,97,102,104,105,106,107,108,109,110,111,113,114,115,116,117,119,120,121,122,123,125,128,129,130,131,133,134,135,137,138,143,144,145,146,147,148,149,152,153,154,155,156,157,158,159,160,161,162,163,164,165,166,167,168,169,170,171,172,173,174,175,176,177,178,179,180,181,182,184,185,186,190,194,195,196,197,198,199,200,201,215,216,222,227,228,229,231]
def Yl:Yk.all (SI Yk)=true:=by kernel_rfl
def Sm:P2.all (okF P2 false VC)=true:=by kernel_rfl
end Go.Proofs.W
namespace Go.Proofs.YteeagjkaflglpaaGreat
open Go.ChangeShapes Go.WideShapes Go.ChangeAt Go.RowKit Go.Conc Go.Proofs.W
def KD{H:Type}{a:cw×cq->H}(m:laidOutB P=true)(n:Go.RowKit.Below w.heap.size w t){c:List cw}(j:(c.all λk=>P.readableRec k&&decide (k<P.types.size))=true):∀{e:dr} {f:List (DataW H)} {g:List MemPlace},DataW.TrodAll a P w 0 (λ_=>true) true c e f g->(∀x∈g,x.block<w.heap.size)->
 DataW.TrodAll a P t 0 (λb=>decide (b<w.heap.size)) true c e f g:=by
 induction c with
 |nil=>
  intro e f g h _;obtain⟨rfl,rfl,rfl⟩:=trodAll_nil h;exact trodAll_mk0
 |cons k c o=>
  intro e f g h i;obtain⟨v,e,d,f,p,q,rfl,rfl,rfl,r,s⟩:=trodAll_cons h;simp only[List.all_cons,dW,iQ]at j;exact⟨_,_,(Below.trod m j.1.1 j.1.2 r n λx l=>i x (List.mem_append_left _ l)),(o (by simpa using j.2) s λx l=>i x (List.mem_append_right _ l)),rfl⟩
def Hh(os:Os)(B:os.Started)(H:Type)(enc:cw×cq->H):ReturnsInLeavingWide {} Tryz.checked os 21 .any (Rows.roundWalksSpec.pre6 enc Tryz.prog Tryz.f21 Rows.roundWalksRow.domain false) (Rows.roundWalksSpec.post enc Tryz.prog Tryz.f21 false true false false):=by
 refine returnsInLeavingWide_of_change_sized (C:=Tryz.checked) Tryz.own B Tryz.func21 (ChangeSpec.witness6 (enc:=enc) (C:=Tryz.checked) false ⟨#[],#[.agg #[i64 0,i64 0,i64 0,i64 0,i64 0,i64 0,jK],i64 0,i64 0,jK,i64 0,i64 0,jK],[]⟩ 8 (by kernel_rfl) (by kernel_rfl) (by kernel_rfl) (by kernel_rfl)) ?_;intro D N args ds gs P E hW _ _ _;have z:∀(j:Nat) t v,Tryz.f21.params[j]? =some t->args[j]? =some v->Value.okWide Tryz.prog D .any N t v:=E;have F:=hW;obtain⟨p,q,Q,hV,rfl,_,_⟩:=hW;have hA:DataW.TrodAll enc Tryz.prog D 0 (λ_=>true) true Tryz.f21.params.toList args.toList ds p:=Q;have O:Tryz.f21.params=#[24,3,3,27,3,3,27]:=by kernel_rfl
 obtain⟨rfl,rfl⟩:=trodVars_none hV;simp only[List.append_nil]at F;have R:∀x∈p,x.block<D.me:=λx hx=>by simpa using F.lt x hx
 have I:∀(J:cn),Go.RowKit.Below D.me D J->DataW.TrodAll enc Tryz.prog J 0 (λb=>decide (b<D.me)) true Tryz.f21.params.toList args.toList ds p:=
  λJ hn=>KD Tryz.laidOut hn (by kernel_rfl) hA R
 have u:=hA;rw[O]at u z;obtain⟨v0,l,d0,k0,p0,q,e0,rfl,_,h0,u⟩:=trodAll_cons u;obtain⟨v1,l,d1,k1,p1,q,rfl,rfl,_,h1,u⟩:=trodAll_cons u;obtain⟨v2,l,d2,k2,p2,q,rfl,rfl,_,h2,u⟩:=trodAll_cons u;obtain⟨v3,l,d3,k3,p3,q,rfl,rfl,_,h3,u⟩:=trodAll_cons u;obtain⟨v4,l,d4,k4,p4,q,rfl,rfl,_,h4,u⟩:=trodAll_cons u;obtain⟨v5,l,d5,k5,p5,q,rfl,rfl,_,h5,u⟩:=trodAll_cons u;obtain⟨v6,l,d6,k6,p6,q,rfl,rfl,_,h6,u⟩:=trodAll_cons u;obtain⟨rfl,rfl,_⟩:=trodAll_nil u;have ea:args=#[v0,v1,v2,v3,v4,v5,v6]:=by cases args;simp_all
 subst ea;obtain⟨G,da,dc,rfl,g0⟩:=Ck (z 0 24 v0 rfl rfl) h0;obtain⟨x,rfl⟩:=Kz (z 1 3 v1 rfl rfl);obtain⟨y,rfl⟩:=Kz (z 2 3 v2 rfl rfl);obtain⟨wa,wc,wk,rfl,S⟩:=Hn (z 3 27 v3 rfl rfl) h3;obtain⟨K,rfl⟩:=Kz (z 4 3 v4 rfl rfl);obtain⟨L,rfl⟩:=Kz (z 5 3 v5 rfl rfl);obtain⟨na,nc,ns,rfl,g6⟩:=Hn (z 6 27 v6 rfl rfl) h6;obtain⟨aa,ab,T,S0,_,_,W0,R0,N0⟩:=g0.seen (Seen.none D) Qg;obtain⟨ac,ad,U,d,e,g,W3,i,N3⟩:=S.seen S0 Qh;obtain⟨ae,af,W,k,a,c,m,r,s⟩:=g6.seen d Qh
 obtain⟨M,last,o,w',t',r1,r2,r3,r4⟩:=Kw Yl Sm (V.fn Tryz.func21 (by decide)) (tm:=14) (by kernel_rfl) (by decide) (by decide) (by decide) (by kernel_rfl) k
  (xs:=#[gV G T dc,i64 x,i64 y,.slice U wk.kq wc,i64 K,i64 L,.slice W ns.kq nc]) (args:=#[gV G da dc,i64 x,i64 y,.slice wa wk.kq wc,i64 K,i64 L,.slice na ns.kq nc]) (λρ X Y=>Go.cP.fc.ku (.cons (T2 (W0.mono (e.trans a)) X Y) (.cons (.int _ _) (.cons (.int _ _) (.cons ((W3.mono a).vr X Y) (.cons (.int _ _) (.cons (.int _ _) (.cons (m.vr X Y) .nil))))))))
  (λw Z=>Hg (TZ (zN (f:=dL) (n:=3) (by decide) (λ_=>rfl) (R0.mono (g.trans c)) Z)) g0.len x y
   (T1 (zN (f:=iL) (n:=1) (by decide) (λ_=>rfl) (i.mono c) Z)) S.len S.cap K L (T1 (zN (f:=iL) (n:=1) (by decide) (λ_=>rfl) r Z)) g6.len)
 refine⟨M,last,o,w',t',r1,r2,r3,r4.mono λv hF=>?_⟩;obtain⟨rfl,A⟩:=hF;exact⟨_,_,_,[],p,[],F,trodAll_mk1 (Go.RowKit.shut_bool Tryz.SM true),I _ A,rfl,A.frame _,λh=>by cases h⟩
def KF:Tryz.pinned.checked.prog.funcNamed Rows.roundWalksRow.func=some 21:=by kernel_rfl
def NU:Tryz.f21.isInstance Tryz.pinned.checked.prog Rows.roundWalksRow.origin Rows.roundWalksRow.targs:=dO (by kernel_rfl)
def NV:Tryz.f21.isWrapper Tryz.pinned.checked.prog Rows.roundWalksRow.wrapper Rows.roundWalksRow.mainSum:=by unfold Func.isWrapper;first|(rw[cB (by decide+kernel)];kernel_rfl)|(rw[cy (by decide+kernel)];exact⟨rfl,rfl⟩)
def roundWalks_holds:Rows.RoundWalksSaid:=
 OpenClaim.holds_of_wide_leaving 21 Tryz.f21 rfl rfl rfl rfl rfl rfl rfl ⟨rfl,rfl,rfl,rfl,rfl⟩ rfl rfl rfl rfl rfl KF Tryz.func21 Kp NU NV (λc a H b _=>Hh c a H b)
#print axioms roundWalks_holds
end Go.Proofs.YteeagjkaflglpaaGreat
