/- RoundLeft holds: without the doors of Leave the canvassers are enough, and without fewer, or without a list of as many that comes before, they are not, for every list of numbers. Conditions: none. -/
import Derived.Conc.CrowdTrace
import Derived.Below
import Derived.Conc.LeavingOf
import Derived.Carry
import Derived.ChangeSlices
import Derived.WideShapes
import Derived.Test.YteeagjkaflglpaaGreatRows
import Derived.JoinedOf
import Derived.KernelRfl
import Derived.Test.YteeagjkaflglpaaGreatX05
set_option maxRecDepth 100000
set_option maxHeartbeats 8000000
set_option linter.all false
variable{m k i j o p s d:Nat}{w t e:cd}{x y z:ce}{a:Option Go.Addr}{I J:Int}
namespace Go.Proofs.W
open Go.RowKit
def mC(b:Nat)(w:cd)(v:ce)(a:List Dr):Prop:=cA b 81 [.int .i64 0,.int .i64 0,.int .i64 0] w v a.length (a.flatMap dL)
theorem B7:∀a:List Dr,(a.flatMap dL).length=a.length*3
 |[]=>rfl
 |d::r=>by have:=B7 r;simp[dL,this];omega
def mC.row{d:List Dr}(h:mC m w x d):∃a c,x=.slice a d.length c/\gD w a d/\d.length<=c:=by obtain⟨p,⟨g,rfl⟩|⟨b,c,q,r,rfl,e,s,j,t,f,u⟩⟩:=h;exact⟨none,0,by rw[g],λk i=>by omega,by omega⟩;refine⟨_,c,rfl,λk i=>?_,j⟩;obtain⟨l,n,o⟩:=uI d k i;have g:=B7 d;refine⟨b,0,rfl,ci e ?_,ci e ?_,ci e ?_⟩;rw[cB,f _ (by omega)];exact l;rw[cB,f _ (by omega)];exact n;rw[cB,f _ (by omega)];exact o
def mC.Ie{b:List Dr}(h:mC m w (.slice a b.length k) b):gD w a b:=by obtain⟨c,d,e,h,_⟩:=h.row;injection e with e;rw[e];exact h
structure B8(n:Int)(d:Dr):Prop where
 st:0<=d.st/\d.st<=n-1
 at_:0<=d.at_/\d.at_<=20
 talk:1<=d.talk/\d.talk<=9
theorem xv:∀{f:List Dr},(∀d∈f,B8 I d)->nz I f=0
 |[],_=>rfl
 |d::r,h=>by
  have e:=h d eR;have:rF I d=0:=by have a:=e.st;have b:=e.at_;have c:=e.talk;simp[rF,jX,a,b,c]
  simp only[nz,this,cX];exact xv λx g=>h x (eI _ g)
def GE(c:Nat)(v:ce)(a b:cd):Prop:=cN (λx=>x=c\/cw v x) a b/\(gI c a->gI c b)
def DE.ge(h:DE m w t):GE m x w t:=⟨h.1.trans (cN.refl (λ_=>False) _) (λ_ _ h=>.inl h) λ_ _ h=>h.elim,h.2⟩
def W6(d:Nat)(v:ce):fw (GE d v):=⟨λw=>((Ext.refl w).de d).ge,λa b c h k=>⟨h.1.trans k.1 (λ_ _ h=>h) λ_ _ h=>h,λx=>k.2 (h.2 x)⟩,λw=>((Ext.drew w).de d).ge⟩
structure ZB(n0 gb:Nat)(st co kn mi da tr:Int)(ds:List Dr)(v:ce)(w:cd):Prop where
 g:w.heap[gb]? =some (.cells #[.int .i64 st,.int .i64 co,.int .i64 kn,.int .i64 mi,.int .i64 da,.int .i64 tr,v] 24)
 r:mC n0 w v ds
 ok:∀d∈ds,B8 st d
def Lp(p:Int->Prop)(v:ce):Prop:=∃z:Int,v=.int .i64 z/\p z
def mC.low{a:List Dr}(h:mC m w x a)(g:k<=m):mC k w x a:=by obtain⟨d,h|⟨b,c,e,i,f⟩⟩:=h;exact⟨d,.inl h⟩;exact⟨d,.inr ⟨b,c,e,by omega,f⟩⟩
def jB(h:gI m w)(n:Nat)(hn:n<=5):Calls V.prog 28 #[cK m,.int .i64 n] w (fy λv Z=>DE m w Z/\∃G a c,v=gV G a c/\mC w.heap.size Z (.slice a G.doors.length c) G.doors/\gD Z a G.doors/\eg G=0/\G.doors.length<=n):=by
 have aE:=h.lt;refine go V.func28 Tryz.ntmps28 ?_;refine eF λw1 rb e1 aF hr=>?_;have f:=h.ext e1;have aD:=cF.lt_of_heap hr;have ar:=e1.size;refine ck (kN f 1 3 (by omega) (by omega) (by omega)) ?_;rintro _ w2 ⟨⟨F,rfl,s1,s2⟩,O⟩;refine ck (kN (O.2 f) 1 5 (by omega) (by omega) (by omega)) ?_;rintro _ t ⟨⟨co,rfl,c1,c2⟩,d3⟩;replace d3:=O.trans d3;refine ck (kN (d3.2 f) 1 3 (by omega) (by omega) (by omega)) ?_;rintro _ B ⟨⟨kn,rfl,k1,k2⟩,d4⟩;replace d4:=d3.trans d4;refine ck (kN (d4.2 f) 20 45 (by omega) (by omega) (by omega)) ?_;rintro _ w5 ⟨⟨a1,rfl,a2,a3⟩,d5⟩;replace d5:=d4.trans d5;refine ck (kN (d5.2 f) 30 60 (by omega) (by omega) (by omega)) ?_;rintro _ w6 ⟨⟨b1,rfl,b2,b3⟩,d6⟩;replace d6:=d5.trans d6;refine ck (kN (d6.2 f) 1 90 (by omega) (by omega) (by omega)) ?_;rintro _ w7 ⟨⟨x1,rfl,x2,x3⟩,d7⟩;replace d7:=d6.trans d7;refine dJ [.int .i64 a1,.int .i64 b1,.int .i64 x1] 3 λw8 mb e8 aG D=>?_;have d8:=d7.trans (e8.de m);have s7:=d7.1.size;refine ck (Dw (l:=[a1,b1,x1]) (d8.2 f) (lz D) (by simp) (by simp) (λb o e=>by injection e with e;injection e with e;omega)) ?_;rintro _ w9 ⟨⟨S,ad,rfl⟩,d9⟩;replace d9:=d8.trans d9;have ad:1<=S/\S<=90:=by simp only[eQ,sN,ou]at ad;omega
 refine dJ [.int .i64 1,.int .i64 2,.int .i64 2,.int .i64 3,.int .i64 3] 3 λaH yb au aI hy=>?_;have aa:=d9.trans (au.de m);have s9:=d9.1.size;refine ck (Dw (l:=[1,2,2,3,3]) (aa.2 f) (lz hy) (by simp) (by simp) (λb o e=>by injection e with e;injection e with e;omega)) ?_;rintro _ aJ ⟨⟨P,ae,rfl⟩,J⟩;replace J:=aa.trans J;have ae:1<=P/\P<=3:=by simp only[eQ,sN,ou]at ae;omega
 refine dA (.agg #[.int .i64 F,.int .i64 co,.int .i64 kn,.int .i64 S,.int .i64 P,.int .i64 0,.slice none 0 0]) (eF λaK Q av aw hg=>cZ hg λaf ax H=>?_);replace H:af.heap[Q]? =some (.cells #[.int .i64 F,.int .i64 co,.int .i64 kn,.int .i64 S,.int .i64 P,.int .i64 0,.slice none 0 0] 24):=H;have aL:=J.1.size;have T:DE m w1 af:=J.trans ((Ext.cy av ax aw).de m);refine cu (ci H rfl) (ck (kN (T.2 f) 1 P (by omega) (by omega) (by omega)) ?_);rintro _ aM ⟨⟨tr,rfl,t1,t2⟩,U⟩;have ag:=U.1.fg H (show¬Q=m by omega);refine cZ ag λah ai K=>?_;replace K:ah.heap[Q]? =some (.cells #[.int .i64 F,.int .i64 co,.int .i64 kn,.int .i64 S,.int .i64 P,.int .i64 tr,.slice none 0 0] 24):=K;have aj:DE m w1 ah:=⟨(T.trans U).1.trans ai (λ_ _ h=>h) (λx A e=>by omega),λx=>((T.trans U).2 x).keep ai λb e=>by omega⟩;refine ck (nJ (aj.2 f) n (by omega)) ?_;rintro _ aN ⟨⟨z,rfl,z1,z2⟩,L⟩;have ak:=L.1.fg K (show¬Q=m by omega);replace L:=aj.trans L;have al:=L.1.fg hr (show¬rb=m by omega);clear U T J aa d9 d8 d7 d6 d5 d4 d3 O;refine dZ z.toNat (λ_ (s:(List Dr×ce)×Int)=>[(0,cK m),(4,cK rb),(5,cK Q),(6,.int .i64 s.2)]) (λk s Z=>DE m w1 Z/\ZB w1.heap.size Q F co kn S P tr s.1.1 s.1.2 Z/\Z.heap[rb]? =some (.cells (sH 24).toArray 24)/\s.1.1.length=k/\s.2=z-k) (([],.slice none 0 0),z) ⟨⟨rfl,rfl,rfl,rfl,trivial⟩,L,⟨ak,cA.nil _ _ _ _,λd M=>by cases M⟩,al,rfl,by simp⟩ ?_;rintro k ⟨⟨R,v⟩,i⟩ w2 hk ⟨O,D,X,am,hi⟩;simp only at D am hi;refine ny ⟨λan=>?_,λab=>?_⟩;have an:0<i:=by simpa using an
 have W:∀b,cw v b->w1.heap.size<=b/\b<w2.heap.size:=λb E=>cA.blk D.r E;have ay:¬(Q=m\/cw v Q):=by rintro(e|E);omega;obtain⟨cs,q⟩:=cA.c_ D.r E;exact eX q D.g (by decide)
 have hg:∀t,GE m v w2 t->t.heap[Q]? =some (.cells #[.int .i64 F,.int .i64 co,.int .i64 kn,.int .i64 S,.int .i64 P,.int .i64 tr,v] 24):=λt p=>p.1.fg D.g ay;have hD:=O.2 f;have s2:=O.1.size;have fresh:∀{a b:cd} {x:Nat} {o:Obj},a.heap[x]? =some o->GE m v a b->w2.heap.size<=x->b.heap[x]? =some o:=λA e ab=>e.1.fg A (by rintro(e|E);omega;have:=(W _ E).2;omega);refine fV 20 (xV m) (W6 m v) (λa b h=>h.ge) ?_;refine .exact v (λt p=>cu (ci (hg t p) rfl) ⟨rfl,(xV m).refl _⟩) ?_;refine .exact (.int .i64 F) (λt p=>cu (ci (hg t p) rfl) ⟨rfl,(xV m).refl _⟩) ?_;refine .exact (.int .i64 (F-1)) (λt p=>fx ⟨rfl,(xV m).refl _⟩) ?_;refine .rel (λu _=>Lp (λx=>0<=x/\x<=F-1) u) (λ_ _ _ h _=>h) (λt p=>ck (nJ (p.2 hD) _ (by omega)) λu B ⟨⟨x,e,f,I⟩,d⟩=>⟨⟨x,e,by omega⟩,d⟩) ?_;refine .rel (λu _=>Lp (λx=>0<=x/\x<=20) u) (λ_ _ _ h _=>h) (λt p _ _=>ck (nJ (p.2 hD) 9 (by omega)) λu B ⟨⟨x,e,f,I⟩,d⟩=>⟨⟨x,e,by omega⟩,d⟩) ?_;refine .rel (λu _=>Lp (λx=>0<=x/\x<=20) u) (λ_ _ _ h _=>h) (λt p _ _=>ck (nJ (p.2 hD) 9 (by omega)) λu B ⟨⟨x,e,f,I⟩,d⟩=>⟨⟨x,e,by omega⟩,d⟩) ?_;refine .rel (λu _=>Lp (λx=>0<=x/\x<=20) u) (λ_ _ _ h _=>h) (λt p _ _=>ck (nJ (p.2 hD) 20 (by omega)) λu B ⟨⟨x,e,f,I⟩,d⟩=>⟨⟨x,e,by omega⟩,d⟩) ?_;refine .rel (λu B=>∃b x y z:Int,∃C:Nat,u=.slice (some ⟨C,0,none⟩) 3 3/\w2.heap.size<=C/\B.heap[C]? =some (.cells ([x,y,z].map (Value.int .i64)).toArray 3)/\∀j∈[x,y,z],0<=j/\j<=20) (λu a b ⟨_,x,y,z,C,f,I,Y,h4⟩ e=>⟨0,x,y,z,C,f,I,fresh Y e I,h4⟩) (λt p u1 f u2 I u3 Y=>?_) ?_;obtain⟨x,rfl,A⟩:=f;obtain⟨y,rfl,hy⟩:=I;obtain⟨z,rfl,hz⟩:=Y;have:=p.1.size;refine dJ [.int .i64 z,.int .i64 y,.int .i64 x] 3 λB C N ao E=>⟨⟨0,z,y,x,C,rfl,by omega,E,?_⟩,N.de m⟩;intro j hj;simp only[eQ,sN,ou]at hj;omega;refine .rel (λu _=>Lp (λx=>0<=x/\x<=20) u) (λ_ _ _ h _=>h) (λt p u1 f _ _=>?_) ?_;obtain⟨_,x,y,z,C,rfl,g1,g2,g3⟩:=f;refine ck (Dw (l:=[x,y,z]) (p.2 hD) (lz g2) (by simp) (by simp) (λb o e=>by injection e with e;injection e with e;omega)) λu B ⟨⟨j,hj,e⟩,d⟩=>⟨⟨j,e,g3 j hj⟩,d⟩;refine .rel (λu _=>Lp (λx=>1<=x/\x<=9) u) (λ_ _ _ h _=>h) (λt p _ _=>ck (kN (p.2 hD) 1 6 (by omega) (by omega) (by omega)) λu B ⟨⟨x,e,f,I⟩,d⟩=>⟨⟨x,e,by omega⟩,d⟩) ?_;refine .rel (λu _=>∃d,B8 F d/\u=.agg (dL d).toArray) (λ_ _ _ h _=>h) (λt p u1 f u2 I u3 Y=>?_) ?_;obtain⟨x,rfl,A⟩:=f;obtain⟨y,rfl,hy⟩:=I;obtain⟨z,rfl,hz⟩:=Y;exact dA (.agg (dL ⟨z,y,x⟩).toArray) ⟨⟨⟨z,y,x⟩,⟨hz,hy,A⟩,rfl⟩,(xV m).refl _⟩;refine .rel (λu B=>∃(d:Dr) (C:Nat),B8 F d/\u=.slice (some ⟨C,0,none⟩) 1 1/\w2.heap.size<=C/\B.heap[C]? =some (.cells (dL d).toArray 81)) (λu a b ⟨d,C,f,I,Y,h4⟩ e=>⟨d,C,f,I,Y,fresh h4 e Y⟩) (λt p u1 f=>?_) ?_;obtain⟨d,M,rfl⟩:=f;have:=p.1.size;exact dJ (dL d) 81 λB C N ao E=>⟨⟨d,C,M,rfl,by omega,E⟩,N.de m⟩;refine .spec (λu B=>∃d,B8 F d/\mC w1.heap.size B u (R++[d])) (λu a b ⟨d,M,hu⟩ e=>⟨d,M,cA.keep hu e.1 λx A e=>by have:=(cA.blk hu A).1;have:=f.lt;omega⟩) (λB N u1 f _ _=>?_) ?_;obtain⟨d,C,M,rfl,ao,E⟩:=f;have az:mC w1.heap.size B v R:=cA.keep D.r N.1 λx A e=>by have:=(cA.blk D.r A).1;have:=h.lt;omega
 have:=N.1.size;refine fP Tb az (by omega) E (by omega) λv' w5 g1 g2 g3=>⟨⟨d,M,by simpa[mC]using g1⟩,g2.trans (cN.refl (λ_=>False) _) (λ_ _ h=>.inr h) (λ_ _ h=>h.elim),λx=>x.keep g2 λb E=>?_⟩;have:=(W b E).1;omega;rintro B N u1 ⟨d,M,hu⟩ _ _ _ _ _ _ _ _ _ _ _ _ _ _ _ _ _ _;obtain⟨a9,c9,rfl,_⟩:=mC.row hu;have q4:=hg B N;refine cZ q4 λw5 k5 aA=>fx ⟨by omega,((R++[d],.slice a9 (R++[d]).length c9),i-1),⟨rfl,rfl,rfl,rfl,trivial⟩,⟨(O.1.trans N.1 (λ_ _ h=>h) λx A e=>?_).trans k5 (λ_ _ h=>h) λx A e=>by omega,λx=>(N.2 (O.2 x)).keep k5 λb e=>by omega⟩,⟨aA,cA.keep hu k5 λx A e=>?_,λx A=>?_⟩,?_,by simp;omega,by simp only;omega⟩;rcases e with e|e;exact e;have:=(W x e).1;omega;subst e;obtain⟨cs,q⟩:=cA.c_ hu A;exact eX q q4 (by decide);rcases gl.1 A with A|A;exact D.ok x A;rcases fD.1 A with rfl;exact M;refine k5.fg (N.1.fg X ?_) (by omega);rintro(e|E);omega;have:=(W _ E).1;omega;have ab:i<=0:=by simpa using ab
 obtain⟨a,c,rfl,aO,hc⟩:=mC.row D.r;obtain⟨G,hG⟩:∃G:Gd,G=⟨F,co,kn,S,P,tr,R⟩:=⟨_,rfl⟩;have ac:R=G.doors:=by rw[hG]
 have hg:w2.heap[Q]? =some (.cells (gL G a c).toArray 24):=by rw[hG];exact D.g
 refine di hg (cZ X λt k3 ap=>?_);have aB:t.heap[rb]? =some (.cells (gL G a c).toArray 24):=ap.trans (cM (λa=>some (Obj.cells a 24)) (dV (sH 24).toArray (gL G a c) rfl));have hl:Sem.run V.prog (loadVar 24 ⟨rb,0,none⟩) t=.ok (gV G a c) t:=pQ (gL G a c) aB λj v hj=>by rw[cB];simpa using hj
 clear ap;have aq:∀x,cw (.slice a R.length c) x->¬x=rb:=λx A e=>by have:=(cA.blk D.r A).1;omega
 refine⟨gV G a c,hl,_,rfl,⟨((e1.keep _).trans O.1 (λ_ _ h=>h) λ_ _ h=>h).trans k3 (λ_ _ h=>h) λx A e=>by omega,λx=>(O.2 (x.ext e1)).keep k3 λb e=>by omega⟩,G,a,c,rfl,?_,?_,?_,by rw[<-ac];omega⟩;rw[<-ac];exact mC.low (cA.keep D.r k3 aq) ar;rw[<-ac];exact mC.Ie (cA.keep D.r k3 aq);have aC:∀d∈R,B8 F d:=D.ok;rw[hG];have M:=xv aC;have hh:pg ⟨F,co,kn,S,P,tr,R⟩=true:=by simp only[pg,jX,ez,jk];omega
 have h5:¬(5:Int)<R.length:=by omega
 simp only[eg,hh,cX,h5,eo];exact M
end Go.Proofs.W
variable{A B C:Nat->Prop}{R:Go.cF.cR}{l f:List Nat}{K:cm}{P:cf}
namespace Go.Proofs.W
open Go.Conc Go.cF Go.RowKit
noncomputable def OC(L:List Nat)(f:Nat):Bool:=f==163||okF L false (λ_=>false) f
noncomputable def OD(L:List Nat)(B:Nat->Prop)(sh:Nat->Option Nat):cR where
 S:=λg=>L.contains g
 dim:=false
 ok:=λf=>gh V.prog (λg=>L.contains g) false false
 df:=λ_=>false
 fs:=PR.funcs
 hole:=λf=>f==163
 sh:=sh
 r:=λb c=>b=c/\B b
 inj₁:=λ_ _ _ h a=>h.1.symm.trans a.1
 inj₂:=λ_ _ _ h a=>h.1.trans a.1.symm
def Dx(h:l.all (OC l)=true)(f:Nat)(d:l.contains f=true)(b:f≠163):
 ∃a c,V.prog.funcs[f]? =some a/\a.body=some c/\gh V.prog (λg=>l.contains g) false false c=true/\(a.name== "runtime.NumGoroutine")=false:=by
 have:=jF.1 h f (by simpa using d);unfold OC at this;rw[show(f==163)=false by simpa using b,Bool.false_or]at this;unfold okF at this;split at this;rename_i a e;split at this;rename_i c i;simp only[ez,yu]at this;exact⟨a,c,e,i,this.1,this.2⟩;cases this;cases this
def QV:(V.f163.name== "runtime.NumGoroutine")=false:=by kernel_rfl
def OE:(Tryz.f163.name== "runtime.NumGoroutine")=false:=by kernel_rfl
def OF:∃c,Tryz.f163.body=some c:=⟨_,yX⟩
def Lq{j:Nat->Option Nat}(h:l.all (OC l)=true):Go.cF.Good V.prog (OD l B j):=by
 refine⟨⟨V.zero,λf a=>?_,V.EI,Bv _,V.bad⟩,rfl,λf a k=>?_,⟨λf a=>?_⟩,λ⟨f,a⟩=>by cases a⟩;by_cases e:f=163;subst e;exact⟨V.f163,V.xX,V.func163,QV,rfl⟩;obtain⟨d,c,b,g,_,i⟩:=Dx h f a e;exact⟨d,c,b,i,g⟩;have e:f≠163:=λe=>by subst e;cases k
 obtain⟨d,c,b,g,m,_⟩:=Dx h f a e;exact⟨d,c,b,g,m⟩;by_cases e:f=163;subst e;obtain⟨c,n⟩:=OF;exact⟨Tryz.f163,c,Tryz.func163,OE,n,λh=>by cases h⟩;obtain⟨d,c,b,g,_,i⟩:=Dx h f a e;exact⟨d,c,(V.xY f e).symm.trans b,i,g,λ_=>b⟩
noncomputable def Ig(L:List Nat)(df:Nat->Bool)(B:Nat->Prop)(sh:Nat->Option Nat):cR where
 S:=λg=>L.contains g
 dim:=false
 ok:=λf=>gh V.prog (λg=>L.contains g) false (df f)
 df:=df
 fs:=V.prog.funcs
 hole:=λ_=>false
 sh:=sh
 r:=λb c=>b=c/\B b
 inj₁:=λ_ _ _ h a=>h.1.symm.trans a.1
 inj₂:=λ_ _ _ h a=>h.1.trans a.1.symm
def OG(b:R.fs=P.funcs)(h:∀f,R.S f=true->∃a c,P.funcs[f]? =some a/\(a.name== "runtime.NumGoroutine")=false/\a.body=some c):Rj P R:=⟨λf e=>by obtain⟨a,c,d,g,i⟩:=h f e;exact⟨a,c,by rw[b];exact d,g,i,λ_=>d⟩⟩
def Lr{g:Nat->Bool}{i:Nat->Option Nat}(h:l.all (okF l false g)=true):Go.cF.Good V.prog (Ig l g B i):=by refine⟨V.fit h,rfl,λf a _=>?_,OG (by unfold Ig;dsimp only) λf a=>?_,λ_ _=>rfl⟩;obtain⟨b,c,d,e,j,_⟩:=uz h f a;exact⟨b,c,d,e,j⟩;obtain⟨b,c,d,e,_,k⟩:=uz h f a;exact⟨b,c,d,k,e⟩
def runNT_then{b c:Machine}{t d:Trace}(h:runNT P m b t=(.next c,d)):runNT P (m+k) b t=runNT P k c d:=by
 induction m generalizing b t with
 |zero=>
  simp only[runNT]at h;injection h with a e;injection a with a;subst a e;rw[cB]
 |succ m f=>
  rw[show m+1+k=(m+k)+1 from by omega];simp only[runNT]at h⊢;cases g:stepT P b with
  |mk s i=>
   rw[g]at h;cases s with
   |next j=>exact f h
   |ended o w=>simp only at h;injection h with a e;cases a
def Jz(e:Ending)(a:cd):Prop:=e=.returned (.bool true)\/(e=.panicked iL/\R2 a)
def Gm{p:Nat->Bool}(hL:l.all (OC l)=true)(aa:f.all (okF f false p)=true){fn:Func}{tm:Tmp}(hf:V.prog.funcs[K]? =some fn)(ab:fn.results=#[.tmp tm])(r:K≠163)(ac:l.contains K=true)(ad:f.contains K=true) (ae:PR.inits.idxOf? K=none){k xs:Array ce}{W v:cd}{sh:Nat->Option Nat} (s:∀b,B b->∃o H,v.heap[b]? =some o/\W.heap[b]? =some H/\GJ (OD l B sh) (sh b) o H/\GJ (Ig f p B sh) (sh b) o H/\wN v b)(D:∀c,W.heap.size<=c->sh c=none)(af:eT (OD l B sh) xs k)(ag:eT (Ig f p B sh) xs k) (hC:∀T:Ta,Go.cF.Below v T->Calls V.prog K xs (cI v T) Jz):∃N last o q t',runNT PR (N+1) (solo (G (Frame.enter PR K k .normal) []) W) #[]=(.ended o q,t')/\runN PR N (solo (G (Frame.enter PR K k .normal) []) W)=.next last/\Go.step PR last=.ended o q/\
  Go.Conc.Good PR (λx q=>x=.bool true/\Go.RowKit.Below W.heap.size W q) last o q t':=by
 have P:Go.cF.Good V.prog (OD l B sh):=Lq hL;have Q:Go.cF.Good V.prog (Ig f p B sh):=Lr aa;have ev:(V.prog.ir PR.funcs)=PR:=PZ;have E:Inv V.prog ⟨Frame.enter V.prog K xs .normal,[floor],v⟩:=by
  have h:Inv V.prog ⟨Frame.enter V.prog K xs .normal,[floor],cI v (qq v W)⟩:=
   ⟨Ig f p B sh,W,G (Frame.enter (V.prog.ir (Ig f p B sh).fs) K k .normal) [],Q,λ_=>rfl,WR.qq ⟨λb c R=>by obtain⟨rfl,I⟩:=R;obtain⟨o,H,F,u,_,y,_⟩:=s b I;exact⟨o,H,F,u,y⟩,D⟩,rX Q ad ag .normal (.inl rfl),⟨[],[],rfl,rfl,.nil⟩,⟨rfl,rfl⟩,⟨rfl,rfl⟩,⟨rfl,rfl⟩⟩
  exact h.cI v.tape
 have z:Go.cF.Reach V.prog (sZ K (λx _=>x=.bool true)) ⟨Frame.enter V.prog K xs .normal,[floor],v⟩:=by refine qS sZ.callers (λc T hi O=>?_) E λT hT=>?_;rcases O with O|⟨F,u,y,h4,h5⟩;exact .inl (Go.cF.Left.cI (λx w T h=>h) c T hi O);exact .inr ⟨F,u,y,h4,h5.cI T⟩;obtain⟨e,q,fr,S,O,U,hl⟩:=hC T hT [floor];rcases S with rfl|⟨rfl,S⟩;obtain⟨n,hn⟩:=O;exact⟨n,fr,[floor],q,hn,.inl ⟨rfl,U,_,rfl,hl⟩⟩;obtain⟨n,hn⟩:=O;exact⟨n,fr,[floor],q,hn,.inr ⟨rfl,U,hl.1,hl.2.1,S⟩⟩
 have hI:Eb V.prog PR.funcs W (OD l B sh) (λ_=>False) ⟨Frame.enter V.prog K xs .normal,[floor],v⟩ #[G (Frame.enter (V.prog.ir PR.funcs) K k .normal) []] (G (Frame.enter (V.prog.ir PR.funcs) K k .normal) []) W #[] (λ_=>0):=by
  refine⟨E,P,rfl,rfl,⟨rX P ac af .normal (.inl rfl),⟨[],[],rfl,rfl,.nil⟩,⟨rfl,rfl⟩,⟨rfl,rfl⟩,⟨rfl,rfl⟩⟩,⟨λb c R=>?_,D⟩,⟨λi g hi X=>?_,λj _=>Go.ConcN.Deaf_absent (by simp)⟩,?_,λb h=>h.elim,λ_ _ _ h=>h,λb c R hc=>?_,cz _,λ_ _=>rfl,⟨rfl,rfl,rfl⟩,⟨λg X=>?_,rfl,λ⟨g,X⟩=>by cases X⟩⟩;obtain⟨rfl,I⟩:=R;obtain⟨o,H,F,u,y,_,_⟩:=s b I;exact⟨o,H,F,u,y⟩;have:i<1:=(eP.1 X).1;omega;have h:=past_nil;exact⟨h.clean,λi a ha hm=>by simp[touchAt,Trace.act?]at ha,h.over,h.hears,λop ah=>by simp at ah⟩;obtain⟨rfl,I⟩:=R;obtain⟨_,_,_,_,_,_,h⟩:=s b I;exact h;have e:g=163:=by have:(g==163)=true:=X;simpa using this
  subst e;rw[V.func163,show PR.funcs[163]? =some Tryz.f163 from Tryz.func163];intro e;have:=cM Func.ntmps (cE e);rw[Tryz.ntmps163]at this;cases this
 obtain⟨N,ai,q,Y,t',q',J,L,X',a',r1,A,r3,_⟩:=lead (fs:=PR.funcs) sZ.callers (Qy Lc r W) _ z _ _ _ _ _ none _ _ hI
 have aj:Go.cF.Left V.prog K (λx _=>x=.bool true) J.fr J.cl J.v:=by
  rcases r3 with h|⟨F,u,y,h4,h5⟩;exact h;exfalso;have C:dC V.prog L J.fr a'.frame:=by
   have t:=A.gor.fr;generalize C:(G J.fr J.cl).frame=fr at t;generalize al:a'.frame=am at t;cases t with
   |fr hf=>subst C;exact hf
   | @hole g hS hh xs an hx=>
    have:J.fr=Frame.enter V.prog g xs .normal:=C;rw[this]at y;cases y
  have hm:=C.mode;rw[y]at hm;generalize a'.frame.mode=m at hm;cases hm with
  |panicking hc=>
   unfold iL at hc;cases hc with
   |cons S _=>
    rcases S.ok with h|h;exact A.holes.2.2 h;exact h 3 _ _ rfl
 have ak:L.hole K=false:=by
  cases h:L.hole K with
  |false=>rfl
  |true=>
   exfalso;exact A.holes.1 K h (V.xY K r)
 obtain⟨M,last,o,w2,t2,s1,s2,s3,s4⟩:=A.ends (sl:=Y) aj hf ab ak (by rw[ev];exact ae) (Post:=λx q=>x=.bool true/\Go.RowKit.Below W.heap.size W q) λx x' d hx hv=>by subst hx;cases hv;exact⟨rfl,A.world.2.1,A.world.1,A.world.2.2,A.grown,λb I=>A.kept b I⟩
 rw[ev]at r1 s1 s2 s3 s4;have Z:runNT PR (N+(M+1)) (solo (G (Frame.enter PR K k .normal) []) W) #[]=(.ended o w2,t2):=(runNT_then r1).trans s1;refine⟨N+M,last,o,w2,t2,Z,?_,s3,s4⟩;have F:runNT PR (N+M) (solo (G (Frame.enter PR K k .normal) []) W) #[]=runNT PR M (crowd ai q Y) t':=runNT_then r1;have u:=runNT_fst PR (N+M) (solo (G (Frame.enter PR K k .normal) []) W) #[];rw[F,runNT_fst,s2]at u;exact u.symm
def Ls(f:Nat):Bool:=f==190||f==163
def OH(b a:Nat)(c:Nat):Option Nat:=if c=b then some a else none
def mK{O:Nat->Bool}(Z:l.all (OC l)=true)(C:f.all (okF f false O)=true){fn:Func}{tm:Tmp}(hf:V.prog.funcs[K]? =some fn)(D:fn.results=#[.tmp tm])(n:K≠163)(E:l.contains K=true)(F:f.contains K=true)
 (H:PR.inits.idxOf? K=none)(hC:∀(ns:List Int) (la:Option Addr) (lc:Nat) (z:cd),ja z la ns->ns.length<=9223372036854775807->Calls V.prog K #[.slice la ns.length lc] z (qa λv p=>v=.bool true/\Ext z p))
  {d cap:Nat}{j:List Int}(g:j.length=d)(hl:d<=9223372036854775807)(ha:∀A,a=some A->A.spot=none/\(∃x,w.shape? A.block=some x)/\∀i,i<d->w.cell? (A.add i)=some (.int .i64 (j.getD i 0)))(hn:a=none->d=0):
 ∃N last o p t',runNT PR (N+1) (solo (G (Frame.enter PR K #[.slice a d cap] .normal) []) w) #[]=(.ended o p,t')/\runN PR N (solo (G (Frame.enter PR K #[.slice a d cap] .normal) []) w)=.next last/\Go.step PR last=.ended o p/\Go.Conc.Good PR (λx p=>x=.bool true/\Go.RowKit.Below w.heap.size w p) last o p t':=by
 have q:∀{ns:List Int} {la:Option Addr} {z:cd},ja z la ns->ns.length<=9223372036854775807->Calls V.prog K #[.slice la ns.length cap] z Jz:=λP hl=>(hC _ _ _ _ P hl).mono λe p h=>by rcases h with⟨v,rfl,rfl,_⟩|h;exact .inl rfl;exact .inr h
 cases a with
 |none=>
  obtain rfl:=hn rfl;have hz:j=[]:=l9 g;refine Gm (v:=w) (B:=λ_=>False) (sh:=λ_=>none) Z C hf D n E F H (λb h=>h.elim) (λ_ _=>rfl) (xs:=#[.slice none 0 cap]) (eT.one (.fc _ _)) (eT.one (.fc _ _)) λT hT=>?_;exact q (ns:=[]) (la:=none) (λk Q=>by simp at Q) (by simp)
 |some A=>
  obtain⟨b,m,aa⟩:=A;obtain⟨rfl,⟨x,I⟩,hc⟩:=ha _ rfl;obtain⟨M,t,R,S⟩:∃M t R,w.heap[b]? =some (.cells M t R):=by simp only[World.shape?]at I;split at I;rename_i c e K h;exact⟨c,e,K,h⟩;cases I
  have hb:=lt_of_heap S;have U:({w with heap:=w.heap.setIfInBounds b (.cells (j.map (Value.int .i64)).toArray qO (0,d))}:cd).heap[b]? =some (.cells (j.map (Value.int .i64)).toArray qO (0,d)):=by simp[hb]
  have s:∀ρ:cR,T5 ρ m (.cells (j.map (Value.int .i64)).toArray qO (0,d)) (.cells M t R):=λρ=>by
   refine⟨_,_,_,_,_,rfl,rfl,λo W=>⟨fN _,by simpa[g]using W⟩,λi y X=>?_⟩;have hi:i<j.length:=by have:=(eP.1 X).1;simpa using this
   have Y:y=.int .i64 j[i]:=by simp[ew hi]at X;exact X.symm
   have h:=hc i (by omega);rw[fL]at h;simp only[World.cell?,S]at h;refine⟨.int .i64 j[i],?_,by rw[Y];exact .int _ _⟩;rw[Nat.add_comm];rw[getD_eq hi]at h;simpa using h
  have u:OH b m b=some m:=by simp[OH]
  have J:∀ρ:cR,ρ.r b b->ρ.sh=OH b m->eT ρ #[.slice (some ⟨b,0,none⟩) d cap] #[.slice (some ⟨b,m,none⟩) d cap]:=λρ P hs=>by refine eT.one (.slice _ _ ?_);have h:=AR.mk (ρ:=ρ) 0 none P;rw[hs,u]at h;simpa using h
  refine Gm (v:={w with heap:=w.heap.setIfInBounds b (.cells (j.map (Value.int .i64)).toArray qO (0,d))}) (B:=λx=>x=b) (sh:=OH b m) Z C hf D n E F H (λx I=>?_) (λc hc=>?_) (xs:=#[.slice (some ⟨b,0,none⟩) d cap]) (J _ ⟨rfl,rfl⟩ rfl) (J _ ⟨rfl,rfl⟩ rfl) λT hT=>?_;subst I;refine⟨_,_,U,S,?_,?_,?_⟩;rw[u];exact .inr ⟨_,rfl,s _⟩;rw[u];exact .inr ⟨_,rfl,s _⟩;exact⟨_,_,_,U,λo W=>⟨fN _,by simpa[g]using W⟩⟩;unfold OH;rw[cr (by omega)];have L:ja (cI {w with heap:=w.heap.setIfInBounds b (.cells (j.map (Value.int .i64)).toArray qO (0,d))} T) (some ⟨b,0,none⟩) j:=λk Q=>⟨b,0,rfl,by show(match({w with heap:=w.heap.setIfInBounds b (.cells (j.map (Value.int .i64)).toArray qO (0,d))}:cd).heap[b]? with|some (.cells M _ _)=>_|_=>_)=_;rw[U];simp[ew Q]⟩;have h:=q L (by omega);rw[g]at h;exact h
end Go.Proofs.W
variable{T U:cg}{h:Go.Addr}{D E:Bool}
namespace Go.Proofs.YteeagjkaflglpaaGreat
open Go.ChangeShapes Go.WideShapes Go.ChangeAt Go.RowKit Go.Conc
def gJ:List Nat:=(List.range 883).map λi=>0x1bbbefdd2f26eebbe92e64c3be1d9979efdf9fd79c3dd7e5e7bf7e7f5e70f741932ebd986be4ddd77d25cc9877c3b32f3dfbf3faf387bafcbcf7efcfebce1ee839f7cb3b26eebbe92e64c3be1d9979efdf9fd79c3dd7e5e7bf7e7f5e70f741cf5ecc35f26eebbe92e64c3be1d9979efdf9fd79c3dd7e5e7bf7e7f5e70f741cf3ef9993775df4973261df0eccbcf7efcfebce1eebf2f3dfbf3faf387ba0e9cf0ccc9bbaefa4b9930ef87665e7bf7e7f5e70f75f979efdf9fd79c3dd072cbd3341c9bbaefa4b9930ef87665e7bf7e7f5e70f75f979efdf9fd79c3dd065eb1326eebbe92e64c3be1d9979efdf9fd79c3dd7e5e7bf7e7f5e70f741cf2ebc35326eebbe92e64c3be1d9979efdf9fd79c3dd7e5e7bf7e7f5e70f741932e4d3db4c4c9bbaefa4b9930ef87665e7bf7e7f5e70f75f979efdf9fd79c3dd074e797a72dfa29e4ddd77d25cc9877c3b32f3dfbf3faf387bafcbcf7efcfebce1ee839eed39f2c2c9bbaefa4b9930ef87665e7bf7e7f5e70f75f979efdf9fd79c3dd074e7be664ddd77d25cc9877c3b32f3dfbf3faf387bafcbcf7efcfebce1ee83265e59716debbb2d2c9bbaefa4b9930ef87665e7bf7e7f5e70f75f979efdf9fd79c3dd072cba79e18b93775df4973261df0eccbcf7efcfebce1eebf2f3dfbf3faf387ba0e99b2ccc9bbaefa4b9930ef87665e7bf7e7f5e70f75f979efdf9fd79c3dd072cbd30ccc9bbaefa4b9930ef87665e7bf7e7f5e70f75f979efdf9fd79c3dd064cbdb965a793775df4973261df0eccbcf7efcfebce1eebf2f3dfbf3faf387ba0e9cf2f7cb1b26eebbe92e64c3be1d9979efdf9fd79c3dd7e5e7bf7e7f5e70f741cf761d94326eebbe92e64c3be1d9979efdf9fd79c3dd7e5e7bf7e7f5e70f741932f3e597b65a593775df4973261df0eccbcf7efcfebce1eebf2f3dfbf3faf387ba0e797b72cb4f26eebbe92e64c3be1d9979efdf9fd79c3dd7e5e7bf7e7f5e70f741d30a0e9d71a064cb2e362df132cadd8b460e33316ce596272ddb32c2e30b962e19e4c6d7333c4d5be560d9ce36199cb372d5937cad9bb0c787132c98593941cf9e5ddcb0e8/128^i%128
def Al:Tryz.pinned.checked.prog.initOrder=String.ofList (gJ.map Char.ofNat):=by kernel_rfl
def qf:Tryz.pinned.checked.prog.initOrder.toList=gJ.map Char.ofNat:=by rw[Al,String.toList_ofList]
def qg:(behindMainWord (wordsSigns (gJ.map Char.ofNat))).head?=some "cut".toList:=by kernel_rfl
def qh:∃r,behindMainWord (wordsSigns (gJ.map Char.ofNat))= "cut".toList::r:=by
 have h:=qg;revert h;generalize behindMainWord (wordsSigns (gJ.map Char.ofNat))=l;intro h;cases l with
 |nil=>cases h
 |cons x r=>exact⟨r,by rw[cE h]⟩
def t1:("cut".toList== "gc".toList)=false:=by kernel_rfl
def t2:("cut".toList== "spec".toList)=false:=by kernel_rfl
def t3:("cut".toList== "cut".toList)=true:=by kernel_rfl
def t4:("cut".toList== "carried".toList)=false:=by kernel_rfl
def t5(r:List (List Char)):(stripLifts liftWords ("cut".toList::r))=([], "cut".toList::r):=by kernel_rfl
def t9:((some "cut".toList:Option (List Char))==some "cut".toList)=true:=by kernel_rfl
def t10:([]:List String).contains "finals" =false:=by kernel_rfl
def t11:([]:List String).contains "reflectrows" =false:=by kernel_rfl
def t12:([]:List String).contains "leanrows" =false:=by kernel_rfl
def qi(P:cf)(r:List (List Char))(h:behindMainWord (wordsSigns P.initOrder.toList)= "cut".toList::r):P.make=some .cut:=by unfold Program.make;rw[h];dsimp only;rw[t1,t2,t3,Bool.or_self,cr Bool.false_ne_true,Bool.true_or,cx rfl]
def jq(P:cf)(r:List (List Char))(h:behindMainWord (wordsSigns P.initOrder.toList)= "cut".toList::r)(a:P.laysLater=false)(b:P.bearsReflect=false)(c:P.doorFits []=true):P.mayEnter=true:=by unfold Program.mayEnter;rw[h];dsimp only;rw[t5,t1,t2,t4,a,b,c];dsimp only;rw[List.head?_cons,t9,t10,t11,t12];rfl
def io(P:cf)(r:List (List Char))(h:behindMainWord (wordsSigns P.initOrder.toList)= "cut".toList::r):P.liftsFinal=false:=by unfold Program.liftsFinal Program.headLifts;rw[h];kernel_rfl
def iN:∃r,behindMainWord (wordsSigns Tryz.pinned.checked.prog.initOrder.toList)= "cut".toList::r:=by rw[qf];exact qh
def t6:Tryz.pinned.checked.prog.laysLater=false:=by kernel_rfl
def t7:Tryz.pinned.checked.prog.bearsReflect=false:=by kernel_rfl
def t8:Tryz.pinned.checked.prog.doorFits []=true:=by kernel_rfl
def mD:Tryz.pinned.checked.prog.mayEnter=true:=iN.elim λr h=>jq _ r h t6 t7 t8
def kO:Tryz.pinned.checked.prog.liftsFinal=false:=iN.elim λr h=>io _ r h
def kP:Tryz.pinned.checked.prog.make=some .cut:=iN.elim λr h=>qi _ r h
def cL(h:D=true)(k:E=true):(D&&E)=true:=by rw[h,k];rfl
def Tryz.own:ownKnob Tryz.prog.godebug=none:=by kernel_rfl
def Tryz.laidOut:laidOutB Tryz.prog=true:=by kernel_rfl
def Tryz.qj:Tryz.prog.cellsOf 3=1:=by kernel_rfl
def Tryz.iy:Tryz.prog.underlying 27=some (.slice 3):=by kernel_rfl
def Tryz.xU:Tryz.prog.underlying 3=some (.int .i64):=by kernel_rfl
def Tryz.Dy:Tryz.prog.underlying 4=some .bool:=by kernel_rfl
def jC{r:Reach}(b:P.underlying T=some (.slice U))(a:Value.okWide P w r m T (.slice (some h) k i)):h.spot=none/\∃x,w.shape? h.block=some x:=by simp only[Value.okWide,b,Cell.okWide,Cell.ok]at a;obtain⟨_,_,_,c,d,cells,e,_⟩:=a;exact⟨c,_,e⟩
def t14:(Rows.roundLeftRow.lifted==false)=true:=by kernel_rfl
def Pg:(Rows.roundLeftRow.lifted==Tryz.pinned.checked.prog.liftsFinal)=true:=(cM (λx=>Rows.roundLeftRow.lifted==x) kO).trans t14
def t13:(some Make.cut==some Rows.roundLeftRow.make)=true:=by kernel_rfl
def QX:(Tryz.pinned.checked.prog.make==some Rows.roundLeftRow.make)=true:=(cM (λx=>x==some Rows.roundLeftRow.make) kP).trans t13
def O5:joinedFacts Tryz.pinned.checked.prog 9 Tryz.f9 Rows.roundLeftSpec Rows.roundLeftRow=true:=by unfold joinedFacts;exact(cL (cL (cL (cL (cL (cL (cL (cL (cL (cL (cL (cL (cL (cL (cL (cL (cL (cL (cL (cL (cL (cL (cL (cL (cL (cL (cL (cL (cL (cL (cL (by kernel_rfl) (by kernel_rfl)) (by kernel_rfl)) (by kernel_rfl)) (by kernel_rfl)) (by kernel_rfl)) (by kernel_rfl)) (by kernel_rfl)) (by kernel_rfl)) (by kernel_rfl)) (by kernel_rfl)) (by kernel_rfl)) (by kernel_rfl)) (by kernel_rfl)) (by kernel_rfl)) (by kernel_rfl)) (by kernel_rfl)) (by kernel_rfl)) (by kernel_rfl)) (by kernel_rfl)) (by kernel_rfl)) (by kernel_rfl)) (by kernel_rfl)) (by kernel_rfl)) (by kernel_rfl)) mD) Pg) QX) (by kernel_rfl)) (by kernel_rfl)) (by kernel_rfl)) (by kernel_rfl))
end Go.Proofs.YteeagjkaflglpaaGreat
variable{H N:Go.Proofs.W.Gd}
namespace Go.Proofs.W
open Go.RowKit
def AX(W:Nat->Nat->Int)(a:Nat):List Nat->Nat->Int
 |[],z=>W a z
 |d::r,z=>W a (d+1)+AX W (d+1) r z
def AV(W:Nat->Nat->Int)(l:List Nat):pN W l=AX W 0 l 0:=by
 have b:∀k,k<=l.length->tF W l k+AX W (uG l k) (l.drop k) 0=AX W 0 l 0:=by
  intro k;induction k with
  |zero=>intro _;simp[tF,uG]
  |succ k c=>
   intro d;have a:k<l.length:=d;rw[<-c (by omega),qH a];have:uG l (k+1)=l[k]+1:=by simp[uG,ew a]
   simp only[tF,AX,getD_eq a,this];omega
 rw[<-b l.length (cz _),List.drop_length];rfl
theorem Ca{W:Nat->Nat->Int}(b:∀i j,W i j<=W i (d+1)+W (d+1) j)(y:List Nat):∀(x:List Nat) (a z:Nat),AX W a (x++y) z<=AX W a (x++d::y) z
 |[],a,z=>by
  cases y with
  |nil=>exact b a z
  |cons e r=>
   have:=b a (e+1);simp only[sM,AX];omega
 |e::r,a,z=>by have:=Ca b y r (e+1) z;simp only[qn,AX];omega
def OI(g:0<=I){a b x:Dr}(j:0<=a.at_)(k:0<=b.at_)(l:0<=x.at_):vY I a b<=vY I a x+vY I x b:=by
 have i:∀p q,0<=l5 p q:=λp q=>by unfold l5;omega
 have c:l5 a.st b.st<=l5 a.st x.st+l5 x.st b.st:=by unfold l5;omega
 have m:=Int.mul_le_mul_of_nonneg_left c g;rw[Int.mul_add]at m;have n:=yx g (i a.st x.st);have o:=yx g (i x.st b.st);unfold vY;by_cases f:a.st=b.st;by_cases d:a.st=x.st;rw[cx f,cx d,cx (d.symm.trans f)];unfold l5;omega;rw[cx f,cr d,cr (λe=>d (f.trans e.symm))];unfold l5 at*;omega;by_cases d:a.st=x.st;rw[cr f,cx d,cr (λe=>f (d.trans e)),<-d];have:a.at_<=l5 a.at_ x.at_+x.at_:=by unfold l5;omega
 omega;by_cases h:x.st=b.st;rw[cr f,cr d,cx h,h];have:b.at_<=x.at_+l5 x.at_ b.at_:=by unfold l5;omega
 omega;rw[cr f,cr d,cr h];omega
def OJ(h:H.Ok)(m:d<H.doors.length)(i j:Nat):jK H i j<=jK H i (d+1)+jK H (d+1) j:=by
 have e:=(mq h i (d+1)).1;have f:=(mq h (d+1) j).1;have g:∀x∈dH H,0<=x.at_:=λx c=>by rcases eQ.1 c with rfl|c;simp;exact(h.door x c).2.1.1
 obtain⟨x,c⟩:∃x,(dH H)[d+1]? =some x:=⟨H.doors[d],by simp[dH,ew m]⟩;unfold jK at e f⊢;rw[c]at e f⊢;cases k:(dH H)[i]? with
 |none=>rw[k]at e;simpa using f
 |some a=>
  cases l:(dH H)[j]? with
  |none=>
   rw[k]at e;rw[l]at f;simpa using e
  |some b=>exact OI (by have:=h.corner;omega) (g a (nR k)) (g b (nR l)) (g x (nR c))
theorem Gp:∀(l m:List Int),(l++m).sum=l.sum+m.sum
 |[],m=>by simp
 |a::r,m=>by have:=Gp r m;simp only[qn,List.sum_cons];omega
def AQ(G:Gd)(l m:List Nat):gQ G (l++m)=gQ G l+gQ G m:=by unfold gQ;rw[nQ,Gp]
def Lx(h:H.Ok)(d:Nat):0<=gQ H [d]:=by
 have e:gQ H [d]=((H.doors[d]?).map (·.talk)).getD 0:=by simp[gQ]
 rw[e];cases a:H.doors[d]? with
 |none=>simp
 |some x=>
  have:=(h.door x (nR a)).2.2;simp only[iX,kC];omega
def xw(h:H.Ok)(a:d<H.doors.length)(x y:List Nat):dr H (x++y)<=dr H (x++d::y):=by
 have b:=Ca (OJ h a) y x 0 0;have c:=h.knock;unfold dr tG;rw[AV,AV];have e:(((x++d::y).length:Nat):Int)=((x++y).length:Nat)+1:=by simp;omega
 rw[e,Int.add_mul];omega
def An(h:H.Ok)(a:d<H.doors.length)(x y:List Nat):dF H (x++y)<=dF H (x++d::y):=by have b:=xw h a x y;have c:=Lx h d;have e:=AQ H x y;have f:=AQ H x (d::y);have g:gQ H (d::y)=gQ H [d]+gQ H y:=AQ H [d] y;unfold dF;omega
def TH{a:Type}{b c:Array a}{v f:a}(h:c=b.setIfInBounds m v)(d:k≠m)(e:b[k]? =some f):c[k]? =some f:=by subst h;rw[eY (fO d)];exact e
def V.OK:V.prog.funcs=Tryz.prog.funcs.setIfInBounds 163 V.f163:=by kernel_rfl
def V.fn{f:Func}(h:Tryz.prog.funcs[k]? =some f)(a:k≠163):V.prog.funcs[k]? =some f:=TH V.OK a h
def Ap(h:gI m w)(n:Int)(c: -1000000<=n/\n<=1000000):Calls V.prog 93 #[cK m,.int .i64 n] w (fy λv a=>(∃b,v=.bool b)/\DE m w a):=by refine go (V.fn Tryz.func93 (by decide)) Tryz.ntmps93 ?_;refine fx (ck (nJ h (n-1) (by omega)) ?_);rintro _ e ⟨⟨z,rfl,_⟩,d⟩;exact eh ⟨_,rfl,⟨_,rfl⟩,d⟩
def Pf(t:Ty):Tq:=⟨t.door,t.shift,t.opened⟩
def wE(w:cd)(a:Option Addr)(l:List Ty):Prop:=∀k (h:k<l.length),∃b o,a=some ⟨b,o,none⟩/\∀j v,(tL l[k])[j]? =some v->w.cell? ⟨b,o+k*3+j,none⟩=some v
def wE.ext{l:List Ty}(h:wE w a l)(e:Ext w t):wE t a l:=λk c=>by obtain⟨b,o,d,f⟩:=h k c;exact⟨b,o,d,λj v g=>e.cell (f j v g)⟩
def wE.q{l:List Ty}(h:wE w a l):sI w a (l.map Pf):=λk c=>by obtain⟨b,o,d,e⟩:=h k (by simpa using c);exact⟨b,o,d,λj v f=>e j v (by simpa[Pc,Pf,tL]using f)⟩
def MJ(l:List Ty)(d h:Nat):Nat:=(l.filter λt=>decide (t.door=d/\t.shift%2=h)).length
def Ar(l:List Ty)(d:Nat):Bool:=l.any λt=>decide (t.door=d)&&t.opened
def O6(l:List Ty)(d a:Nat):Bool:=l.any λt=>decide (t.door=d)&&decide (t.shift/2=a)
def tS(l:List Ty)(t:Ty)(d h:Nat):MJ (l++[t]) d h=MJ l d h+if t.door=d/\t.shift%2=h then 1 else 0:=by simp only[MJ,List.filter_append,fX];congr 1;by_cases c:t.door=d/\t.shift%2=h<;>simp[List.filter,c]
def tT(l:List Ty)(t:Ty)(d:Nat):Ar (l++[t]) d=(Ar l d||(decide (t.door=d)&&t.opened)):=by simp[Ar]
def As(l:List Ty)(t:Ty)(d a:Nat):O6 (l++[t]) d a=(O6 l d a||(decide (t.door=d)&&decide (t.shift/2=a))):=by simp[O6]
def Cn(l:List Ty)(d h:Nat):MJ l d h<=l.length:=List.length_filter_le ..
def JD{m n:Nat}(a:0<n)(w:cd):Calls V.prog 34 #[.int .i64 m,.int .i64 n] w (fy λv b=>v=.int .i64 ((m%n:Nat):Int)/\b=w):=by refine go (V.fn Tryz.func34 (by decide)) Tryz.ntmps34 ?_;exact C8 a (cV (iG (by simp;omega) ⟨_,rfl,rfl,rfl⟩))
def Cs{l:List Ty}{lc:Nat}(x:wE w a l)(u:l.length<=100000)(d h:Nat):Calls V.prog 74 #[.slice a l.length lc,.int .i64 d,.int .i64 h] w (fy λv p=>v=.tuple #[.int .i64 (MJ l d h),.bool (Ar l d)]/\p=w):=by
 refine go (V.fn Tryz.func74 (by decide)) Tryz.ntmps74 ?_;refine dZ l.length (λk (_:Unit)=>[(0,.slice a l.length lc),(1,.int .i64 d),(2,.int .i64 h),(8,.int .i64 (MJ (l.take k) d h)),(9,.bool (Ar (l.take k) d)),(10,.int .i64 k)]) (λ_ _ p=>p=w) () ⟨⟨rfl,rfl,rfl,rfl,rfl,rfl,trivial⟩,rfl⟩ ?_;rintro k _ z A rfl;refine cD (cV ⟨λr=>?_,λs=>?_⟩);have c:k<l.length:=by simpa using r
 obtain⟨b,o,rfl,m⟩:=x k c;have y:=Cn (l.take k) d h;rw[yy]at y;have g:=tS (l.take k) l[k] d h;have i:=tT (l.take k) l[k] d;rw[<-gP c]at g i;refine fF k 3 c (cu (m 0 _ rfl) (eh ⟨λj=>?_,λj=>?_⟩));have j:l[k].door=d:=Int.ofNat.inj (cY j);rw[decide_eq_true j,Bool.true_and]at i;refine⟨λt=>?_,λt=>?_⟩;rw[t,Bool.true_or]at i;refine fF k 3 c (cu (m 1 _ rfl) (cS (JD (n:=2) (by omega) _) (eh ⟨λf=>?_,λf=>?_⟩)));have f:l[k].shift%2=h:=Int.ofNat.inj (cY f);rw[cx ⟨j,f⟩]at g;refine cq (cq ⟨c,(),⟨rfl,rfl,rfl,?_,?_,rfl,trivial⟩,rfl⟩);show some _=some _;rw[g];rfl;show some _=some _;rw[i];have f:¬l[k].shift%2=h:=λe=>dQ f (cM Int.ofNat e);rw[cr (λq=>f q.2),mT (MJ (l.take k) d h)]at g;refine cq ⟨c,(),⟨rfl,rfl,rfl,?_,?_,rfl,trivial⟩,rfl⟩;show some _=some _;rw[g];show some _=some _;rw[i];rw[t,Bool.false_or]at i;refine fF k 3 c (cu (m 2 _ rfl) (fF k 3 c (cu (m 1 _ rfl) (cS (JD (n:=2) (by omega) _) (eh ⟨λf=>?_,λf=>?_⟩)))));have f:l[k].shift%2=h:=Int.ofNat.inj (cY f);rw[cx ⟨j,f⟩]at g;refine cq (cq ⟨c,(),⟨rfl,rfl,rfl,?_,?_,rfl,trivial⟩,rfl⟩);show some _=some _;rw[g];rfl;show some _=some _;rw[i];have f:¬l[k].shift%2=h:=λe=>dQ f (cM Int.ofNat e);rw[cr (λq=>f q.2),mT (MJ (l.take k) d h)]at g;refine cq ⟨c,(),⟨rfl,rfl,rfl,?_,?_,rfl,trivial⟩,rfl⟩;show some _=some _;rw[g];show some _=some _;rw[i];have j:¬l[k].door=d:=λe=>dQ j (cM Int.ofNat e);rw[cr (λq=>j q.1),mT (MJ (l.take k) d h)]at g;rw[jT j,Bool.false_and,Bool.or_false]at i;refine cq ⟨c,(),⟨rfl,rfl,rfl,?_,?_,rfl,trivial⟩,rfl⟩;show some _=some _;rw[g];show some _=some _;rw[i];obtain rfl:k=l.length:=by simp at s;omega
 rw[kX];exact⟨_,rfl,rfl,rfl⟩
def u6(G:Gd)(a b:Nat):Bool:=decide (G.tries<=(a:Int)+b)&&(decide (G.tries<2)||(decide (0<(a:Int))&&decide (0<(b:Int))))
def Au{G:Gd}{h:Option Addr}{i:Nat}{w:cd}(a b:Nat)(m:a<=1000000)(j:b<=1000000):Calls V.prog 75 #[gV G h i,.int .i64 a,.int .i64 b] w (fy λv k=>v=.bool (u6 G a b)/\Ext w k):=by refine go (V.fn Tryz.func75 (by decide)) Tryz.ntmps75 ?_;refine fo λn o e l g=>cq (cu (ci g rfl) (n6 ⟨λd=>?_,λd=>?_⟩));refine cu (ci g rfl) (cV ⟨λf=>?_,λf=>?_⟩);exact⟨_,rfl,by simp[u6,d,f],e⟩;refine ny ⟨λc=>?_,λc=>?_⟩;have c:0<(a:Int):=cY c;exact ny ⟨_,rfl,by rw[u6,d,f,decide_eq_true c];rfl,e⟩;have c:¬0<(a:Int):=dQ c;exact⟨_,rfl,by rw[u6,d,f,jT c];rfl,e⟩;exact⟨_,rfl,by simp[u6,d],e⟩
def oM(G:Gd)(l:List Ty)(d:Nat):Bool:=Ar l d||u6 G (MJ l d 0) (MJ l d 1)
def Co{G:Gd}{g:Option Addr}{dc:Nat}{l:List Ty}{e:Option Addr}{lc:Nat}{w:cd}(f:wE w e l)(a:l.length<=100000)(d:Nat):Calls V.prog 49 #[gV G g dc,.slice e l.length lc,.int .i64 d] w (fy λv h=>v=.bool (oM G l d)/\Ext w h):=by refine go (V.fn Tryz.func49 (by decide)) Tryz.ntmps49 ?_;refine fo λm n b i j=>?_;have o:=Cn l d 0;have p:=Cn l d 1;refine cS (Cs (f.ext b) a d 0) (cS (Cs (f.ext b) a d 1) ⟨λc=>?_,λc=>?_⟩);exact⟨_,rfl,by simp[oM,c],b⟩;refine di j (dq (Au (MJ l d 0) (MJ l d 1) (by omega) (by omega)) λq k=>⟨_,rfl,by simp[oM,c],b.trans k⟩)
def xx{l:List Ty}(y:wE w a l)(u:l.length<=100000)(z:∀t∈l,t.shift<=1000000)(d c:Nat):Calls V.prog 98 #[.slice a l.length m,.int .i64 d,.int .i64 c] w (fy λv j=>v=.bool (O6 l d c)/\j=w):=by
 refine go (V.fn Tryz.func98 (by decide)) Tryz.ntmps98 ?_;refine dZ l.length (λk (_:Unit)=>[(0,.slice a l.length m),(1,.int .i64 d),(2,.int .i64 c),(7,.int .i64 k)]) (λk _ j=>j=w/\O6 (l.take k) d c=false) () ⟨⟨rfl,rfl,rfl,rfl,trivial⟩,rfl,by simp[O6]⟩ ?_;rintro k _ B C ⟨rfl,i⟩;refine cD (cV ⟨λp=>?_,λq=>?_⟩);have f:k<l.length:=by simpa using p
 obtain⟨b,o,rfl,x⟩:=y k f;have r:=As (l.take k) l[k] d c;rw[<-gP f,i,Bool.false_or]at r;have A:=z _ (dt f);have s:l[k].door=d->l[k].shift/2=c->O6 l d c=true:=λg h=>List.any_eq_true.2 ⟨_,dt f,by simp[g,h]⟩;refine fF k 3 f (cu (x 0 _ rfl) (eh ⟨λg=>?_,λg=>?_⟩));have g:l[k].door=d:=Int.ofNat.inj (cY g);refine fF k 3 f (cu (x 1 _ rfl) (rG (n:=2) (by omega) (by omega) (eh ⟨λh=>?_,λh=>?_⟩)));have h:l[k].shift/2=c:=Int.ofNat.inj (cY h);exact⟨_,rfl,by rw[s g h];rfl,rfl⟩;have h:¬l[k].shift/2=c:=λe=>dQ h (cM Int.ofNat e);exact cq ⟨f,(),⟨rfl,rfl,rfl,rfl,trivial⟩,rfl,by rw[r,jT h,Bool.and_false]⟩;have g:¬l[k].door=d:=λe=>dQ g (cM Int.ofNat e);exact iG rfl (cq ⟨f,(),⟨rfl,rfl,rfl,rfl,trivial⟩,rfl,by rw[r,jT g,Bool.false_and]⟩);obtain rfl:k=l.length:=by simp at q;omega
 rw[kX]at i;exact⟨_,rfl,by rw[i];rfl,rfl⟩
def MI(l:List Ty)(d:Nat):Sx:=⟨((MJ l d 0+MJ l d 1:Nat):Int),(MJ l d 0:Nat),(MJ l d 1:Nat),Ar l d,O6 l d 0,O6 l d 1,O6 l d 2,false⟩
def wF(G:Gd)(l:List Ty)(d:Nat):gA G.tries (MI l d)=oM G l d:=by simp only[gA,MI,oM,u6,Bool.false_or,Int.natCast_add];rfl
def OL(l:List Ty)(d k:Nat)(a:k<3):tH (MI l d) k=O6 l d k:=by
 obtain rfl|rfl|rfl:k=0\/k=1\/k=2:=by omega
 all_goals rfl
def Ii(l:List Ty)(d s:Nat)(o:Bool)(c:s<6):iJ (MI l d) s o=MI (l++[⟨d,s,o⟩]) d:=by
 have b:s%2=0\/s%2=1:=by omega
 have a:s/2=0\/s/2=1\/s/2=2:=by omega
 simp only[iJ,MI,tS,tT,As,true_and,decide_true,Bool.true_and];rcases b with b|b<;>rcases a with a|a|a<;>simp[b,a]<;>omega
def Ij(l:List Ty)(t:Ty)(d:Nat)(h:t.door≠d):MI (l++[t]) d=MI l d:=by simp only[MI,tS,tT,As,h,false_and,eo,mT,decide_false,Bool.false_and,Bool.or_false]
def lastT(b:Int)(l:List Tq):Int:=match l.getLast? with
 |some t=>t.shift
 |none=>b
theorem Cd(G:Gd)(t:Tq):∀(l:List Tq) (c a:List Sx) (b:Int),rL G c b l=(0,a)->rL G c b (l++[t])=rL G a (lastT b l) [t]
 |[],c,a,b,h=>by simp only[rL,Prod.mk.injEq,true_and]at h;subst h;rfl
 |x::r,c,a,b,h=>by
  have e:lastT b (x::r)=lastT x.shift r:=by unfold lastT;rw[List.getLast?_cons];cases r.getLast?<;>rfl
  rw[e,qn];simp only[rL]at h;conv=>lhs;unfold rL
  split at h;rename_i d;rw[cx d];split at h;simp at h;rename_i f;rw[cr f];split at h;simp at h;rename_i g;rw[cr g];split at h;simp at h;rename_i i;rw[cr i];exact Cd G t r _ a _ h;simp at h
structure Made(G:Gd)(l:List Ty)(s:Nat):Prop where
 log:gO G (l.map Pf)=(0,(List.range G.doors.length).map (MI l))
 last:∀t∈l,t.shift<=s
def Made.nil(G:Gd):Made G [] 0:=⟨by simp only[gO,qK,rL];congr 1;refine List.ext_getElem (by simp) λi a b=>?_;simp only[List.getElem_replicate,List.getElem_map];rfl,λt h=>by cases h⟩
def Made.up{l:List Ty}(h:Made H l s)(a:s<=m):Made H l m:=⟨h.log,λt b=>cJ (h.last t b) a⟩
def Made.more{l:List Ty}{o:Bool}(h:Made H l s)(c:d<H.doors.length)(p:(s:Int)<2*H.days)(q:H.days<=3)(f:O6 l d (s/2)=false)(g:oM H l d=false):Made H (l++[⟨d,s,o⟩]) s:=by
 refine⟨?_,λt a=>?_⟩;have j:((List.range H.doors.length).map (MI l)).getD d oe=MI l d:=by rw[gU,mR,List.getElem?_range c];rfl
 have r:lastT 0 (l.map Pf)<=s:=by
  unfold lastT;rw[List.getLast?_map];cases k:l.getLast? with
  |none=>exact Int.natCast_nonneg s
  |some t=>exact Int.ofNat_le.2 (h.last t (List.mem_of_getLast? k))
 have e:=Cd H ⟨(d:Int),(s:Int),o⟩ _ _ _ 0 h.log;have m:(jX (d:Int) 0 ((H.doors.length:Int)-1)&&jX (s:Int) 0 (2*H.days-1))=true:=by simp[jX];omega
 rw[gO,nQ,jP,qK];refine e.trans ?_;have b:((List.range H.doors.length).map (MI l)).getD ((d:Int)).toNat oe=MI l d:=j;simp only[rL,m,cX];rw[cr (by omega),b,OL l d _ (by omega),wF];simp only[ql];rw[f,g];simp only[iq,eo,rL];congr 1;rw[Ii l d s o (by omega)];refine List.ext_getElem (by simp) λi u n=>?_;have v:i<H.doors.length:=by simpa using n
 rw[List.getElem_set];simp only[List.getElem_map,List.getElem_range];split;rename_i e;rw[e];rename_i e;exact(Ij l ⟨d,s,o⟩ i e).symm;rcases gl.1 a with a|a;exact h.last t a;rw[fD.1 a];exact cz _
def U6:FD 25 84 [.int .i64 0,.int .i64 0,.bool false]:=⟨by kernel_rfl,Tryz.t84,_,by kernel_rfl,rfl,by kernel_rfl,by kernel_rfl,by decide+kernel,by decide⟩
def sK(a:Nat)(w:cd)(v:ce)(l:List Ty):Prop:=cA a 84 [.int .i64 0,.int .i64 0,.bool false] w v l.length (l.flatMap tL)
theorem OM{a:Type}{f:a->List ce}{n:Nat}(b:∀x,(f x).length=n):∀l:List a,(l.flatMap f).length=l.length*n
 |[]=>by simp
 |t::r=>by rw[ky,fX,b,OM b r,dW,Nat.add_mul,Nat.one_mul,Nat.add_comm]
theorem Ik{b:Type}{f:b->List ce}{n:Nat}(a:∀x,(f x).length=n):∀(l:List b) (k:Nat) (c:k<l.length) (j:Nat) (v:ce),(f l[k])[j]? =some v->(l.flatMap f)[k*n+j]? =some v
 |x::r,0,_,j,v,h=>by have d:j<(f x).length:=(gy.1 h).1;rw[ky,Nat.zero_mul,cB,kz d];exact h
 |x::r,k+1,c,j,v,h=>by have e:=Ik a r k (by simpa using c) j v (by simpa using h);rw[ky,mQ (by rw[a,Nat.add_mul];omega),a,show(k+1)*n+j-n=k*n+j by rw[Nat.add_mul];omega];exact e
def Lz(l:List Ty):(l.flatMap tL).length=l.length*3:=OM (f:=tL) (n:=3) (λ_=>rfl) l
def LA(l:List Ty)(k:Nat)(a:k<l.length)(j:Nat)(v:ce)(h:(tL l[k])[j]? =some v):(l.flatMap tL)[k*3+j]? =some v:=Ik (f:=tL) (n:=3) (λ_=>rfl) l k a j v h
def sK.row{l:List Ty}(h:sK m w x l):∃a c,x=.slice a l.length c/\wE w a l/\l.length<=c:=by obtain⟨q,⟨d,rfl⟩|⟨b,c,r,s,rfl,g,t,i,u,n,v⟩⟩:=h;exact⟨none,0,by rw[d],λk e=>by omega,by omega⟩;refine⟨_,c,rfl,λk e=>⟨b,0,rfl,λj x f=>ci g ?_⟩,i⟩;have o:j<(tL l[k]).length:=(gy.1 f).1;have p:(tL l[k]).length=3:=rfl;have d:=Lz l;rw[cB,n _ (by omega)];exact LA l k e j x f
def sK.low{l:List Ty}(h:sK m w x l)(f:k<=m):sK k w x l:=by obtain⟨a,h|⟨b,c,d,g,e⟩⟩:=h;exact⟨a,.inl h⟩;exact⟨a,.inr ⟨b,c,d,by omega,e⟩⟩
def Ce(h:gI m w){dc:Nat}(hG:eg N=0):Calls V.prog 29 #[cK m,gV N a dc] w (fy λv g=>DE m w g/\∃l s,sK w.heap.size g v l/\Made N l s/\(s:Int)<2*N.days/\l.length<=30):=by
 have ok:=ek hG;have hm:=ok.many;have U:=ok.days;refine go (V.fn Tryz.func29 (by decide)) Tryz.ntmps29 ?_;refine fo λj u y af B=>?_;have ag:=h.lt;have ah:=cF.lt_of_heap B;refine cu (ci B rfl) (tE (fx (ck (nJ (h.ext y) (2*N.days-1) (by omega)) ?_)));rintro _ w2 ⟨⟨z,rfl,ai,hz⟩,d2⟩;have W:=d2.1.fg B (show¬u=m by omega);have aj:z<=2*N.days-1:=by omega
 refine dZ z.toNat (λs (x:ce×List Ty)=>[(0,cK m),(3,cK u),(5,x.1),(6,.int .i64 z),(7,.int .i64 s)]) (λs x g=>DE m j g/\g.heap[u]? =some (.cells (gV N a dc).cells 24)/\sK j.heap.size g x.1 x.2/\Made N x.2 s/\x.2.length<=5*s) (.slice none 0 0,[]) ⟨⟨rfl,rfl,rfl,rfl,rfl,trivial⟩,d2,W,cA.nil _ _ _ _,Made.nil N,cz _⟩ ?_;rintro s ⟨v,l⟩ w3 hs ⟨d3,X,A,k,o⟩;simp only at A k o;refine cV ⟨λC=>?_,λD=>?_⟩;have Y:(s:Int)<z:=cY C;refine dZ N.doors.length (λi (x:ce×List Ty)=>[(0,cK m),(3,cK u),(5,x.1),(6,.int .i64 z),(7,.int .i64 s),(8,.int .i64 i)]) (λi x g=>DE m j g/\g.heap[u]? =some (.cells (gV N a dc).cells 24)/\sK j.heap.size g x.1 x.2/\Made N x.2 s/\x.2.length<=5*s+i) (v,l) ⟨⟨rfl,rfl,rfl,rfl,rfl,rfl,trivial⟩,d3,X,A,k,o⟩ ?_;rintro i ⟨v,l⟩ w4 hi ⟨Z,E,A,k,o⟩;simp only at A k o;refine cu (ci E rfl) (cD (cV ⟨λC=>?_,λD=>?_⟩));have d:i<N.doors.length:=by simpa using C
 refine ck (Ap (Z.2 (h.ext y)) 3 (by omega)) ?_;rintro _ Q ⟨⟨b,rfl⟩,d5⟩;have F:=d5.1.fg E (show¬u=m by omega);have G:=Z.trans d5;have p:sK j.heap.size Q v l:=cA.keep A d5.1 λb B e=>by have:=(cA.blk A B).1;have:=y.size;omega
 obtain⟨L,c,rfl,M,hc⟩:=p.row;have f:∀I,Ext Q I->DE m j I/\I.heap[u]? =some (.cells (gV N a dc).cells 24)/\sK j.heap.size I (.slice L l.length c) l/\Made N l s/\l.length<=5*s+(i+1):=λI q=>⟨G.trans (q.de m),q.at_ F,cA.ext p q,k,by omega⟩;refine⟨λaa=>?_,λaa=>?_⟩;refine rG (n:=2) (by omega) (by omega) (cS (xx M (by omega) (λt ht=>by have:=k.last t ht;omega) i (s/2)) (eu ⟨λR=>?_,λR=>?_⟩));have R:O6 l i (s/2)=false:=by simpa using R
 refine di F (dq (Co M (by omega) i) λI q=>eu ⟨λS=>?_,λS=>?_⟩);have S:oM N l i=false:=by simpa using S
 have ab:=q.at_ F;refine ck (Ap ((q.de m).2 (G.2 (h.ext y))) 4 (by omega)) ?_;rintro _ w7 ⟨⟨T,rfl⟩,d7⟩;have ac:=d7.1.fg ab (show¬u=m by omega);have r:sK j.heap.size w7 (.slice L l.length c) l:=cA.keep (cA.ext p q) d7.1 λb B e=>by have:=(cA.blk p B).1;have:=y.size;omega
 have O:=(G.trans (q.de m)).trans d7;refine dA (.agg (tL ⟨i,s,T⟩).toArray) (dJ (tL ⟨i,s,T⟩) 84 λw8 nb J ak ad=>fP U6 (cA.ext r J) (by have:=O.1.size;have:=J.size;omega) ad (by omega) λv' w9 ae k9 _=>cq ⟨d,(v',l++[⟨i,s,T⟩]),⟨rfl,rfl,rfl,rfl,rfl,rfl,trivial⟩,?_,?_,?_,k.more d (by omega) (by omega) R S,by simp;omega⟩);have P:=O.trans (J.de m);refine⟨(P.1.trans k9 (H:=λx=>x=m\/j.heap.size<=x) (λ_ _ h=>.inl h) λx _ K=>.inr (cA.blk (cA.ext r J) K).1).trans (cN.refl (λ_=>False) _) (λx K h=>h.elim id λh=>by omega) λ_ _ h=>h.elim,λhD=>(P.2 hD).keep k9 λx K=>?_⟩;have:=(cA.blk (cA.ext r J) K).1;have:=y.size;omega;refine k9.fg (J.at_ ac) λK=>?_;have:=(cA.blk (cA.ext r J) K).1;omega;unfold sK;rw[fX,List.flatMap_append];have h9:cA j.heap.size 84 [.int .i64 0,.int .i64 0,.bool false] w9 v' (l.length+1) (l.flatMap tL++tL ⟨i,s,T⟩):=ae;simpa using h9;exact cq ⟨d,(.slice L l.length c,l),⟨rfl,rfl,rfl,rfl,rfl,rfl,trivial⟩,f I q⟩;exact iG rfl (cq ⟨d,(.slice L l.length c,l),⟨rfl,rfl,rfl,rfl,rfl,rfl,trivial⟩,f Q (Ext.refl _)⟩);exact iG rfl (iG rfl (cq ⟨d,(.slice L l.length c,l),⟨rfl,rfl,rfl,rfl,rfl,rfl,trivial⟩,f Q (Ext.refl _)⟩));obtain rfl:i=N.doors.length:=by simp at D;omega
 exact cq ⟨by omega,(v,l),⟨rfl,rfl,rfl,rfl,rfl,trivial⟩,Z,E,A,k.up (by omega),by simp only;omega⟩;have Y:¬(s:Int)<z:=dQ D;exact⟨_,rfl,(y.de m).trans d3,l,s,A.low y.size,k,by omega,by omega⟩
theorem AA{a b:Type}{f g:a->List b}:∀{l:List a},(∀x∈l,f x=g x)->l.flatMap f=l.flatMap g
 |[],_=>rfl
 |x::r,h=>by rw[ky,ky,h x eR,AA λy c=>h y (eI _ c)]
def B9:Nat->List Nat->List (List Nat)
 |0,_=>[[]]
 |n+1,l=>(List.range l.length).flatMap λi=>(B9 n (l.eraseIdx i)).map (l.getD i 0::·)
def OS(l:List Nat):List (List Nat):=B9 l.length l
def getD_map{f:Nat->Nat}(h:i<l.length):(l.map f).getD i 0=f (l.getD i 0):=by rw[gU,gU,mR,ew h];rfl
theorem Cj(f:Nat->Nat):∀(l:List Nat) (i:Nat),(l.map f).eraseIdx i=(l.eraseIdx i).map f
 |[],_=>rfl
 |x::r,0=>rfl
 |x::r,i+1=>by simp only[jP,List.eraseIdx_cons_succ,Cj f r i]
theorem Ck(f:Nat->Nat):∀(n:Nat) (l:List Nat),B9 n (l.map f)=(B9 n l).map (·.map f)
 |0,l=>rfl
 |n+1,l=>by simp only[B9,List.map_flatMap,kV];refine AA λi a=>?_;rw[getD_map (eJ.1 a),Cj,Ck f n,List.map_map,List.map_map];rfl
theorem Cm(d:l.length=m)(f:Nat->Nat)(g:∀i,i<m->l.getD i 0=f i):∀(n:Nat) (b:List Nat) (a:List Bool),nE l n (b.map f) a=(nE (List.range m) n b a).map (·.map f)
 |0,b,a=>rfl
 |n+1,b,a=>by
  simp only[nE,List.map_flatMap,List.length_range,d];refine AA λi c=>?_;have c:=eJ.1 c;split;rfl;have e:(List.range m).getD i 0=i:=by rw[gU,ew (by simpa using c)];simp
  rw[g i c,e,<-Cm d f g n,nQ];rfl
def DC:∀m:Nat,m<=5->B9 m (List.range m)=nE (List.range m) m [] (List.replicate m false):=by decide+kernel
def u9(h:l.length<=5):OS l=mv l:=by
 have e:l=(List.range l.length).map λi=>l.getD i 0:=by refine List.ext_getElem (by simp) λi a b=>?_;simp[gU,ew a]
 have a:=Cm (l:=l) rfl (λi=>l.getD i 0) (λ_ _=>rfl) l.length [] (List.replicate l.length false);unfold OS mv;rw[qK]at a;rw[a,<-DC _ h,<-Ck,<-e]
def AB{v:ce->cd->Prop}{E:Array Bool}{n0 g:Nat}(n:w.heap[g]? =some (.cells [x].toArray 3))(M:x.oneCell'=true)(p:n0<=g)(F:m=l.length)(q:eO w a l)(y:l.length<=100000) (A:∀B r,cA n0 3 [.int .i64 0] r B (1+l.length) (x::fi l)->Ext w r->v B r):wY V.prog (builtin .append #[27,27] T E #[.slice (some ⟨g,0,none⟩) 1 1,.slice a m k]) w v:=by
 subst F;rcases nS l.length with G|N;obtain rfl:l=[]:=l9 G;exact uH oG (cz _) (A _ _ ⟨by simp[fi],.inr ⟨g,1,_,p,rfl,n,rfl,cz _,by decide,λj _=>by simp[fi],λj d f=>by simp[fi]at d f;omega⟩⟩ (Ext.refl _));rcases q.cells with H|⟨b,o,rfl,I⟩;have:(fi l).length=0:=by rw[H];rfl
 have C:(fi l).length=l.length:=by simp[fi]
 omega;obtain⟨J,i,z,C,K,D,h,L,O⟩:=oG;have e:z.cells.size=1:=by rw[D];rfl
 have h:i.size=1:=h;have c:(fi l).length=l.length:=by simp[fi]
 have q:=run_append_grow (P:=V.prog) w 27 T 3 i z J C K ⟨g,0,none⟩ 1 1 [x] (by rw[h];rfl) (λj u d=>by rw[fL,cB];exact ci n (by simpa using d)) ⟨b,o,none⟩ l.length k (fi l) (by rw[h,c,ot]) (λj u d=>by rw[fL];exact I j u d) (by omega) (by omega) (growslice_fits (by omega) (cJ (Nat.mul_le_mul (show 1+l.length<=1000000 by omega) L) (by decide)));have s:=grownCap_ge w (1+l.length) 1 3;have t:=grownCap_le_maxLen w (1+l.length) 1 3 (by simp only[maxLen];omega);simp only[maxLen]at t;refine⟨_,_,(by unfold builtin;simp only[Sem.run_bind,q,Result.andThen_ok,Sem.run_pure];rfl),A _ _ ⟨by simp[c];omega,.inr ⟨w.heap.size,grownCap w (1+l.length) 1 3,_,by have:=cF.lt_of_heap n;omega,rfl,eU w.drew _,?_,s,by omega,λj d=>?_,λj d f=>?_⟩⟩ ((Ext.drew w).trans (Ext.alloc _ _))⟩;simp only[wL,iP,size_zeroCells,e,c,dW,fC];omega;rw[vG (by simpa using d)];simp;simp only[dW,c]at d;rw[yr (by simp[c];omega)];simp only[wL,iP,size_zeroCells,e,c,dW,fC]at f;rw[oD _ _ _ (by omega) (by rw[e];simp[c];omega),e,D];simp[Nat.mod_one]
def Lo{r:ce->cd->Prop}{u:Array Bool}{b:List (List Nat)}(h:eW m w x b)(j:m<=w.heap.size)(n:dE m w y l)(v:w.heap[k]? =some (.cells [y].toArray 27))(c:b.length+1<=1000000) (z:∀d e,eW m e d (b++[l])->cN (cw x) w e->(∀k,cw d k->cw x k\/w.heap.size<=k)->r d e):wY V.prog (builtin .append #[66,66] T u #[x,.slice (some ⟨k,0,none⟩) 1 i]) w r:=by
 obtain⟨A,o,s,B⟩:=h;have f:y.oneCell'=true:=by obtain⟨a,i,rfl,_⟩:=n.row;rfl
 refine fP Nt o j v c (λd e C p D=>z d e ⟨A++[y],by simpa using C,by simp[s],λq E=>?_⟩ p D) rfl (by simp[qC,f]);rcases eA q b.length with g|F;obtain⟨G,H,t⟩:=B q g;refine⟨G,by rw[kz (by omega)];exact H,?_⟩;rw[lI g];exact t.keep p (gd t o (by decide));obtain rfl:q=b.length:=by simp at E;omega
 refine⟨y,by rw[mQ (by omega)];simp[s],?_⟩;simp only[qI (cz _),lf,mS];exact n.keep p (gd n o (by decide))
theorem eW.blk{a:List (List Nat)}(h:eW m w x a)(b:cw x k):m<=k/\k<w.heap.size:=by obtain⟨d,c,_⟩:=h;exact c.blk b
def qy(l:List Ty):Nat:=match l.getLast? with
 |some t=>t.shift
 |none=>0
def Io{l:List Ty}(f:wE w a l)(d:l.length<=100000):Calls V.prog 31 #[.slice a l.length m] w (fy λv g=>v=.int .i64 (qy l)/\g=w):=by
 refine go (V.fn Tryz.func31 (by decide)) Tryz.ntmps31 ?_;refine cD (eh ⟨λh=>?_,λh=>?_⟩);have h:l.length=0:=Int.ofNat.inj (cY h);obtain rfl:l=[]:=l9 h;exact⟨_,rfl,rfl,rfl⟩;have h:¬l.length=0:=λe=>dQ h (cM Int.ofNat e);have c:l.length-1<l.length:=by omega
 obtain⟨b,o,rfl,i⟩:=f _ c;have j:qy l=l[l.length-1].shift:=by unfold qy;rw[List.getLast?_eq_getElem?,ew c]
 rw[j];refine cD (fx ?_);rw[show((l.length:Int)-1)=((l.length-1:Nat):Int) by omega];exact fF (l.length-1) 3 c (cu (i 1 _ rfl) ⟨_,rfl,rfl,rfl⟩)
def OP(a b:Sp):Prop:=match b with
 |none=>True
 |some (_,c,d)=>match a with
  |none=>False
  |some (_,m,k)=>m<c\/m=c/\k<=d
def OP.refl(a:Sp):OP a a:=by rcases a with _|⟨l,m,k⟩;trivial;exact .inr ⟨rfl,Int.le_refl _⟩
def OP.trans{a b c:Sp}(h:OP a b)(k:OP b c):OP a c:=by rcases c with _|⟨d,e,f⟩;trivial;rcases b with _|⟨g,i,j⟩;exact k.elim;rcases a with _|⟨l,m,n⟩;exact h.elim;simp only[OP]at h k⊢;omega
def uo(a b:Sp):OP (lM a b) a/\OP (lM a b) b:=by rcases a with _|⟨l,m,k⟩;rw[nq];exact⟨trivial,OP.refl _⟩;rcases b with _|⟨c,d,e⟩;exact⟨OP.refl _,trivial⟩;simp only[lM,kI,jk];split;rename_i h;refine⟨?_,OP.refl _⟩;simp only[OP];omega;rename_i h;refine⟨OP.refl _,?_⟩;simp only[OP];omega
def n4(D:dR):Nat->List Nat->(Nat->Nat)->Nat->Nat
 |_,[],L=>L
 |k,p::a,L=>n4 D (k+1) a (jz (fh D k) ((dz D k).getD p []) L)
theorem nP(D:dR):∀(n:Nat) (c:List Nat) (L:Nat->Nat) (b:Sp),OP (dS D n c L b) b/\∀a:List Nat,a.length=n->(∀k (h:k<a.length),a[k]<(dz D (c.length+k)).length)->OP (dS D n c L b) (dX D (n4 D c.length a L) (c++a))
 |0,c,L,b=>by simp only[dS];refine⟨(uo _ _).1,λa d _=>?_⟩;obtain rfl:=l9 d;rw[List.append_nil];exact(uo _ _).2
 |n+1,c,L,b=>by
  simp only[dS]
  have f:∀(g:List Nat) (b:Sp),OP (g.foldl (λb i=>dS D n (c++[i]) (jz (fh D c.length) ((dz D c.length).getD i []) L) b) b) b/\∀i∈g,∀a:List Nat,a.length=n->(∀k (h:k<a.length),a[k]<(dz D (c.length+1+k)).length)->OP (g.foldl (λb i=>dS D n (c++[i]) (jz (fh D c.length) ((dz D c.length).getD i []) L) b) b) (dX D (n4 D c.length (i::a) L) (c++i::a)):=by
   intro g;induction g with
   |nil=>exactλb=>⟨OP.refl _,λi j=>by cases j⟩
   |cons x r o=>
    intro b;rw[mP];obtain⟨p,s⟩:=nP D n (c++[x]) (jz (fh D c.length) ((dz D c.length).getD x []) L) b;obtain⟨l,m⟩:=o (dS D n (c++[x]) (jz (fh D c.length) ((dz D c.length).getD x []) L) b);refine⟨l.trans p,λi j a d e=>?_⟩;rcases eQ.1 j with rfl|j;have:=s a d λk h=>by have:=e k h;simpa[yz]using this
    rw[fX,List.append_assoc]at this;exact l.trans this;exact m i j a d e
  obtain⟨l,m⟩:=f (List.range (dz D c.length).length) b;refine⟨l,λa d e=>?_⟩;match a,d,e with
  |q::a,d,e=>
   refine m q (eJ.2 (e 0 (by simp))) a (by simpa using d) λk h=>?_;have:=e (k+1) (by simpa using h);simpa[yz,Nat.add_comm 1 k]using this
def oN(D:dR){qs:List Nat}(a:qs.length=D.opn.length)(b:Jv D qs):OP (gm D) (dX D (n4 D 0 qs L0) qs):=by
 have:=(nP D D.opn.length [] L0 none).2 qs a λk h=>by simpa using b k h
 unfold gm;simpa using this
def OU(D:dR):Sp->Prop
 |none=>True
 |some (l,m,k)=>∃a:List Nat,a.length=D.opn.length/\Jv D a/\dX D (n4 D 0 a L0) a=some (l,m,k)
theorem OQ(D:dR):∀(a:List Nat) (k:Nat) (L:Nat->Nat) (q:Nat),n4 D k (a++[q]) L=jz (fh D (k+a.length)) ((dz D (k+a.length)).getD q []) (n4 D k a L)
 |[],k,L,q=>rfl
 |x::r,k,L,q=>by simp only[qn,n4,dW];rw[OQ D r (k+1),show k+1+r.length=k+(r.length+1) by omega]
theorem oO(D:dR):∀(n:Nat) (a:List Nat) (b:Sp),a.length+n=D.opn.length->Jv D a->OU D b->OU D (dS D n a (n4 D 0 a L0) b)
 |0,a,b,o,c,d=>by
  simp only[dS];rcases Gc b (dX D (n4 D 0 a L0) a)with h|h;rw[h];cases p:dX D (n4 D 0 a L0) a with
  |none=>trivial
  |some x=>
   obtain⟨l,m,k⟩:=x;exact⟨a,by omega,c,p⟩
  rw[h];exact d
 |n+1,a,b,o,c,d=>by
  simp only[dS]
  have e:∀(j:List Nat) (b:Sp),(∀i∈j,i<(dz D a.length).length)->OU D b->OU D (j.foldl (λb i=>dS D n (a++[i]) (jz (fh D a.length) ((dz D a.length).getD i []) (n4 D 0 a L0)) b) b):=by
   intro j;induction j with
   |nil=>intro b _ d;exact d
   |cons i r q=>
    intro b f d;rw[mP];refine q _ (λx s=>f x (eI _ s)) ?_
    have:=oO D n (a++[i]) b (by simp;omega) (λk t=>by
     rcases eA k a.length with g|u;rw[lI g];exact c k g;obtain rfl:k=a.length:=by simp at t;omega
     simp only[qI (cz _),lf,mS];exact f i eR) d
    rw[OQ,cB]at this;exact this
  exact e _ b (λi v=>eJ.1 v) d
def O3(D:dR):OU D (gm D):=oO D _ [] none (by simp) (λk a=>by simp at a) trivial
theorem tU:∀{l:List Nat} {i:Nat} (a:i<l.length),(l[i]::l.eraseIdx i).Perm l
 |x::r,0,_=>List.Perm.refl _
 |x::r,i+1,a=>by
  have b:i<r.length:=by simpa using a
  exact(List.Perm.swap x r[i] _).trans ((tU b).cons x)
theorem te:∀(n:Nat) (l:List Nat),l.length=n->∀r∈B9 n l,r.Perm l
 |0,l,h,r,a=>by obtain rfl:=l9 h;rw[show r=[] by simpa[B9]using a]
 |n+1,l,h,r,a=>by simp only[B9,lJ,eJ,jj]at a;obtain⟨i,b,y,c,rfl⟩:=a;have d:=te n _ (by rw[List.length_eraseIdx_of_lt b];omega) y c;rw[getD_eq b];exact(d.cons _).trans (tU b)
theorem tg:∀(n:Nat) (l:List Nat),l.length=n->∀r,r.Perm l->r∈B9 n l
 |0,l,h,r,a=>by obtain rfl:=l9 h;rw[a.eq_nil];simp[B9]
 |n+1,l,h,r,a=>by
  have b:=a.length_eq;match r,a,b with
  |[],_,b=>rw[h]at b;cases b
  |x::r,a,_=>
   obtain⟨i,c,rfl⟩:=List.getElem_of_mem (a.mem_iff.1 eR);have d:=List.Perm.cons_inv (a.trans (tU c).symm);simp only[B9,lJ,eJ,jj];exact⟨i,c,r,tg n _ (by rw[List.length_eraseIdx_of_lt c];omega) r d,by rw[getD_eq c]⟩
def tV(h:l.length<=5)(r:List Nat):r∈mv l↔r.Perm l:=by rw[<-u9 h];exact⟨te _ _ rfl r,tg _ _ rfl r⟩
theorem xB{W:Nat->Nat->Int}(b:∀i j,0<=W i j):∀(l:List Nat) (a z:Nat),0<=AX W a l z
 |[],a,z=>b a z
 |d::r,a,z=>by have:=xB b r (d+1) z;have:=b a (d+1);simp only[AX];omega
def xC(h:H.Ok)(l:List Nat):0<=ik H l:=by unfold ik;rw[AV];exact xB (λi j=>(mq h i j).1) l 0 0
theorem tW(G:Gd)(g:G.Ok):∀(rows:List (List Nat)) (a:List Nat×Int),0<=a.2->a.2=ik G a.1->((rows.foldl (ed G) a).1=a.1\/(rows.foldl (ed G) a).1∈rows)/\(rows.foldl (ed G) a).2=ik G (rows.foldl (ed G) a).1/\(rows.foldl (ed G) a).2<=a.2/\∀r∈rows,(rows.foldl (ed G) a).2<=ik G r
 |[],a,m,h=>⟨.inl rfl,h,Int.le_refl _,λr c=>by cases c⟩
 |x::rows,a,m,h=>by have n:=xC g x;simp only[mP];obtain⟨d,b⟩:∃d,d=ed G a x:=⟨_,rfl⟩;rw[<-b];unfold ed at b;split at b;rename_i i;subst b;obtain⟨j,k,f,l⟩:=tW G g rows (x,ik G x) n rfl;refine⟨.inr (j.elim (λe=>by rw[e];exact eR) (eI _)),k,?_,λr c=>?_⟩;simp only at f;omega;rcases eQ.1 c with rfl|c;exact f;exact l r c;rename_i i;subst b;obtain⟨j,k,f,l⟩:=tW G g rows d m h;refine⟨j.imp id (eI _),k,f,λr c=>?_⟩;rcases eQ.1 c with rfl|c;omega;exact l r c
def AU(g:H.Ok)(s:Nat):(cH H s).Perm (dK s)/\∀r,r.Perm (dK s)->ik H (cH H s)<=ik H r:=by
 have f:=sj s;have b:dK s∈mv (dK s):=(tV f _).2 (List.Perm.refl _);obtain⟨rows,a⟩:∃rows,rows=mv (dK s):=⟨_,rfl⟩;have c:(eH H rows).1∈rows/\∀r∈rows,ik H (eH H rows).1<=ik H r:=by
  rw[<-a]at b;match rows,b with
  |x::rows,_=>
   have h:=xC g x;have e:eH H (x::rows)=rows.foldl (ed H) (x,ik H x):=by unfold eH;rw[mP];congr 1
   obtain⟨i,j,k,l⟩:=tW H g rows (x,ik H x) h rfl;rw[e];refine⟨i.elim (λq=>by rw[q];exact eR) (eI _),λr d=>?_⟩;rw[<-j];rcases eQ.1 d with rfl|d;exact k;exact l r d
 unfold cH;rw[<-a];refine⟨(tV f _).1 (by rw[<-a];exact c.1),λr d=>c.2 r ?_⟩;rw[a];exact(tV f _).2 d
def It(G:Gd)(h:l.Perm f):gQ G l=gQ G f:=by
 induction h with
 |nil=>rfl
 | @cons x e g _ i=>
  have a:=AQ G [x] e;have b:=AQ G [x] g;simp only[List.singleton_append]at a b;omega
 |swap x y l=>
  have a:=AQ G [y] (x::l);have b:=AQ G [x] (y::l);have c:=AQ G [x] l;have d:=AQ G [y] l;simp only[List.singleton_append]at a b c d;omega
 |trans _ _ a b=>exact a.trans b
def Iu(h:l.Perm f)(a:ik H l<=ik H f):dF H l<=dF H f:=by have b:=It H h;have c:=h.length_eq;unfold ik at a;unfold dF dr tG;rw[b,c];omega
theorem qk(a:H.Ok)(q:Nat->Bool):∀(y x:List Nat),(∀d∈y,d<H.doors.length)->dF H (x++y.filter q)<=dF H (x++y)
 |[],x,_=>Int.le_refl _
 |d::y,x,h=>by have c:=h d eR;have b:∀d∈y,d<H.doors.length:=λe f=>h e (eI _ f);rw[List.filter_cons];split;have:=qk a q y (x++[d]) b;simpa using this;exact Int.le_trans (qk a q y x b) (An a c x y)
def OY(a:H.Ok)(h:l.Perm (dK s)):dF H (cH H s)<=dF H l:=
 Iu ((AU a s).1.trans h.symm) ((AU a s).2 l h)
def Gz(h:∀d,d<5->s.testBit d=true->m.testBit d=true):(dK m).filter (s.testBit ·)=dK s:=by unfold dK mu;rw[List.filter_filter];refine List.filter_congr λd a=>?_;have:=h d (eJ.1 a);cases b:s.testBit d<;>simp_all
def LP(a:H.Ok)(c:∀d∈dK m,d<H.doors.length)(h:∀d,d<5->s.testBit d=true->m.testBit d=true):dF H (cH H s)<=dF H (cH H m):=by
 have b:=(AU a m).1;have e:((cH H m).filter (s.testBit ·)).Perm (dK s):=by rw[<-Gz h];exact b.filter _
 have f:=qk a (s.testBit ·) (cH H m) [] λd g=>c d (b.mem_iff.1 g);exact Int.le_trans (OY a e) (by simpa using f)
def LQ(b:H.Ok)(c:∀d∈dK m,d<H.doors.length)(h:∀d,d<5->s.testBit d=true->m.testBit d=true)(a:jH H m=true):jH H s=true:=by unfold jH at a⊢;have:=cY a;exact decide_eq_true (Int.le_trans (LP b c h) this)
def AT(a:List (List Nat))(d i:Nat):List (List Nat):=if i<a.length then a.set i (a.getD i []++[d])else a++[[d]]
def AS:List Nat->List (List Nat)->List (List (List Nat))
 |[],a=>[a]
 |d::r,a=>(List.range (a.length+1)).flatMap λi=>AS r (AT a d i)
def Cc(G:Gd)(g:List Nat):Bool:=jH G (dB g)
def Bc(G:Gd)(D:List (List Nat)):Bool:=D.all (Cc G)
theorem vg(d:Nat):∀(l:List Nat) (s:Nat),setFrom s (l++[d])=nZ (setFrom s l) d
 |[],s=>rfl
 |x::r,s=>vg d r (nZ s x)
def Cp(g:List Nat)(d:Nat):dB (g++[d])=nZ (dB g) d:=vg d g 0
def Q5:∀s:Nat,s<32->∀d:Nat,d<5->∀x:Nat,x<5->s.testBit x=true->(nZ s d).testBit x=true:=by decide+kernel
def Sb(a b:List Nat):Prop:=∀x,x<5->(dB a).testBit x=true->(dB b).testBit x=true
def Q6(h:∀d∈l,d<5):dB l<32:=pP l 0 (by omega) h
def Sb.snoc(h:∀x∈l,x<5)(a:d<5):Sb l (l++[d]):=λx b c=>by rw[Cp];exact Q5 _ (Q6 h) d a x b c
def Cb(a:List (List Nat))(d i:Nat):(AT a d i).length=if i<a.length then a.length else a.length+1:=by unfold AT;split<;>simp
def sC{c:List (List Nat)}(h:∀g∈c,∀x∈g,x<m)(e:d<m):∀g∈AT c d i,∀x∈g,x<m:=by unfold AT;split;rename_i f;intro g b x a;rcases oS b with b|rfl;exact h g b x a;rw[getD_eq f]at a;rcases gl.1 a with a|a;exact h _ (dt f) x a;rw[fD.1 a];exact e;intro g b x a;rcases gl.1 b with b|b;exact h g b x a;rw[fD.1 b]at a;rw[fD.1 a];exact e
theorem pw(n:m<=5):∀(l:List Nat) (a:List (List Nat)),(∀d∈l,d<m)->(∀g∈a,∀x∈g,x<m)->∀D∈AS l a,a.length<=D.length/\(∀g∈D,∀x∈g,x<m)/\∀i (b:i<a.length),∃h:i<D.length,Sb a[i] D[i]
 |[],a,_,k,D,c=>by
  obtain rfl:D=a:=by simpa[AS]using c
  exact⟨cz _,k,λi b=>⟨b,λx _ h=>h⟩⟩
 |d::r,a,s,k,D,c=>by
  simp only[AS,lJ,eJ]at c;obtain⟨j,C,c⟩:=c;have t:=s d eR;obtain⟨u,v,w⟩:=pw n r (AT a d j) (λx f=>s x (eI _ f)) (sC k t) D c;have y:=Cb a d j;have o:a.length<=(AT a d j).length:=by rw[y];split<;>omega
  refine⟨cJ o u,v,λi b=>?_⟩;obtain⟨z,A⟩:=w i (by omega);refine⟨z,λx f p=>A x f ?_⟩;have q:=k _ (dt b);simp only[AT];split;rename_i B;rw[List.getElem_set];split;rename_i e;subst e;rw[getD_eq b];exact Sb.snoc (λx f=>by have:=q x f;omega) (by omega) x f p;exact p;rw[lI b];exact p
def rU{D:List (List Nat)}:Bc H D=true↔∀g∈D,Cc H g=true:=jF
def AW{a:Type}{p:a->Bool}{l:List a}(h:∀x∈l,p x=false):l.find? p=none:=by rw[List.find?_eq_none];intro x b;rw[h x b];decide
def ol(G:Gd)(most:Nat)(D:List (List Nat)):Bool:=decide (D.length<=most)&&Bc G D
def Cq(b:H.Ok){most:Nat}{a:List (List Nat)}(j:∀d∈l,d<H.doors.length)(k:∀g∈a,∀x∈g,x<H.doors.length)(m:i<a.length)(h:Cc H a[i]=false):(AS l a).find? (ol H most)=none:=by
 refine AW λD n=>?_;obtain⟨s,o,p⟩:=pw b.many l a j k D n;obtain⟨c,q⟩:=p i m;cases e:Bc H D with
 |false=>unfold ol;rw[e,Bool.and_false]
 |true=>
  have r:=rU.1 e _ (dt c);have f:=LQ b (lP.dB b.many (o _ (dt c))).2 q r;unfold Cc at h;rw[h]at f;cases f
def LR{a:List (List Nat)}(h:Bc H a=true)(e:i<a.length)(c:Cc H (a[i]++[d])=true):Bc H (a.set i (a[i]++[d]))=true:=rU.2 λg b=>by rcases oS b with b|rfl;exact rU.1 h g b;exact c
theorem nM{a b:Type}{f g:a->Option b}:∀{l:List a},(∀x∈l,f x=g x)->l.findSome? f=l.findSome? g
 |[],_=>rfl
 |x::r,h=>by simp only[List.findSome?_cons,h x eR,nM λy c=>h y (eI _ c)]
theorem xD(o:H.Ok)(most:Nat):∀(l:List Nat) (a:List (List Nat)),(∀d∈l,d<H.doors.length)->(∀g∈a,∀x∈g,x<H.doors.length)->Bc H a=true->a.length<=most->eD H most l (a.map dB)=((AS l a).find? (ol H most)).map (·.map dB)
 |[],a,_,_,f,p=>by simp only[eD,AS,List.find?_cons,ol,decide_eq_true p,f,Bool.true_and,iX]
 |d::r,a,s,t,f,p=>by
  have u:=s d eR;have m:∀x∈r,x<H.doors.length:=λx y=>s x (eI _ y);have v:=xD o most r
  have z:((List.range a.length).findSome? λi=>if jH H (nZ ((a.map dB).getD i 0) d)then eD H most r ((a.map dB).set i (nZ ((a.map dB).getD i 0) d))else none)=((List.range a.length).findSome? λi=>(AS r (AT a d i)).find? (ol H most)).map (·.map dB):=by
   rw[List.map_findSome?];refine nM λi j=>?_;have j:=eJ.1 j;have e:(a.map dB).getD i 0=dB a[i]:=by rw[gU,mR,ew j];rfl
   have n:AT a d i=a.set i (a[i]++[d]):=by rw[AT,cx j,getD_eq j]
   have b:∀g∈a.set i (a[i]++[d]),∀x∈g,x<H.doors.length:=by rw[<-n];exact sC t u
   simp only[Function.comp];rw[e,<-Cp,<-List.map_set,n];split;rename_i k;exact v _ m b (LR f j k) (by rw[qJ];exact p);rename_i k;rw[Cq o m b (i:=i) (by rw[qJ];exact j) (by rw[List.getElem_set_self];unfold Cc;simpa using k)];rfl
  have w:(if(a.map dB).length<most/\jH H (dB [d])=true then eD H most r (a.map dB++[dB [d]])else none)=((AS r (AT a d a.length)).find? (ol H most)).map (·.map dB):=by
   have n:AT a d a.length=a++[[d]]:=by rw[AT,cr (by omega)]
   have b:∀g∈a++[[d]],∀x∈g,x<H.doors.length:=by rw[<-n];exact sC t u
   rw[n,kV];split;rename_i k;have:=v (a++[[d]]) m b (rU.2 λg c=>by rcases gl.1 c with c|c;exact rU.1 f g c;rw[fD.1 c];exact k.2) (by simp;omega);rw[<-this];simp;rename_i k;by_cases q:a.length<most
   rw[Cq o m b (i:=a.length) (by simp) (by simp only[qI (cz _),lf,mS];unfold Cc;cases h:jH H (dB [d])with
    |false=>rfl
    |true=>exact absurd ⟨q,h⟩ k)]
   rfl;rw[AW λD A=>?_];rfl;have:=(pw o.many r _ m b D A).1;simp only[fX,dW,fC]at this;unfold ol;rw[jT (by omega),Bool.false_and]
  simp only[eD,AS];rw[kV]at w⊢;rw[z,w,List.find?_flatMap,kA,List.findSome?_append];cases((List.range a.length).findSome? λi=>(AS r (AT a d i)).find? (ol H most))with
  |some x=>rfl
  |none=>simp
def qz(p:List (List Nat)->Bool)(a:Option (List (List Nat)))(D:List (List Nat)):Option (List (List Nat)):=match a with
 |some b=>if b.length<=D.length then some b else if p D then some D else some b
 |none=>if p D then some D else none
def om(p:List (List Nat)->Bool)(a:List (List (List Nat))):Option (List (List Nat)):=a.foldl (qz p) none
def AH(p:List (List Nat)->Bool)(a:List (List (List Nat)))(D:List (List Nat)):om p (a++[D])=qz p (om p a) D:=by simp only[om,uf,mP,List.foldl_nil]
def wI{a:Type}(p:a->Bool)(l:List a)(x:a):(l++[x]).find? p=(l.find? p).or (if p x then some x else none):=by rw[List.find?_append];congr 1;simp only[List.find?_cons,List.find?_nil];cases p x<;>rfl
def OZ(p:List (List Nat)->Bool)(a:List (List (List Nat))):Option (List (List Nat))->Prop
 |none=>∀D∈a,p D=false
 |some b=>b∈a/\(∀D∈a,p D=true->b.length<=D.length)/\a.find? (λD=>decide (D.length<=b.length)&&p D)=some b
theorem AI(p:List (List Nat)->Bool)(d:List (List (List Nat))):∀k,k<=d.length->OZ p (d.take k) (om p (d.take k))
 |0,_=>λD i=>by simp at i
 |k+1,v=>by
  have e:=AI p d k (by omega);obtain⟨D,i⟩:∃D,D=d[k]:=⟨_,rfl⟩;rw[gP (by omega),<-i,AH];obtain⟨l,r⟩:∃l,l=d.take k:=⟨_,rfl⟩;rw[<-r]at e⊢;cases q:om p l with
  |none=>
   rw[q]at e;have e:∀D∈l,p D=false:=e;cases g:p D with
   |false=>
    simp only[qz,g,iq,eo];intro E a;rcases gl.1 a with a|a;exact e E a;rw[fD.1 a];exact g
   |true=>
    simp only[qz,g,cX];refine⟨by simp,λE a c=>?_,?_⟩;rcases gl.1 a with a|a;rw[e E a]at c;cases c;rw[fD.1 a];exact cz _;rw[wI,AW λx j=>by rw[e x j,Bool.and_false]];simp[g]
  |some b=>
   rw[q]at e;obtain⟨s,m,t⟩:b∈l/\(∀D∈l,p D=true->b.length<=D.length)/\l.find? (λD=>decide (D.length<=b.length)&&p D)=some b:=e;have f:(b.length<=D.length\/p D=false)->OZ p (l++[D]) (some b):=λh=>by refine⟨List.mem_append_left _ s,λE a c=>?_,?_⟩;rcases gl.1 a with a|a;exact m E a c;rw[fD.1 a]at c⊢;rcases h with h|h;exact h;rw[h]at c;cases c;rw[wI,t];rfl
   simp only[qz];split;rename_i n;exact f (.inl n);rename_i u;cases g:p D with
   |false=>simpa using f (.inr g)
   |true=>
    simp only[cX];refine⟨by simp,λE a c=>?_,?_⟩;rcases gl.1 a with a|a;have:=m E a c;omega;rw[fD.1 a];exact cz _;rw[wI,AW λx j=>?_];simp[g];cases o:p x with
    |false=>rw[Bool.and_false]
    |true=>
     have:=m x j o;rw[jT (by omega),Bool.false_and]
theorem vh:∀(l:List Nat) (a:List (List Nat)),∀D∈AS l a,D.length<=a.length+l.length
 |[],a,D,b=>by
  obtain rfl:D=a:=by simpa[AS]using b
  exact cz _
 |d::r,a,D,b=>by simp only[AS,lJ,eJ]at b;obtain⟨j,e,b⟩:=b;have f:=vh r _ D b;have c:=Cb a d j;rw[dW];split at c<;>omega
def O0:∀s:Nat,s<32->s≠0->0<(dK s).length:=by decide+kernel
def Iv(v:H.Ok)(w:lP H s):fJ H s=(om (Bc H) (AS (dK s) [])).map λD=>D.map λg=>cH H (dB g):=by
 have z:=v.many;unfold fJ;split;rename_i h;subst h;rfl;rename_i h;obtain⟨l,n⟩:∃l,l=dK s:=⟨_,rfl⟩;have o:0<l.length:=by rw[n];exact O0 s w.1 h
 have a:∀d∈l,d<H.doors.length:=by rw[n];exact w.2
 rw[<-n];have A:((List.range l.length).findSome? λm=>eD H (m+1) l [])=(List.range l.length).findSome? λm=>((AS l []).find? (ol H (m+1))).map (·.map dB):=nM λm _=>xD v (m+1) l [] a (λg p=>by cases p) rfl (fN _);rw[A];have f:∀D∈AS l [],1<=D.length:=by
  match l,o,a with
  |d::r,_,a=>
   intro D c;simp only[AS,lJ,eJ]at c;obtain⟨j,G,c⟩:=c;have q:=(pw z r (AT [] d j) (λx B=>a x (eI _ B)) (sC (λg p=>by cases p) (a d eR)) D c).1;have t:=Cb [] d j;simp at t;omega
 have e:=AI (Bc H) (AS l []) _ (cz _);rw[kX]at e;cases y:om (Bc H) (AS l [])with
 |none=>
  rw[y]at e;have e:∀D∈AS l [],Bc H D=false:=e;have:((List.range l.length).findSome? λm=>((AS l []).find? (ol H (m+1))).map (·.map dB))=none:=by rw[List.findSome?_eq_none_iff];intro m _;rw[AW λD c=>by unfold ol;rw[e D c,Bool.and_false]];rfl
  rw[this];rfl
 |some b=>
  rw[y]at e;obtain⟨q,t,C⟩:b∈AS l []/\(∀D∈AS l [],Bc H D=true->b.length<=D.length)/\(AS l []).find? (λD=>decide (D.length<=b.length)&&Bc H D)=some b:=e;have u:=vh l [] b q;have E:=f b q;simp only[fC,cB]at u
  have:((List.range l.length).findSome? λm=>((AS l []).find? (ol H (m+1))).map (·.map dB))=some (b.map dB):=by
   refine rJ (k:=b.length-1) (by omega) (λi I=>?_) ?_;rw[AW λD c=>?_];rfl;unfold ol;cases F:Bc H D with
   |false=>rw[Bool.and_false]
   |true=>
    have:=t D c F;rw[jT (by omega),Bool.false_and]
   rw[show b.length-1+1=b.length by omega,show ol H b.length=λD=>decide (D.length<=b.length)&&Bc H D from rfl,C];rfl
  rw[this];simp[yw]
def nW(G:Gd)(s:Nat):Int:=match fJ G s with
 |some a=>(a.length:Int)
 |none=> -1
def vm:∀s:Nat,s<32->∀d:Nat,d<5->∀x:Nat,x<5->(nZ s d).testBit x=(s.testBit x||decide (x=d)):=by decide+kernel
theorem oP{x:Nat}:∀(l:List Nat) (s:Nat),s<32->(∀d∈l,d<5)->x<5->((setFrom s l).testBit x=true↔s.testBit x=true\/x∈l)
 |[],s,_,_,_=>by simp[setFrom]
 |d::r,s,a,h,b=>by have c:=h d eR;have:=oP (x:=x) r (nZ s d) (Hj s a d c) (λy e=>h y (eI _ e)) b;show(setFrom (nZ s d) r).testBit x=true↔_;rw[this,vm s a d c x b,L4,decide_eq_true_iff,eQ,or_assoc]
def qx(h:∀d∈l,d<5)(a:m<5):(dB l).testBit m=true↔m∈l:=by have:=oP l 0 (by omega) h a;unfold dB;rw[this];simp
def nK:m∈dK s↔m<5/\s.testBit m=true:=by unfold dK mu;rw[ug,eJ]
theorem qD:∀(l:List Nat) (b:List (List Nat)),∀D∈AS l b,∀x,(x∈l\/∃g∈b,x∈g)->∃g∈D,x∈g
 |[],b,D,c,x,h=>by
  obtain rfl:D=b:=by simpa[AS]using c
  rcases h with h|h;cases h;exact h
 |d::r,b,D,c,x,h=>by
  simp only[AS,lJ,eJ]at c;obtain⟨j,o,c⟩:=c;refine qD r _ D c x ?_;have m:∀g∈b,x∈g->∃g∈AT b d j,x∈g:=λg k e=>by obtain⟨i,n,rfl⟩:=List.getElem_of_mem k;unfold AT;split;rename_i a;by_cases f:j=i;subst f;exact⟨_,List.mem_set a _,by rw[getD_eq a];exact List.mem_append_left _ e⟩;exact⟨b[i],List.mem_iff_getElem.2 ⟨i,by simpa using n,by rw[List.getElem_set_ne f]⟩,e⟩;exact⟨_,List.mem_append_left _ k,e⟩
  rcases h with h|⟨g,k,e⟩;rcases eQ.1 h with rfl|h;refine .inr ?_;unfold AT;split;rename_i a;exact⟨_,List.mem_set a _,by simp⟩;exact⟨[x],by simp,by simp⟩;exact .inl h;exact .inr (m g k e)
def vw:((List.range 6).all λn=>(List.range 32).all λs=>!((List.range 5).all λx=>!s.testBit x||decide (x<n))||decide (s<2^n))=true:=by decide+kernel
def vB{n s:Nat}(a:n<6)(b:s<32)(h:∀x,x<5->s.testBit x=true->x<n):s<2^n:=by
 have:=jF.1 (jF.1 vw n (eJ.2 a)) s (eJ.2 b)
 have c:((List.range 5).all λx=>!s.testBit x||decide (x<n))=true:=jF.2 λx d=>by
  cases e:s.testBit x with
  |false=>rfl
  |true=>simp[h x (eJ.1 d) e]
 rw[c]at this;exact cY (by simpa using this)
def Aq(T:Int)(a:List Sx):(cW T a).Pairwise (·<·):=(List.pairwise_lt_range).filter _
def vf{a:List Sx}(j:a.length<=5)(f:Nat)(k:s<32)(h:∀x,x<5->s.testBit x=true->x∈cW H.tries a):(iU H a f).counts.getD s 0=nW H s:=by
 have e:∀d∈cW H.tries a,d<5:=λd l=>by have:=kh l;omega
 have b:Qr s (dB (cW H.tries a))=true:=jF.2 λx c=>by
  cases g:s.testBit x with
  |false=>rfl
  |true=>rw[(qx e (eJ.1 c)).2 (h x (eJ.1 c) g)];rfl
 have i:=vB (n:=a.length) (by omega) k λx j g=>kh (h x j g);show(ie H _ _).getD s 0=_;unfold ie;rw[gU,mR,List.getElem?_range k];show(if s<2^a.length then pX H (dB (cW H.tries a)) s else 0)=_;rw[cx i,pX,cx b];rfl
theorem sv(D:dR)(g:∀k,fh D k<5):∀(a:List Nat) (k:Nat) (L:Nat->Nat),(∀s,L s<32)->∀s,n4 D k a L s<32/\∀x,x<5->((n4 D k a L s).testBit x=true↔(L s).testBit x=true\/∃j,∃h:j<a.length,fh D (k+j)=x/\s∈(dz D (k+j)).getD a[j] [])
 |[],k,L,e,s=>⟨e s,λx i=>by simp[n4]⟩
 |q::a,k,L,e,s=>by
  have f:∀s,jz (fh D k) ((dz D k).getD q []) L s<32:=λs=>by unfold jz;split;exact Hj _ (e s) _ (g k);exact e s
  obtain⟨m,n⟩:=sv D g a (k+1) _ f s;refine⟨m,λx i=>?_⟩;simp only[n4];rw[n x i];have o:(jz (fh D k) ((dz D k).getD q []) L s).testBit x=true↔(L s).testBit x=true\/(fh D k=x/\s∈(dz D k).getD q []):=by unfold jz;split;rename_i l;rw[vm _ (e s) _ (g k) x i,L4,decide_eq_true_iff];exact or_congr l8 ⟨λh=>⟨h.symm,l⟩,λh=>h.1.symm⟩;rename_i l;exact⟨.inl,λh=>h.elim id λh=>absurd h.2 l⟩
  rw[o,or_assoc];refine or_congr l8 ⟨?_,?_⟩;rintro(⟨b,c⟩|⟨j,d,b,c⟩);exact⟨0,by simp,by simpa using b,by simpa using c⟩;exact⟨j+1,by simpa using d,by rw[show k+(j+1)=k+1+j by omega];exact b,by rw[show k+(j+1)=k+1+j by omega];simpa using c⟩;rintro⟨j,d,b,c⟩;match j,d,b,c with
  |0,d,b,c=>exact .inl ⟨by simpa using b,by simpa using c⟩
  |j+1,d,b,c=>
   rw[show k+(j+1)=k+1+j by omega]at b c;exact .inr ⟨j,by simpa using d,b,by simpa using c⟩
section
variable{G:Gd}{xs:List Sx}
def OT(f k:Nat):fh (iU G xs f) k=(cW G.tries xs).getD k 0:=rfl
def OR(f:Nat)(a:k<(cW G.tries xs).length):dz (iU G xs f) k=il G (xs.getD (cW G.tries xs)[k] oe) f:=by show((cW G.tries xs).map λd=>il G (xs.getD d oe) f).getD k []=_;rw[gU,mR,ew a];rfl
def vr(h:d∈cW G.tries xs):∃b:d<xs.length,gA G.tries xs[d]=false/\xs.getD d oe=xs[d]:=by have a:=kh h;refine⟨a,?_,getD_eq a⟩;have:=(ug.1 h).2;rw[ew a]at this;simpa using this
def qw(i:xs.length<=5){f:Nat}{a:List Nat}(p:a.length=(cW G.tries xs).length)(s:Nat):n4 (iU G xs f) 0 a L0 s<32/\∀x,x<5->((n4 (iU G xs f) 0 a L0 s).testBit x=true↔∃j,∃h:j<a.length,∃q:j<(cW G.tries xs).length,(cW G.tries xs)[j]=x/\s∈(il G (xs.getD (cW G.tries xs)[j] oe) f).getD a[j] []):=by
 have e:∀k,fh (iU G xs f) k<5:=λk=>by rw[OT];by_cases l:k<(cW G.tries xs).length;rw[getD_eq l];have:=kh (dt l);omega;rw[gU,IA (by omega)];decide
 obtain⟨m,n⟩:=sv (iU G xs f) e a 0 L0 (λ_=>by show 0<32;decide) s;refine⟨m,λx i=>?_⟩;rw[n x i];have o:¬(L0 s).testBit x=true:=by simp[L0]
 constructor;rintro(h|⟨j,g,c,d⟩);exact absurd h o;rw[cB]at c d;have b:j<(cW G.tries xs).length:=by omega
 rw[OT,getD_eq b]at c;rw[OR f b]at d;exact⟨j,g,b,c,d⟩;rintro⟨j,g,b,c,d⟩;refine .inr ⟨j,g,?_,?_⟩;rw[cB,OT,getD_eq b];exact c;rw[cB,OR f b];exact d
def vn(b:xs.length<=5){f:Nat}{qs:List Nat}(c:qs.length=(cW G.tries xs).length):gH (iU G xs f) (n4 (iU G xs f) 0 qs L0)=(List.range 6).map λs=>nW G (n4 (iU G xs f) 0 qs L0 s):=by show((List.range 6).map (n4 (iU G xs f) 0 qs L0)).map _=_;rw[List.map_map];refine List.map_congr_left λs _=>?_;simp only[Function.comp];obtain⟨d,e⟩:=qw (G:=G) b (f:=f) c s;exact vf b f d λx a g=>by obtain⟨j,_,h,i,_⟩:=(e x a).1 g;rw[<-i];exact dt h
end
theorem xa:∀(n:Nat) (l:List Nat),l.Nodup->(∀x∈l,x<n)->l.length<=n
 |0,l,_,h=>by
  match l,h with
  |[],_=>exact cz _
  |x::r,h=>exact absurd (h x eR) (Nat.not_lt_zero _)
 |n+1,l,a,h=>by
  have b:=xa n (l.erase n) (a.erase n) λx d=>by have:=(a.mem_erase_iff).1 d;have:=h x this.2;omega
  by_cases c:n∈l;rw[List.length_erase_of_mem c]at b;omega;rw[List.erase_of_not_mem c]at b;omega
def AE(s:Nat)(c:Nat->Nat)(j:Nat):Nat:=dB ((dK s).filter λd=>c d==j)
def AK(G:Gd)(s n:Nat)(c:Nat->Nat):Prop:=(∀d∈dK s,c d<n)/\∀j,j<n->jH G (AE s c j)=true
def u4{c:Nat->Nat}(a:m<5):(AE s c j).testBit m=true↔s.testBit m=true/\c m=j:=by unfold AE;rw[qx (λd b=>(nK.1 (ug.1 b).1).1) a,ug,nK];simp[a]
def wG(a:H.Ok)(b:lP H s)(c:Nat->Nat)(j:Nat):lP H (AE s c j):=lP.dB a.many λd e=>b.2 d (ug.1 e).1
def AP(c:Nat->Nat)(P:Nat->Prop)(a:List (List Nat))(b:List Nat):Prop:=a.length=b.length/\∀i (h:i<a.length) (d:i<b.length),∀x∈a[i],c x=b[i]/\P x
theorem wH{n:Nat}{c:Nat->Nat}{P:Nat->Prop}:∀(l:List Nat) (m:List (List Nat)) (g:List Nat),AP c P m g->g.Nodup->(∀k∈g,k<n)->(∀d∈l,c d<n/\P d)->∃D∈AS l m,∃g:List Nat,AP c P D g/\g.Nodup/\∀k∈g,k<n
 |[],m,g,h,t,u,_=>⟨m,by simp[AS],g,h,t,u⟩
 |d::r,m,g,h,t,u,A=>by
  have B:∀d∈r,c d<n/\P d:=λx f=>A x (eI _ f);have v:=A d eR;by_cases C:c d∈g;obtain⟨j,E,F⟩:=List.getElem_of_mem C;have w:j<m.length:=by rw[h.1];exact E
  obtain⟨D,y,z⟩:=wH r (AT m d j) g (by unfold AT;rw[cx w];refine⟨by rw[qJ];exact h.1,λi s q x f=>?_⟩;rw[qJ]at s;rw[List.getElem_set]at f;split at f;rename_i e;subst e;rw[getD_eq s]at f;rcases gl.1 f with f|f;exact h.2 _ s q x f;rw[fD.1 f];exact⟨F.symm,v.2⟩;exact h.2 i s q x f) t u B
  exact⟨D,by simp only[AS,lJ,eJ];exact⟨j,by omega,y⟩,z⟩;obtain⟨D,y,z⟩:=wH r (AT m d m.length) (g++[c d]) (by
   unfold AT;rw[cr (by omega)];refine⟨by simp[h.1],λi s q x f=>?_⟩;by_cases p:i<m.length;rw[lI p]at f;have:=h.2 i p (by rw[<-h.1];exact p) x f;rw[lI (by rw[<-h.1];exact p)];exact this;obtain rfl:i=m.length:=by simp at s;omega
   simp only[qI (cz _),lf,mS,fD]at f;subst f;refine⟨?_,v.2⟩;rw[qI (by rw[h.1];exact cz _)];simp) (List.nodup_append.2 ⟨t,by simp,λa G b H=>by rw[fD.1 H];exactλe=>C (e▸G)⟩) (λk o=>by
   rcases gl.1 o with o|o;exact u k o;rw[fD.1 o];exact v.1) B
  exact⟨D,by simp only[AS,lJ,eJ];exact⟨m.length,by omega,y⟩,z⟩
def AL(m:H.Ok){s n:Nat}{c:Nat->Nat}(u:lP H s)(h:AK H s n c):0<=nW H s/\nW H s<=n:=by
 have E:=m.many;obtain⟨D,v,o,r,A,w⟩:=wH (n:=n) (c:=c) (P:=λx=>x∈dK s) (dK s) [] [] ⟨rfl,λi p=>by simp at p⟩ List.nodup_nil (λk B=>by cases B) λd q=>⟨h.1 d q,q⟩;have y:=xa n o A w
 have a:Bc H D=true:=rU.2 λg C=>by
  obtain⟨i,p,rfl⟩:=List.getElem_of_mem C;have l:i<o.length:=by rw[<-r.1];exact p
  have e:=r.2 i p l;have t:∀d∈D[i],d<5:=λd q=>(nK.1 (e d q).2).1;refine LQ m (wG m u c o[i]).2 (λx z j=>?_) (h.2 o[i] (w _ (dt l)));rw[qx t z]at j;rw[u4 z];exact⟨(nK.1 (e x j).2).2,(e x j).1⟩
 have f:=AI (Bc H) (AS (dK s) []) _ (cz _);rw[kX]at f;unfold nW;rw[Iv m u];cases j:om (Bc H) (AS (dK s) [])with
 |none=>
  rw[j]at f;have f:∀D∈AS (dK s) [],Bc H D=false:=f;rw[f D v]at a;cases a
 |some b=>
  rw[j]at f;have:=f.2.1 D v a;have:=r.1;simp only[iX,kV];omega
def AF(n:H.Ok)(v:lP H s)(h:nW H s=m):∃c,AK H s m c:=by
 have y:=n.many;have o:=AI (Bc H) (AS (dK s) []) _ (cz _);rw[kX]at o;unfold nW at h;rw[Iv n v]at h;cases z:om (Bc H) (AS (dK s) [])with
 |none=>
  rw[z]at h;simp only[Option.map_none]at h;omega
 |some b=>
  rw[z]at h o;simp only[iX,kV]at h;obtain⟨A,F,B⟩:=o;have e:Bc H b=true:=by have:=List.find?_some B;rw[ez]at this;exact this.2
  have p:b.length=m:=by omega
  have q:=(pw y (dK s) [] v.2 (λg a=>by cases a) b A).2.1;have f:∀d∈dK s,∃h:b.findIdx (λg=>g.contains d)<b.length,d∈b[b.findIdx (λg=>g.contains d)]:=λd i=>by obtain⟨g,a,r⟩:=qD _ _ b A d (.inl i);have k:b.findIdx (λg=>g.contains d)<b.length:=List.findIdx_lt_length_of_exists ⟨g,a,by simpa using r⟩;refine⟨k,?_⟩;have:=List.findIdx_getElem (w:=k);simpa using this
  refine⟨λd=>b.findIdx λg=>g.contains d,λd i=>by rw[<-p];exact(f d i).1,λj t=>?_⟩;have t:j<b.length:=by omega
  have a:=q _ (dt t);refine LQ n (lP.dB y a).2 (λx u l=>?_) (rU.1 e _ (dt t));rw[u4 u]at l;obtain⟨C,D⟩:=l;obtain⟨G,E⟩:=f x (nK.2 ⟨u,C⟩);rw[qx (λd i=>by have:=a d i;omega) u];subst D;exact E
def xA(a:H.Ok)(k:lP H s)(e:lP H m)(h:∀x,x<5->s.testBit x=true->m.testBit x=true)(t:0<=nW H m):0<=nW H s/\nW H s<=nW H m:=by obtain⟨n,f⟩:∃n:Nat,nW H m=n:=⟨(nW H m).toNat,by omega⟩;obtain⟨c,l,o⟩:=AF a e f;rw[f];refine AL a k (c:=c) ⟨λd p=>?_,λj q=>?_⟩;obtain⟨g,r⟩:=nK.1 p;exact l d (nK.2 ⟨g,h d g r⟩);refine LQ a (wG a e c j).2 (λx i b=>?_) (o j q);rw[u4 i]at b⊢;exact⟨h x i b.1,b.2⟩
section
variable{G H:Gd}{σ τ:Nat->Nat}
end
def xz{xs:List Sx}{d:Nat}:d∈cW I xs↔∃x,xs[d]? =some x/\gA I x=false:=by unfold cW pR;rw[ug,eJ];constructor;rintro⟨a,b⟩;rw[ew a]at b⊢;exact⟨_,rfl,by simpa using b⟩;rintro⟨x,a,b⟩;obtain⟨c,_⟩:=gy.1 a;refine⟨c,?_⟩;rw[a];simp[b]
def xW(T:Int)(xs:List Sx):(cW T xs).Nodup:=(Aq T xs).imp λh=>Nat.ne_of_lt h
def Ao{G:Gd}(c:G.Ok){xs:List Sx}(e:xs.length=G.doors.length)(f:Nat){a:List Nat}(g:a.length=(cW G.tries xs).length)(s:Nat):lP G (n4 (iU G xs f) 0 a L0 s):=by have o:=c.many;obtain⟨h,i⟩:=qw (G:=G) (xs:=xs) (f:=f) (by omega) g s;refine⟨h,λd k=>?_⟩;obtain⟨b,l⟩:=nK.1 k;obtain⟨j,_,m,n,_⟩:=(i d b).1 l;rw[<-n,<-e];exact kh (dt m)
def AC{G H:Gd}(a:H.days=G.days)(b:H.tries=G.tries)(x:Sx)(f:Nat):il H x f=il G x f:=by unfold il fB fQ FX sJ uS;rw[a,b]
section
variable{G H:Gd}{σ τ:Nat->Nat}{xs ys:List Sx}
theorem vu(D:dR)(a:List Nat):∀k,k<=a.length->mg D a k=n4 D 0 (a.take k) L0
 |0,_=>rfl
 |k+1,b=>by rw[gP (by omega),OQ,yy,Nat.min_eq_left (by omega),cB,<-vu D a k (by omega)];have e:a.getD k 0=a[k]:=getD_eq (by omega);simp only[mg];rw[e]
end
def wv(x:Sx)(t:List Nat):Sx:=t.foldl (λx s=>iJ x s false) x
def pu(t:List Nat)(h:Nat):Nat:=(t.filter λs=>decide (s%2=h)).length
theorem ve:∀(t:List Nat) (x:Sx),(wv x t).tries=x.tries+t.length/\(wv x t).mornings=x.mornings+pu t 0/\(wv x t).evenings=x.evenings+pu t 1/\(wv x t).opened=x.opened/\(wv x t).left=x.left
 |[],x=>by simp[wv,pu]
 |s::r,x=>by
  obtain⟨a,b,c,d,f⟩:=ve r (iJ x s false);have e:wv x (s::r)=wv (iJ x s false) r:=rfl;rw[e,a,b,c,d,f];have h:s%2=0\/s%2=1:=by omega
  unfold pu;rw[List.filter_cons,List.filter_cons];refine⟨?_,?_,?_,?_,rfl⟩;simp only[iJ,dW];omega;rcases h with h|h<;>simp[iJ,h]<;>omega;rcases h with h|h<;>simp[iJ,h]<;>omega;simp[iJ]
def vx:0<pu l m↔l.any (λs=>decide (s%2=m))=true:=by unfold pu;rw[List.length_pos_iff_exists_mem,List.any_eq_true];constructor;rintro⟨s,a⟩;exact⟨s,(ug.1 a).1,(ug.1 a).2⟩;rintro⟨s,b,c⟩;exact⟨s,ug.2 ⟨b,c⟩⟩
def Cw{x:Sx}(k:0<=x.mornings/\0<=x.evenings)(b:(l.length:Int)=(fQ H x).tries)(a:wq (fQ H x) l=true):gA H.tries (wv x l)=true:=by
 obtain⟨c,d,f,g,i⟩:=ve l x;unfold wq at a;simp only[fQ,FX,sJ,uS,ez,L4]at b a;rw[<-vx,<-vx]at a;unfold gA;rw[c,d,f,g,i];simp only[L4,ez,decide_eq_true_iff];refine .inr ⟨by omega,?_⟩;by_cases j:H.tries<2;exact .inl j;have e:decide (2<=H.tries)=true:=decide_eq_true (by omega);rw[e,Bool.true_and,Bool.true_and]at a;refine .inr ⟨?_,?_⟩;rcases a.1 with h|h;omega;have:x.mornings≠0:=by simpa using h
 omega;rcases a.2 with h|h;omega;have:x.evenings≠0:=by simpa using h
 omega
structure DO(G:Gd)(x:Sx)(f:Nat)(t:List Nat):Prop where
 up:t.Pairwise λa b=>a/2<b/2
 free:∀s∈t,tH x (s/2)=false/\f<=s/\s<fB G
theorem vz{x:Sx}{u:Du}:∀{n:Nat} {l t:List Nat} {a:Nat},DO H x m l->(∀s∈l,s<a)->m<=a->t∈jI (fB H) x u n l a->DO H x m t/\(t.length:Int)=u.tries/\wq u t=true
 |0,l,t,a,_,_,_,h=>by cases h
 |n+1,l,t,a,o,r,E,h=>by
  simp only[jI]at h;split at h;rename_i f;split at h;rename_i g;rw[fD.1 h];exact⟨o,f,g⟩;cases h;obtain⟨i,w,h⟩:=lJ.1 h;have w:=eJ.1 w;split at h;cases h;rename_i e;have e:og x l (a+i)=false:=by simpa using e
  unfold og at e;rw[Bool.or_eq_false_iff]at e;refine vz ⟨List.pairwise_append.2 ⟨o.up,List.pairwise_singleton _ _,λp c q A=>?_⟩,λs b=>?_⟩ (λs b=>?_) (by omega) h;rw[fD.1 A];have B:=r p c;have d:∃z,l.getLast?=some z/\p/2<=z/2:=by
   obtain⟨z,j⟩:∃z,l.getLast?=some z:=by
    cases y:l.getLast? with
    |none=>rw[List.getLast?_eq_none_iff]at y;rw[y]at c;cases c
    |some z=>exact⟨z,rfl⟩
   refine⟨z,j,?_⟩;obtain⟨F,rfl⟩:=List.getLast?_eq_some_iff.1 j;rcases gl.1 c with c|c;exact Nat.le_of_lt ((List.pairwise_append.1 o.up).2.2 p c z (by simp));rw[fD.1 c];exact cz _
  obtain⟨z,j,C⟩:=d;have D:=r z (List.mem_of_getLast? j);have v:=e.2;have k:0<l.length:=List.length_pos_iff_exists_mem.2 ⟨p,c⟩;rw[j,decide_eq_true k,Bool.true_and,decide_eq_false_iff_not]at v;have v:¬z/2=(a+i)/2:=v;omega;rcases gl.1 b with b|b;exact o.free s b;rw[fD.1 b];exact⟨e.1,by omega,by omega⟩;rcases gl.1 b with b|b;have:=r s b;omega;rw[fD.1 b];omega
def Nb{x:Sx}(h:l∈il H x m):DO H x m l/\(l.length:Int)=(fQ H x).tries/\wq (fQ H x) l=true:=vz ⟨List.Pairwise.nil,λs a=>by cases a⟩ (λs a=>by cases a) (cz m) h
theorem Ax:∀(t:List Nat) (x:Sx) (d:Nat),d<3->(∀s∈t,s<6)->tH (wv x t) d=(tH x d||t.any λs=>decide (s/2=d))
 |[],x,d,_,_=>by simp[wv]
 |s::r,x,d,b,h=>by
  have c:=Ax r (iJ x s false) d b λy f=>h y (List.mem_cons_of_mem _ f)
  have e:wv x (s::r)=wv (iJ x s false) r:=rfl
  rw[e,c,List.any_cons,<-Bool.or_assoc]
  congr 1
  have i:=h s List.mem_cons_self
  obtain rfl|rfl|rfl:d=0\/d=1\/d=2:=by omega
  all_goals
   simp only[tH,iJ]
   by_cases g:s/2=0
   ·simp[g]
   ·by_cases a:s/2=1
    ·simp[a]
    ·have:s/2=2:=by omega
     simp[this]
def rT(s:Nat):(dK s).Nodup:=(List.pairwise_lt_range.filter _).imp λh=>Nat.ne_of_lt h
theorem xE(d:Nat):∀(a:List (List Nat)) (i:Nat) (h:i<a.length),(a.set i (a[i]++[d])).flatten.Perm (a.flatten++[d])
 |g::r,0,_=>by simp only[List.set_cons_zero,mS,List.flatten_cons,List.append_assoc];exact List.Perm.append_left g List.perm_append_comm
 |g::r,i+1,h=>by simp only[List.set_cons_succ,IC,List.flatten_cons,List.append_assoc];exact List.Perm.append_left g (xE d r i (by simpa using h))
def AN(a:List (List Nat))(d i:Nat):(AT a d i).flatten.Perm (a.flatten++[d]):=by unfold AT;split;rename_i h;rw[getD_eq h];exact xE d a i h;rw[List.flatten_append];simp
theorem vC:∀(l:List Nat) (a:List (List Nat)),∀D∈AS l a,D.flatten.Perm (a.flatten++l)
 |[],a,D,b=>by
  obtain rfl:D=a:=by simpa[AS]using b
  rw[List.append_nil]
 |d::r,a,D,b=>by simp only[AS,lJ,eJ]at b;obtain⟨j,f,b⟩:=b;have c:=vC r _ D b;have e:=(AN a d j).append_right r;have:=c.trans e;simpa using this
theorem Ay:∀(l:List Nat) (c:List (List Nat)),(∀g∈c,g≠[])->∀D∈AS l c,∀g∈D,g≠[]
 |[],c,h,D,b=>by
  obtain rfl:D=c:=by simpa[AS]using b
  exact h
 |d::r,c,h,D,b=>by simp only[AS,lJ,eJ]at b;obtain⟨j,e,b⟩:=b;refine Ay r _ (λg a=>?_) D b;unfold AT at a;split at a;rcases oS a with a|rfl;exact h g a;simp;rcases gl.1 a with a|a;exact h g a;rw[fD.1 a];simp
def DN(i:H.Ok)(q:lP H s){j:List (List Nat)}(h:fJ H s=some j):j.flatten.Perm (dK s)/\∀l∈j,l≠[]/\dF H l<=H.minutes:=by
 have w:=i.many;rw[Iv i q]at h;obtain⟨D,y,rfl⟩:=ij.1 h;have t:=AI (Bc H) (AS (dK s) []) _ (cz _);rw[kX,y]at t;obtain⟨k,F,z⟩:=t;have m:Bc H D=true:=by have:=List.find?_some z;rw[ez]at this;exact this.2
 have n:=(pw w (dK s) [] q.2 (λg a=>by cases a) D k).2.1;have b:D.flatten.Perm (dK s):=by simpa using vC (dK s) [] D k
 have o:=rT s;have p:∀g∈D,g.Nodup:=λg a=>(List.sublist_flatten_of_mem a).nodup (b.nodup_iff.2 o)
 have u:∀g∈D,(cH H (dB g)).Perm g:=λg a=>by
  have c:∀d∈g,d<5:=λd A=>by have:=n g a d A;omega
  refine(AU i (dB g)).1.trans ((List.perm_ext_iff_of_nodup (rT _) (p g a)).2 λx=>?_);rw[nK];constructor;rintro⟨f,B⟩;exact(qx c f).1 B;intro f;exact⟨c x f,(qx c (c x f)).2 f⟩
 refine⟨?_,λl C=>?_⟩
 have:∀D:List (List Nat),(∀g∈D,(cH H (dB g)).Perm g)->(D.map λg=>cH H (dB g)).flatten.Perm D.flatten:=λD=>by
  induction D with
  |nil=>exactλ_=>.refl _
  |cons g r E=>exactλh=>(h g eR).append (E λx f=>h x (eI _ f))
 exact(this D u).trans b;obtain⟨g,a,rfl⟩:=jj.1 C;refine⟨λe=>?_,?_⟩;have v:=u g a;rw[e]at v;exact Ay _ _ (λg a=>by cases a) D k g a (List.nil_perm.1 v);have:=rU.1 m g a;exact cY this
def pt(d:Nat)(W:List (Nat×List Nat)):List Nat:=(W.filter λp=>decide (d∈p.2)).map (·.1)
def tc(s:Nat)(W:List (Nat×List Nat)):Nat:=(W.filter λp=>decide (p.1=s)).length
def wJ(d:Nat)(A B:List (Nat×List Nat)):pt d (A++B)=pt d A++pt d B:=by unfold pt;rw[List.filter_append,nQ]
theorem Iw(d s:Nat):∀c:List (List Nat),c.flatten.Nodup->pt d (c.map λl=>(s,l))=if d∈c.flatten then [s]else []
 |[],_=>rfl
 |l::r,h=>by
  rw[List.flatten_cons]at h;obtain⟨j,f,g⟩:=List.nodup_append.1 h;have i:=Iw d s r f;rw[jP,List.flatten_cons];have e:pt d ((s,l)::r.map λl=>(s,l))=(if d∈l then [s]else [])++pt d (r.map λl=>(s,l)):=by unfold pt;rw[List.filter_cons];by_cases a:d∈l;rw[cx (decide_eq_true a),cx a];rfl;rw[cr (by simpa using a),cr a];rfl
  rw[e,i];by_cases a:d∈l;have:d∉r.flatten:=λb=>g d a d b rfl;rw[cx a,cr this,cx (List.mem_append_left _ a)];rfl;rw[cr a,sM];by_cases b:d∈r.flatten;rw[cx b,cx (List.mem_append_right _ b)];rw[cr b,cr (λh=>(gl.1 h).elim a b)]
def Cy(s:Nat)(A B:List (Nat×List Nat)):tc s (A++B)=tc s A+tc s B:=by unfold tc;rw[List.filter_append,fX]
def Da(s x:Nat)(a:List (List Nat)):tc x (a.map λl=>(s,l))=if s=x then a.length else 0:=by unfold tc;rw[List.filter_map,kV];by_cases h:s=x;rw[cx h,List.filter_eq_self.2 λl _=>by simp[h]];rw[cr h,Rb.2 λl _=>by simp[h]];rfl
section
variable{G:Gd}{L:Nat->Nat}
def wK(G:Gd)(L:Nat->Nat):Prop:=∀s,s<6->lP G (L s)/\0<=nW G (L s)
def wK.DL(d:G.Ok)(h:wK G L){s:Nat}(e:s<6):∃a,fJ G (L s)=some a/\nW G (L s)=a.length/\a.flatten.Perm (dK (L s))/\∀l∈a,l≠[]/\dF G l<=G.minutes:=by
 obtain⟨f,b⟩:=h s e;cases c:fJ G (L s)with
 |none=>
  unfold nW at b;rw[c]at b;exact absurd b (by decide)
 |some a=>
  obtain⟨g,i⟩:=DN d f c;refine⟨a,rfl,?_,g,i⟩;unfold nW;rw[c]
theorem o7(n:G.Ok)(h:wK G L):∀k,k<=6->((tP G L k).Pairwise λa b=>a.1<=b.1)/\(∀p∈tP G L k,p.1<k/\p.2≠[]/\p.2.Nodup/\dF G p.2<=G.minutes/\∀d∈p.2,d∈dK (L p.1))/\(∀d,pt d (tP G L k)=(List.range k).filter λs=>decide (d∈dK (L s)))/\∀s,(tc s (tP G L k):Int)=if s<k then nW G (L s)else 0
 |0,_=>⟨List.Pairwise.nil,λp f=>(by cases f),λd=>rfl,λs=>rfl⟩
 |k+1,C=>by obtain⟨u,o,v,w⟩:=o7 n h k (by omega);obtain⟨q,x,y,f,z⟩:=h.DL n (s:=k) (by omega);have i:q.flatten.Nodup:=f.nodup_iff.2 (rT _);rw[xq,x];simp only[kC];refine⟨List.pairwise_append.2 ⟨u,List.pairwise_map.2 (List.pairwise_of_forall λ_ _=>cz _),λa A b B=>?_⟩,λp c=>?_,λd=>?_,λs=>?_⟩;obtain⟨l,_,rfl⟩:=jj.1 B;have:=(o a A).1;show a.1<=k;omega;rcases gl.1 c with c|c;obtain⟨r,m⟩:=o p c;exact⟨by omega,m⟩;obtain⟨l,e,rfl⟩:=jj.1 c;obtain⟨r,m⟩:=z l e;exact⟨Nat.lt_succ_self k,r,(List.sublist_flatten_of_mem e).nodup i,m,λd g=>f.mem_iff.1 (List.mem_flatten.2 ⟨l,e,g⟩)⟩;rw[wJ,v d,Iw d k q i,kA,List.filter_append];congr 1;rw[List.filter_cons];by_cases g:d∈dK (L k);rw[cx (f.mem_iff.2 g),cx (decide_eq_true g)];rfl;rw[cr (λh=>g (f.mem_iff.1 h)),cr (by simpa using g)];rfl;rw[Cy,Int.natCast_add,w s,Da];by_cases t:k=s;subst t;rw[cr (by omega),cx rfl,cx (by omega),y];omega;rw[cr t];by_cases j:s<k;rw[cx j,cx (by omega)];omega;rw[cr j,cr (by omega)];rfl
end
def Ct{t:List Nat}(h:t.Pairwise λa b=>a/2<b/2)(e:∀s∈t,s<6):((List.range 6).filter λs=>decide (s∈t))=t:=by
 have c:t.Pairwise (·<·):=h.imp λh=>by omega
 have d:((List.range 6).filter λs=>decide (s∈t)).Pairwise (·<·):=List.pairwise_lt_range.filter _;refine List.Perm.eq_of_pairwise (le:=(·<=·)) (λa b _ _ f g=>Nat.le_antisymm f g) (d.imp Nat.le_of_lt) (c.imp Nat.le_of_lt) ((List.perm_ext_iff_of_nodup (d.imp Nat.ne_of_lt) (c.imp Nat.ne_of_lt)).2 λx=>?_);rw[ug,eJ,decide_eq_true_iff];exact⟨λh=>h.2,λh=>⟨e x h,h⟩⟩
theorem AD:∀(l:List Int) (a:Int),l.foldl max a=a\/l.foldl max a∈l
 |[],a=>.inl rfl
 |x::r,a=>by rw[mP];rcases AD r (max a x)with h|h;rw[h];rcases Int.le_total a x with b|b;rw[Int.max_eq_right b];exact .inr eR;rw[Int.max_eq_left b];exact .inl rfl;exact .inr (eI _ h)
theorem AG:∀(l:List Int) (a:Int),a<=l.foldl max a/\∀x∈l,x<=l.foldl max a
 |[],a=>⟨Int.le_refl _,λx b=>by cases b⟩
 |y::r,a=>by rw[mP];obtain⟨d,c⟩:=AG r (max a y);have:=Int.le_max_left a y;have:=Int.le_max_right a y;refine⟨by omega,λx b=>?_⟩;rcases eQ.1 b with rfl|b;omega;exact c x b
section
variable{G:Gd}{xs:List Sx}
def DJ(B:G.Ok)(F:xs.length=G.doors.length)(f:Nat){l:List Int}(C:gm (iU G xs f)=some (l,I,J)):∃(L:Nat->Nat) (a:List Nat),z7 G (iU G xs f)=some (tP G L 6)/\wK G L/\(∀s,s<6->nW G (L s)<=I)/\(0<I->∃s,s<6/\nW G (L s)=I)/\0<=I/\∀d,(d∈cW G.tries xs/\∃t,t∈il G (xs.getD d oe) f/\∀s,d∈dK (L s)↔s∈t)\/(d∉cW G.tries xs/\∀s,d∉dK (L s)):=by
 have O:=B.many;have q:=O3 (iU G xs f);rw[C]at q;obtain⟨a,r,H,k⟩:=q;have r:a.length=(cW G.tries xs).length:=r;unfold dX at k;rw[vn (by omega) r]at k;split at k;cases k;rename_i K;injection k with k;injection k with D k;injection k with y P;have e:mg (iU G xs f) (l.map Int.toNat) l.length=n4 (iU G xs f) 0 a L0:=by
  have:l.map Int.toNat=a:=by rw[<-D,List.map_map];simp[yw]
  have M:l.length=a.length:=by rw[<-D,kV]
  rw[this,M,vu _ _ _ (cz _),kX]
 have u:∀s,s<6->nW G (n4 (iU G xs f) 0 a L0 s)∈(List.range 6).map λs=>nW G (n4 (iU G xs f) 0 a L0 s):=λs b=>jj.2 ⟨s,eJ.2 b,rfl⟩;have p:=AG ((List.range 6).map λs=>nW G (n4 (iU G xs f) 0 a L0 s)) 0;rw[y]at p;refine⟨n4 (iU G xs f) 0 a L0,a,?_,λs b=>⟨Ao B F f r s,?_⟩,λs b=>p.2 _ (u s b),λQ=>?_,p.1,λd=>?_⟩;unfold z7;rw[C];show some (tP G (mg (iU G xs f) (l.map Int.toNat) l.length) 6)=_;rw[e];exact Int.not_lt.1 λv=>K (List.any_eq_true.2 ⟨_,u s b,decide_eq_true v⟩);rcases AD ((List.range 6).map λs=>nW G (n4 (iU G xs f) 0 a L0 s)) 0 with h|h;rw[y]at h;omega;rw[y]at h;obtain⟨s,b,g⟩:=jj.1 h;exact⟨s,eJ.1 b,g⟩
 have o:∀s,d∈dK (n4 (iU G xs f) 0 a L0 s)↔∃j,∃h:j<a.length,∃R:j<(cW G.tries xs).length,(cW G.tries xs)[j]=d/\s∈(il G (xs.getD (cW G.tries xs)[j] oe) f).getD a[j] []:=λs=>by
  obtain⟨_,E⟩:=qw (G:=G) (xs:=xs) (f:=f) (by omega) r s;rw[nK];constructor;rintro⟨m,z⟩;exact(E d m).1 z;rintro⟨j,w,c,g,b⟩;have m:d<5:=by rw[<-g];have:=kh (dt c);omega
  exact⟨m,(E d m).2 ⟨j,w,c,g,b⟩⟩
 by_cases n:d∈cW G.tries xs;refine .inl ⟨n,?_⟩;obtain⟨j,c,g⟩:=List.getElem_of_mem n;have w:j<a.length:=by omega
 have x:=H j w;rw[OR f c,g]at x;refine⟨(il G (xs.getD d oe) f)[a[j]],dt x,λs=>?_⟩;rw[o s];constructor;rintro⟨i,S,N,A,b⟩;obtain rfl:i=j:=(List.getElem_inj (xW _ _)).1 (A.trans g.symm);rw[g,getD_eq x]at b;exact b;intro b;exact⟨j,w,c,g,by rw[g,getD_eq x];exact b⟩;refine .inr ⟨n,λs b=>?_⟩;obtain⟨j,w,c,g,_⟩:=(o s).1 b;exact n (by rw[<-g];exact dt c)
end
section
variable{G:Gd}{da:Option Addr}{dc:Nat}{w:cd}
end
def LL(G:Gd)(l:List Ty)(k:Nat):List Nat:=(List.range k).filter λd=>!oM G l d
def Is(G:Gd)(l:List Ty)(n:Nat):cW G.tries ((List.range n).map (MI l))=LL G l n:=by unfold cW pR LL;rw[kV,List.length_range];refine List.filter_congr λd a=>?_;have a:=eJ.1 a;simp[mR,List.getElem?_range a,wF]
def DD(a:Ext w t)(d:DE m t e)(h:w.heap.size<=m):Ext w e:=⟨d.1.os.trans a.os,d.1.tape.trans a.tape,d.1.output.trans a.output,cJ a.size d.1.size,cJ a.drawn d.1.drawn,λx b=>(d.1.block x (dl b a.size) (by omega)).trans (a.block x b)⟩
def sK.rowOf{l:List Ty}(h:sK m w (.slice a k i) l):wE w a l:=by obtain⟨d,f,e,b,g⟩:=h.row;injection e with c;rw[c];exact b
def DF(l:List Ty):iK (l.map Pf)=qy l:=by unfold iK qy;rw[List.getLast?_map];cases l.getLast?<;>rfl
def OV{l:List Ty}(h:Made H l s):qy l<=s:=by
 unfold qy;cases a:l.getLast? with
 |none=>exact fN _
 |some t=>exact h.last t (List.mem_of_getLast? a)
def Bb{l:List Ty}(a:eg H=0)(h:Made H l s){f:Nat}(c:qy l<=f)(d:(f:Int)<=2*H.days-1):ee H (l.map Pf) f 0=0:=by
 have e:wn H (l.map Pf)=0:=by rw[wn,cx a,h.log]
 have b:jX (f:Int) 0 (2*H.days-1)=true:=by simp[jX];omega
 have g:rH H (iK (l.map Pf)) f=0:=by rw[rH,b,DF,cx rfl,cr (by omega)]
 rw[ee,cx e,cx g];rfl
section
variable{G H:Gd}{σ τ:Nat->Nat}
end
theorem wD:∀{l:List Dr},(∀x∈l,rF I x=0)->nz I l=0
 |[],_=>rfl
 |x::r,h=>by simp only[nz];rw[cx (h x eR)];exact wD λy a=>h y (eI _ a)
theorem vp:∀{l:List Dr},nz I l=0->∀x∈l,rF I x=0
 |x::r,h,y,a=>by simp only[nz]at h;split at h;rename_i b;rcases eQ.1 a with rfl|a;exact b;exact vp h y a;rename_i b;exact absurd h b
section
variable{H G:Gd}
end
def kq.vy{x y:Code}{l:L}{Q:QW}(h:kq P m x l w (Ry (λc d=>kq P m y c d Q) Q)):kq P m (.seq x y) l w Q:=⟨λa g=>by
 refine jU (lV (h.out a g) ?_);rintro e i d ⟨c,b,f⟩;cases e with
 |normal=>exact f.out i b
 |_=>exact⟨c,b,f⟩⟩
def vA{Q:QW}{e:Exit}{a:Act}(h:∃g,Fr k g a/\kJ m Q e g w):Exit.inBlock m (lift k Q) e a w:=by
 obtain⟨f,b,d⟩:=h;cases e with
 |exit j=>
  simp only[Exit.inBlock];by_cases c:j=m;subst c;rw[cx rfl];simp only[kJ,yA]at d;exact⟨f,b,d⟩;rw[cr c];have:Nat.beq j m=false:=by
   cases i:Nat.beq j m with
   |false=>rfl
   |true=>exact absurd (gE i) c
  simp only[kJ,this]at d;exact⟨f,b,d⟩
 |_=>exact⟨f,b,d⟩
theorem kq.block{c:Code}{l:L}{Q:QW}(h:kq P m c l w (kJ k Q)):kq P m (.block k c) l w Q:=⟨λa b=>by refine wp_block (lV (h.out a b) ?_);intro e f g d;exact vA d⟩
def GD{i:Type}(n:Nat){d:Code}{l:L}{Q:QW}(b:Nat->i->L)(J:Nat->i->cd->Prop)(o:i)(r:Sub (b 0 o) l/\J 0 o w)
 (f:∀c s w,c<=n->J c s w->kq V.prog m d (b c s) w (λe t u=>match e with
  | .normal=>c<n/\∃h,Sub (b (c+1) h) t/\J (c+1) h u
  |e=>kJ k Q e t u)):kq V.prog m (Code.block k (Code.loop d)) l w Q:=by
 refine⟨λa p=>?_⟩;refine wp_block ?_;refine pJ (λj a w=>∃c s,c<=n/\j=n-c/\Fr m (b c s) a/\J c s w) n ⟨0,o,fN _,by omega,p.sub r.1,r.2⟩ ?_;rintro j a w ⟨c,s,x,rfl,p,y⟩;refine lV ((f c s w x y).out a p) ?_;rintro e C D ⟨v,g,q⟩;cases e with
 |normal=>
  obtain⟨z,h,A,B⟩:=q;exact⟨n-(c+1),by omega,c+1,h,by omega,rfl,g.sub A,B⟩
 |exit j=>
  simp only[Exit.then];exact vA (e:=.exit j) ⟨v,g,q⟩
 |_=>exact⟨v,g,q⟩
def vo(p:Int×Bool):ce:=if p.2 then .tuple #[.int .i64 p.1,.int .i64 0]else .tuple #[.int .i64 0,.int .i64 11]
def tf{G:Gd}{dc:Nat}{l:List Tq}{la:Option Addr}{lc:Nat}(t:gD w a G.doors)(e:G.doors.length<=100000)(u: -1000000<=G.streets/\G.streets<=1000000)(x:sI w la l)(m:l.length<=100000)(c:Int):
 Calls V.prog 46 #[gV G a dc,.slice la l.length lc,.int .i64 c] w (qa λv p=>Ext w p/\((ee G l c 0≠0/\v=.tuple #[.int .i64 0,.int .i64 (ee G l c 0)])\/(ee G l c 0=0/\v=vo (uV (iU G (gO G l).2 c.toNat))))):=by
 refine go (V.fn Tryz.func46 (by decide)) Tryz.ntmps46 ?_;refine fo λD E i y n=>di n (ck (mB (dc:=dc) (t.ext i) e u (x.ext i) m c 0) ?_);rintro v F ⟨q,⟨d,rfl⟩|⟨d,H,I,mk,J,rfl,j,z⟩⟩;exact eG (iR (by simpa using d) (.inl ⟨_,rfl,i.trans q,.inl ⟨d,rfl⟩⟩));have A:=j.g.lo;have K:=i.size;obtain⟨f,rfl,o,_⟩:=lG j.k.g.tY d;refine eG (iG (by simp) (fG (Ld (n0:=w.heap.size) j.k (λb n=>n.elim) j.g.U1 (by omega) (by omega) z o) (λp h=>.inr ⟨rfl,h⟩) ?_));rintro _ B ⟨C,rfl⟩;have r:Ext w B:=C.1.from (i.trans q) (cz _);rw[ql];cases s:(uV (iU G (gO G l).2 f)).2 with
 |false=>exact eu (iR rfl (.inl ⟨_,rfl,r,.inr ⟨d,by unfold vo;rw[s];rfl⟩⟩))
 |true=>exact eu (iG rfl (.inl ⟨_,rfl,r,.inr ⟨d,by unfold vo;rw[s];rfl⟩⟩))
end Go.Proofs.W
variable{W X:Array ce}
namespace Go.Proofs.W
open Go.RowKit
def GH(a:List Dr)(c:m<a.length)(d:k<3):(a.flatMap dL)[m*3+k]? =(dL a[m])[k]? :=by have b:k<(dL a[m]).length:=d;rw[ew b];exact Ik (f:=dL) (n:=3) (λ_=>rfl) a m c k _ (ew b)
theorem mC.set{a:List Dr}(h:mC m w (.slice (some ⟨k,0,none⟩) a.length j) a)(v:w.heap[k]? =some (.cells W 81))(H:i<a.length)(l:t.heap[k]? =some (.cells (W.setIfInBounds (i*3+2) (.int .i64 I)) 81)):mC m t (.slice (some ⟨k,0,none⟩) (a.set i ⟨a[i].st,a[i].at_,I⟩).length j) (a.set i ⟨a[i].st,a[i].at_,I⟩):=by
 obtain⟨J,⟨K,_⟩|⟨x,L,y,z,e,d,p,A,B,C,D⟩⟩:=h;omega;injection e with e _ E;obtain rfl:k=x:=cM Addr.block (cE e);rw[v]at d;injection d with d;injection d with d;subst d;subst E;have F:=B7 a;have b:=B7 (a.set i ⟨a[i].st,a[i].at_,I⟩);rw[qJ]at b;refine⟨by rw[qJ];exact b,.inr ⟨k,j,_,z,rfl,l,by simpa using p,by rw[qJ];exact A,B,λf n=>?_,λf n g=>?_⟩⟩;rw[b]at n;obtain⟨q,r,rfl,s⟩:∃q r,f=q*3+r/\r<3:=⟨f/3,f%3,by omega,by omega⟩;have u:q<a.length:=by omega
 rw[GH _ (by rw[qJ];exact u) s,List.getElem_set];have c:=C (q*3+r) (by omega);rw[GH a u s]at c;split;rename_i o;subst o;by_cases G:r=2;subst G;rw[jE (by simp only[dW,fC]at p;omega)];rfl;rw[eY (by omega),c];obtain rfl|rfl:r=0\/r=1:=by omega
 rfl;rfl;rw[eY (by omega),c];rw[b]at n;rw[Array.size_setIfInBounds]at g;rw[eY (by omega)];exact D f (by omega) g
end Go.Proofs.W
variable{M Y:List ce}
namespace Go.Proofs.W
open Go.RowKit
def cA.st{d:List ce}(h:cA m T M w (.slice (some ⟨k,0,none⟩) i j) i Y)(l:w.heap[k]? =some (.cells W T))(f:t.heap[k]? =some (.cells X T))(n:X.size=W.size)(o:d.length=Y.length)(g:∀a,a<Y.length->X[a]? =d[a]?)(c:∀a,Y.length<=a->X[a]? =W[a]?)(D:0<i):cA m T M t (.slice (some ⟨k,0,none⟩) i j) i d:=by obtain⟨p,⟨q,_⟩|⟨r,E,s,u,e,b,v,x,y,F,z⟩⟩:=h;omega;injection e with e _ A;obtain rfl:k=r:=cM Addr.block (cE e);rw[l]at b;injection b with b;injection b with b;subst b;subst A;refine⟨by rw[o];exact p,.inr ⟨k,j,X,u,rfl,f,by rw[n];exact v,x,y,λa B=>g a (by omega),λa B C=>?_⟩⟩;rw[c a (by omega)];exact z a (by omega) (by omega)
def O2(f:Nat)(a:List Nat)(b:List Nat):List Ty:=b.map λd=>⟨d,f,decide (d∈a)⟩
theorem Cu{G:Gd}(j:G.days<=3){s:Nat}(k:(s:Int)<2*G.days)(a:List Nat):∀(f:List Nat) (l:List Ty),Made G l s->f.Nodup->(∀d∈f,d<G.doors.length/\tH (MI l d) (s/2)=false/\gA G.tries (MI l d)=false)->Made G (l++O2 s a f) s/\∀d,MI (l++O2 s a f) d=if d∈f then iJ (MI l d) s (decide (d∈a))else MI l d
 |[],l,h,_,_=>by have e:l++O2 s a []=l:=List.append_nil l;rw[e];exact⟨h,λd=>by rw[cr (by simp)]⟩
 |d::r,l,h,p,m=>by
  have c:=List.nodup_cons.1 p;obtain⟨q,t,u⟩:=m d eR;have v:=h.more (o:=decide (d∈a)) q k j (by rw[<-OL l d _ (by omega)];exact t) (by rw[<-wF];exact u);obtain⟨w,y⟩:=Cu j k a r (l++[⟨d,s,decide (d∈a)⟩]) v c.2 λe n=>by have g:d≠e:=λh=>c.1 (h▸n);rw[Ij l ⟨d,s,decide (d∈a)⟩ e g];exact m e (eI _ n)
  have e:l++O2 s a (d::r)=(l++[⟨d,s,decide (d∈a)⟩])++O2 s a r:=by rw[List.append_assoc];rfl
  rw[e];refine⟨w,λx=>?_⟩;rw[y x];by_cases i:d=x;subst i;rw[cr c.1,cx eR,Ii l d s _ (by omega)];rw[Ij l ⟨d,s,decide (d∈a)⟩ x i];by_cases b:x∈r;rw[cx b,cx (eI _ b)];rw[cr b,cr λh=>(eQ.1 h).elim (λh=>i h.symm) b]
theorem Gr{G:Gd}:∀{l:List Ty} {xs:List Sx} {b:Int},(rL G xs b (l.map Pf)).1=0->(∀t∈l,b<=(t.shift:Int))/\l.Pairwise λx y=>x.shift<=y.shift
 |[],xs,b,_=>⟨λt d=>(by cases d),List.Pairwise.nil⟩
 |t::r,xs,b,h=>by simp only[jP,rL]at h;split at h;split at h;simp at h;rename_i f;split at h;simp at h;split at h;simp at h;obtain⟨c,g⟩:=Gr h;have e:(Pf t).shift=(t.shift:Int):=rfl;rw[e]at f c;refine⟨λu a=>?_,List.pairwise_cons.2 ⟨λu a=>Int.ofNat_le.1 (c u a),g⟩⟩;rcases eQ.1 a with rfl|a;omega;have:=c u a;omega;simp at h
theorem Made.Gy{G:Gd}{l:List Ty}{s:Nat}(h:Made G l s):∀t∈l,t.shift<=qy l:=λt a=>by
 have:=(Gr (l:=l) (by have:=h.log;unfold gO at this;rw[this])).2;unfold qy;cases b:l.getLast? with
 |none=>rw[List.getLast?_eq_none_iff]at b;rw[b]at a;cases a
 |some z=>
  obtain⟨c,rfl⟩:=List.getLast?_eq_some_iff.1 b;rcases gl.1 a with a|a;exact(List.pairwise_append.1 this).2.2 t a z (by simp);rw[fD.1 a];exact cz _
theorem Aw(d:Nat)(p:Nat×List Nat)(B:List (Nat×List Nat)):pt d (p::B)=if d∈p.2 then p.1::pt d B else pt d B:=by unfold pt;rw[List.filter_cons];by_cases a:d∈p.2;rw[cx a,cx (decide_eq_true a)];rfl;rw[cr a,cr (by simpa using a)]
theorem GA(d:Nat)(p:Nat×List Nat)(A:List (Nat×List Nat)):pt d (A++[p])=if d∈p.2 then pt d A++[p.1]else pt d A:=by rw[wJ,Aw];split<;>simp[pt]
theorem GB(x:Sx)(t:List Nat)(s:Nat):wv x (t++[s])=iJ (wv x t) s false:=by simp[wv,uf]
theorem DK{x:Sx}{s:Nat}:gA I (iJ x s true)=true:=by simp[gA,iJ]
structure vt(G:Gd)(xs:List Sx)(f:Nat)(ps:List (Nat×List Nat)):Prop where
 up:ps.Pairwise λa b=>a.1<=b.1
 walk:∀p∈ps,(f<=p.1/\p.1<fB G)/\p.2.Nodup/\(∀d∈p.2,d<G.doors.length)/\dF G p.2<=G.minutes
 door:∀d,(d∈cW G.tries xs/\pt d ps∈il G (xs.getD d oe) f)\/(d∉cW G.tries xs/\pt d ps=[])
section
variable{G:Gd}{xs:List Sx}{f:Nat}{ps:List (Nat×List Nat)}
theorem GF(k:G.Ok)(x:xs.length=G.doors.length)(f:Nat){l:List Int}(y:gm (iU G xs f)=some (l,I,J)):∃ps,z7 G (iU G xs f)=some ps/\vt G xs f ps/\(∀p∈ps,p.2≠[])/\0<=I/\∃L,wK G L/\(∀s,s<6->nW G (L s)<=I)/\∀d s,s<6->(d∈dK (L s)↔s∈pt d ps):=by
 obtain⟨L,a,z,m,A,O,B,C⟩:=DJ k x f y;obtain⟨D,u,n,P⟩:=o7 k m 6 (cz _);have o:=zO k
 have b:∀d,(d∈cW G.tries xs/\pt d (tP G L 6)∈il G (xs.getD d oe) f)\/(d∉cW G.tries xs/\pt d (tP G L 6)=[]):=λd=>by
  rcases C d with⟨g,t,v,i⟩|⟨g,i⟩;obtain⟨w,_⟩:=Nb v;have e:pt d (tP G L 6)=t:=by rw[n d,List.filter_congr λs _=>(decide_eq_decide.2 (i s))];exact Ct w.up λs i=>by have:=(w.free s i).2.2;omega
  exact .inl ⟨g,by rw[e];exact v⟩;exact .inr ⟨g,by rw[n d];exact Rb.2 λs _=>by simpa using i s⟩
 refine⟨tP G L 6,z,⟨D,λp j=>?_,b⟩,λp j=>(u p j).2.1,B,L,m,A,λd s i=>?_⟩;obtain⟨E,F,H,K,M⟩:=u p j;obtain⟨d,r⟩:=List.exists_mem_of_ne_nil _ F;have c:p.1∈pt d (tP G L 6):=jj.2 ⟨p,ug.2 ⟨j,decide_eq_true r⟩,rfl⟩;refine⟨?_,H,λe N=>(m p.1 E).1.2 e (M e N),K⟩;rcases b d with⟨_,q⟩|⟨_,q⟩;exact((Nb q).1.free _ c).2;rw[q]at c;cases c;rw[n d,ug,eJ,decide_eq_true_iff];exact⟨λh=>⟨i,h⟩,λh=>h.2⟩
def Ih(G:Gd)(xs:List Sx)(l:List Ty)(A:List (Nat×List Nat)):Prop:=∀d,d<G.doors.length->(gA G.tries (MI l d)=true/\pt d A≠[])\/MI l d=wv (xs.getD d oe) (pt d A)
theorem vt.may(h:vt G xs f ps)(j:G.Ok){A B:List (Nat×List Nat)}{p:Nat×List Nat}(e:ps=A++p::B){l:List Ty}(k:Ih G xs l A){d:Nat}(i:d∈p.2)(m:gA G.tries (MI l d)=false):tH (MI l d) (p.1/2)=false/\MI l d=wv (xs.getD d oe) (pt d A):=by
 have c:=zO j;have n:p∈ps:=by rw[e];simp
 have a:MI l d=wv (xs.getD d oe) (pt d A):=(k d ((h.walk p n).2.2.1 d i)).resolve_left λq=>by rw[m]at q;cases q.1
 refine⟨?_,a⟩;have b:pt d ps=pt d A++p.1::pt d B:=by rw[e,wJ,Aw,cx i]
 rcases h.door d with⟨_,q⟩|⟨_,q⟩;rw[b]at q;obtain⟨g,_⟩:=Nb q;have o:=g.free p.1 (by simp);rw[a,Ax _ _ _ (by omega) λs a=>by have:=(g.free s (List.mem_append_left _ a)).2.2;omega,o.1,Bool.false_or,List.any_eq_false];intro s a;have:=(List.pairwise_append.1 g.up).2.2 s a p.1 (by simp);simp;omega;rw[b]at q;simp at q
theorem vt.step(h:vt G xs f ps)(n:G.Ok){A B:List (Nat×List Nat)}{p:Nat×List Nat}(e:ps=A++p::B){l:List Ty}(q:Made G l p.1)(o:Ih G xs l A){g:List Nat}(j:g=p.2.filter λd=>!gA G.tries (MI l d))(k:List Nat):Made G (l++O2 p.1 k g) p.1/\Ih G xs (l++O2 p.1 k g) (A++[p]):=by
 have r:p∈ps:=by rw[e];simp
 obtain⟨⟨y,s⟩,t,u,z⟩:=h.walk p r;unfold fB at s
 obtain⟨v,w⟩:=Cu n.days.2 (by omega) k g l q (j▸t.filter _) λd m=>by
  rw[j]at m;obtain⟨i,b⟩:=ug.1 m;have b:gA G.tries (MI l d)=false:=by simpa using b
  exact⟨u d i,(h.may n e o i b).1,b⟩
 refine⟨v,λd m=>?_⟩;rw[w d,GA];by_cases a:d∈g;rw[cx a];rw[j]at a;obtain⟨i,b⟩:=ug.1 a;have b:gA G.tries (MI l d)=false:=by simpa using b
 rw[cx i];cases C:decide (d∈k)with
 |true=>exact .inl ⟨DK,by simp⟩
 |false=>exact .inr (by rw[GB,(h.may n e o i b).2])
 rw[cr a];by_cases c:d∈p.2;rw[cx c];refine .inl ⟨?_,by simp⟩;cases x:gA G.tries (MI l d)with
 |true=>rfl
 |false=>exact absurd (by rw[j];exact ug.2 ⟨c,by rw[x];rfl⟩) a
 rw[cr c];exact o d m
theorem vt.fin(h:vt G xs f ps)(p:xs.length=G.doors.length)(c:∀x∈xs,0<=x.mornings/\0<=x.evenings){l:List Ty}(j:Ih G xs l ps){d:Nat}(k:d<G.doors.length):gA G.tries (MI l d)=true:=by
 rcases j d k with e|e;exact e.1;rw[e];rcases h.door d with⟨g,i⟩|⟨g,i⟩;obtain⟨_,m,n⟩:=Nb i;obtain⟨a,_,b⟩:=vr g;exact Cw (by rw[b];exact c _ (dt a)) m n;rw[i];show gA G.tries (xs.getD d oe)=true;have a:d<xs.length:=by omega
 rw[getD_eq a];cases o:gA G.tries xs[d]with
 |true=>rfl
 |false=>exact absurd (xz.2 ⟨_,ew a,o⟩) g
theorem vq(b:0<=I){l:List Int}(h:∀x∈l,x<=I):l.foldl max 0<=I:=by rcases AD l 0 with a|a;rw[a];exact b;exact h _ a
theorem vk{a:Type}{p q:a->Int}:∀(l:List a),(∀x∈l,p x<=q x)->(l.map p).sum<=(l.map q).sum
 |[],_=>Int.le_refl _
 |x::r,h=>by simp only[jP,List.sum_cons];exact Int.add_le_add (h x eR) (vk r λy b=>h y (eI _ b))
theorem u5(z:G.Ok)(A:xs.length=G.doors.length)(f:Nat)(t:Nat->List Nat)(I:∀d∈cW G.tries xs,t d∈il G (xs.getD d oe) f){L:Nat->Nat}(C:wK G L)(o:∀d∈cW G.tries xs,∀s∈t d,d∈dK (L s)):∃l m k,gm (iU G xs f)=some (l,m,k)/\∀M,0<=M->(∀s,s<6->nW G (L s)<=M)->m<=M/\(m=M->k<=((List.range 6).map λs=>nW G (L s)).sum):=by
 have P:=z.many;obtain⟨qs,r⟩:∃qs,qs=(cW G.tries xs).map λd=>(il G (xs.getD d oe) f).idxOf (t d):=⟨_,rfl⟩;have c:qs.length=(cW G.tries xs).length:=by rw[r,kV]
 have D:∀j (i:j<qs.length) (a:j<(cW G.tries xs).length),∃h:qs[j]<(il G (xs.getD (cW G.tries xs)[j] oe) f).length,(il G (xs.getD (cW G.tries xs)[j] oe) f)[qs[j]]=t (cW G.tries xs)[j]:=λj i a=>by
  have e:qs[j]=(il G (xs.getD (cW G.tries xs)[j] oe) f).idxOf (t (cW G.tries xs)[j]):=by simp[r]
  have E:=List.idxOf_lt_length_of_mem (I _ (dt a));simp only[e];exact⟨E,List.getElem_idxOf E⟩
 have b:=oN (iU G xs f) (qs:=qs) c λj i=>by rw[OR f (by omega)];exact(D j i (by omega)).1
 have n:∀s,s<6->0<=nW G (n4 (iU G xs f) 0 qs L0 s)/\nW G (n4 (iU G xs f) 0 qs L0 s)<=nW G (L s):=λs g=>by refine xA z (Ao z A f c s) (C s g).1 (λx B w=>?_) (C s g).2;obtain⟨j,i,a,J,u⟩:=((qw (G:=G) (xs:=xs) (f:=f) (by omega) c s).2 x B).1 w;obtain⟨F,H⟩:=D j i a;rw[getD_eq F,H]at u;rw[<-J];exact(nK.1 (o _ (dt a) s u)).2
 have i:dX (iU G xs f) (n4 (iU G xs f) 0 qs L0) qs=some (qs.map Int.ofNat,((List.range 6).map λs=>nW G (n4 (iU G xs f) 0 qs L0 s)).foldl max 0,((List.range 6).map λs=>nW G (n4 (iU G xs f) 0 qs L0 s)).sum):=by unfold dX;rw[vn (by omega) c,cr];rw[List.any_eq_true];rintro⟨y,K,v⟩;obtain⟨s,g,rfl⟩:=jj.1 K;have:=(n s (eJ.1 g)).1;have:=cY v;omega
 rw[i]at b;cases w:gm (iU G xs f)with
 |none=>rw[w]at b;exact b.elim
 |some y=>
  obtain⟨l,m,k⟩:=y;rw[w]at b;simp only[OP]at b;refine⟨l,m,k,rfl,λM N O=>?_⟩;have F:=vq N (l:=(List.range 6).map λs=>nW G (n4 (iU G xs f) 0 qs L0 s)) λx A=>by obtain⟨s,g,rfl⟩:=jj.1 A;exact Int.le_trans (n s (eJ.1 g)).2 (O s (eJ.1 g))
  have H:=vk (p:=λs=>nW G (n4 (iU G xs f) 0 qs L0 s)) (q:=λs=>nW G (L s)) (List.range 6) λs g=>(n s (eJ.1 g)).2;omega
end
structure Gq(H G:Gd)(ns:List Nat):Prop where
 h:H.Ok
 g:G.Ok
 corner:H.corner=G.corner
 knock:H.knock=G.knock
 minutes:H.minutes=G.minutes
 days:H.days=G.days
 tries:H.tries=G.tries
 len:H.doors.length=ns.length
 nodup:ns.Nodup
 lt:∀x∈ns,x<G.doors.length
 door:∀i (h:i<ns.length),H.doors[i]? =G.doors[ns[i]]?
section
variable{H G:Gd}{ns:List Nat}
def Lu(ns:List Nat):Nat->Nat
 |0=>0
 |i+1=>ns.getD i 0+1
def Gq.at_(T:Gq H G ns){i:Nat}(c:i<H.doors.length):∃h:i<ns.length,ns.getD i 0=ns[i]/\ns[i]<G.doors.length/\ns.idxOf ns[i]=i:=by
 have h:i<ns.length:=by rw[<-T.len];exact c
 have b:=dt h;have a:=List.idxOf_lt_length_of_mem b;exact⟨h,getD_eq h,T.lt _ b,(List.getElem_inj T.nodup).1 (List.getElem_idxOf a)⟩
def Gq.back(T:Gq H G ns){d:Nat}(b:d∈ns):ns.idxOf d<H.doors.length/\ns.getD (ns.idxOf d) 0=d:=by have a:=List.idxOf_lt_length_of_mem b;exact⟨by rw[T.len];exact a,by rw[getD_eq a];exact List.getElem_idxOf a⟩
def Gq.place(T:Gq H G ns){i:Nat}(a:i<=H.doors.length):(dH G)[Lu ns i]? =(dH H)[i]? :=by
 match i,a with
 |0,_=>rfl
 |i+1,a=>
  obtain⟨h,e,_⟩:=T.at_ (i:=i) a;show G.doors[ns.getD i 0]? =H.doors[i]?;rw[e];exact(T.door i h).symm
def Gq.Pt(T:Gq H G ns){i j:Nat}(a:i<=H.doors.length)(b:j<=H.doors.length):jK G (Lu ns i) (Lu ns j)=jK H i j:=by unfold jK;rw[T.place a,T.place b,T.corner]
theorem Gq.path(T:Gq H G ns):∀(l:List Nat) (a z:Nat),(∀d∈l,d<H.doors.length)->a<=H.doors.length->z<=H.doors.length->AX (jK G) (Lu ns a) (l.map λi=>ns.getD i 0) (Lu ns z)=AX (jK H) a l z
 |[],a,z,_,b,c=>T.Pt b c
 |d::r,a,z,h,b,c=>by have e:=h d eR;have f:=T.path r (d+1) z (λx g=>h x (eI _ g)) e c;have k:=T.Pt b (j:=d+1) e;simp only[jP,AX];rw[<-f,<-k];rfl
def Gq.most(T:Gq H G ns){l:List Nat}(h:∀d∈l,d<H.doors.length):dF G (l.map λi=>ns.getD i 0)=dF H l:=by
 have a:=T.path l 0 0 h (fN _) (fN _);have b:gQ G (l.map λi=>ns.getD i 0)=gQ H l:=by unfold gQ;rw[List.map_map];congr 1;refine List.map_congr_left λd c=>?_;obtain⟨f,e,_⟩:=T.at_ (h d c);simp only[Function.comp];rw[e,T.door d f]
 unfold dF dr tG;rw[b,T.knock,kV,AV,AV,<-a];rfl
def Il(H:Gd)(ns:List Nat)(s t:Nat):Prop:=(∀i,i<H.doors.length->t.testBit (ns.getD i 0)=s.testBit i)/\∀y∈dK t,y∈ns
def Gq.perm(T:Gq H G ns){s t:Nat}(j:lP H s)(h:Il H ns s t):((dK s).map λi=>ns.getD i 0).Perm (dK t):=by have u:=T.g.many;refine(List.perm_ext_iff_of_nodup ?_ ?_).2 λx=>?_;refine List.pairwise_map.2 (List.Pairwise.imp_of_mem (R:=(·<·)) (λ{a b} o p q e=>?_) (List.pairwise_lt_range.filter _));obtain⟨v,k,_,r⟩:=T.at_ (j.2 a o);obtain⟨l,f,_,w⟩:=T.at_ (j.2 b p);rw[k,f]at e;rw[e]at r;omega;exact(List.pairwise_lt_range.filter _).imp λh=>Nat.ne_of_lt h;rw[jj];constructor;rintro⟨d,m,rfl⟩;have c:=j.2 d m;obtain⟨_,k,y,_⟩:=T.at_ c;exact nK.2 ⟨by rw[k];omega,by rw[h.1 d c];exact(nK.1 m).2⟩;intro n;obtain⟨l,f⟩:=T.back (h.2 x n);have:=T.h.many;refine⟨ns.idxOf x,nK.2 ⟨by omega,?_⟩,f⟩;rw[<-h.1 _ l,f];exact(nK.1 n).2
def Gq.safe(T:Gq H G ns){s t:Nat}(b:lP H s)(h:Il H ns s t):jH G t=jH H s:=by
 have f:=(AU T.h s).1;have j:=(AU T.g t).1;have c:∀d∈cH H s,d<H.doors.length:=λd a=>b.2 d (f.mem_iff.1 a);have l:=OY T.g ((f.map λi=>ns.getD i 0).trans (T.perm b h));rw[T.most c]at l
 have k:((cH G t).map λy=>ns.idxOf y).Perm (dK s):=by
  refine(j.map _).trans (((T.perm b h).symm.map _).trans ?_);rw[List.map_map]
  have:(dK s).map ((λy=>ns.idxOf y)∘λi=>ns.getD i 0)=dK s:=by
   conv=>rhs;rw[<-List.map_id (dK s)]
   refine List.map_congr_left λd a=>?_;obtain⟨_,m,_,n⟩:=T.at_ (b.2 d a);show ns.idxOf (ns.getD d 0)=d;rw[m,n]
  rw[this]
 have o:=OY T.h k
 have e:((cH G t).map λy=>ns.idxOf y).map (λi=>ns.getD i 0)=cH G t:=by
  rw[List.map_map];conv=>rhs;rw[<-List.map_id (cH G t)]
  exact List.map_congr_left λd a=>(T.back (h.2 d (j.mem_iff.1 a))).2
 rw[<-T.most λd a=>b.2 d (k.mem_iff.1 a),e]at o;unfold jH;rw[T.minutes];exact decide_eq_decide.2 (by omega)
theorem Gq.nW(T:Gq H G ns){s t:Nat}(b:lP H s)(u:lP G t)(h:Il H ns s t):(0<=nW G t->0<=nW H s/\Go.Proofs.W.nW H s<=Go.Proofs.W.nW G t)/\(0<=Go.Proofs.W.nW H s->0<=Go.Proofs.W.nW G t/\Go.Proofs.W.nW G t<=Go.Proofs.W.nW H s):=by have z:=T.g.many;have v:=T.h.many;constructor;intro w;obtain⟨n,f⟩:∃n:Nat,Go.Proofs.W.nW G t=n:=⟨(Go.Proofs.W.nW G t).toNat,by omega⟩;obtain⟨c,m,o⟩:=AF T.g u f;rw[f];refine AL T.h b (c:=λi=>c (ns.getD i 0)) ⟨λi a=>m _ ((T.perm b h).mem_iff.1 (jj.2 ⟨i,a,rfl⟩)),λj p=>?_⟩;rw[<-T.safe (wG T.h b _ j) (t:=AE t c j) ⟨λi a=>?_,λy k=>h.2 y ?_⟩];exact o j p;obtain⟨_,d,x,_⟩:=T.at_ a;rw[Bool.eq_iff_iff,u4 (by rw[d];omega),u4 (by omega),h.1 i a];obtain⟨l,q⟩:=nK.1 k;exact nK.2 ⟨l,((u4 l).1 q).1⟩;intro w;obtain⟨n,f⟩:∃n:Nat,Go.Proofs.W.nW H s=n:=⟨(Go.Proofs.W.nW H s).toNat,by omega⟩;obtain⟨c,m,o⟩:=AF T.h b f;rw[f];refine AL T.g u (c:=λy=>c (ns.idxOf y)) ⟨λy k=>?_,λj p=>?_⟩;obtain⟨i,a,e⟩:=jj.1 ((T.perm b h).mem_iff.2 k);obtain⟨_,d,_,r⟩:=T.at_ (b.2 i a);rw[<-e];show c (ns.idxOf (ns.getD i 0))<n;rw[d,r];exact m i a;rw[T.safe (s:=AE s c j) (wG T.h b c j) ⟨λi a=>?_,λy k=>h.2 y ?_⟩];exact o j p;obtain⟨_,d,x,r⟩:=T.at_ a;rw[Bool.eq_iff_iff,u4 (by rw[d];omega),u4 (by omega),h.1 i a,d,r];obtain⟨l,q⟩:=nK.1 k;exact nK.2 ⟨l,((u4 l).1 q).1⟩
def JC(xs:List Sx)(d k:Nat):(leave1 xs d)[k]? =(xs[k]?).map λx=>if d=k then{x with left:=true}else x:=by
 unfold leave1;cases a:xs[d]? with
 |none=>
  simp only;by_cases h:d=k;subst h;rw[a];rfl;simp[h]
 |some x=>
  simp only;by_cases h:d=k;subst h;obtain⟨b,_⟩:=gy.1 a;rw[List.getElem?_set_self b,a];simp;rw[List.getElem?_set_ne h];simp[h]
theorem AM:∀(S:List Nat) (xs:List Sx) (k:Nat),(jb xs S)[k]? =(xs[k]?).map λx=>if k∈S then{x with left:=true}else x
 |[],xs,k=>by simp[jb]
 |d::r,xs,k=>by
  show(jb (leave1 xs d) r)[k]? =_;rw[AM r,JC];cases xs[k]? with
  |none=>rfl
  |some x=>
   simp only[iX];congr 1;by_cases a:k∈r<;>by_cases b:d=k<;>simp[a,b,eQ,eq_comm]
def ws{xs:List Sx}{S:List Nat}{d:Nat}:d∈cW I (jb xs S)↔d∈cW I xs/\d∉S:=by rw[xz,xz,AM];constructor;rintro⟨x,c,a⟩;obtain⟨y,e,rfl⟩:=ij.1 c;by_cases b:d∈S;rw[cx b]at a;simp[gA]at a;rw[cr b]at a;exact⟨⟨y,e,a⟩,b⟩;rintro⟨⟨x,c,a⟩,b⟩;exact⟨x,by rw[c];simp[b],a⟩
def Cg(n:Nat)(p:Nat->Bool):Nat:=dB ((List.range n).filter p)
def Cx{n:Nat}(c:n<=5){p:Nat->Bool}{x:Nat}(a:x<5):(Cg n p).testBit x=(decide (x<n)&&p x):=by rw[Bool.eq_iff_iff];unfold Cg;rw[qx (λd b=>by have:=eJ.1 (ug.1 b).1;omega) a,ug,eJ];simp
def Ci{G:Gd}(a:G.doors.length<=5)(p:Nat->Bool):lP G (Cg G.doors.length p):=lP.dB a λd b=>eJ.1 (ug.1 b).1
section
variable{xs ys:List Sx}{S:List Nat}{f:Nat}
def JE(T:Gq H G ns)(hx:xs.length=G.doors.length)(p:ys.length=H.doors.length)(A:∀i (h:i<ns.length),ys[i]? =xs[ns[i]]?)(hS:∀d,d<G.doors.length->(d∈ns↔d∉S))(hM:0<=I):(∃l m k,gm (iU G (jb xs S) f)=some (l,m,k)/\m<=I)↔∃l m k,gm (iU H ys f)=some (l,m,k)/\m<=I:=by
 have Q:=T.g.many;have o:=T.h.many;have r:(jb xs S).length=G.doors.length:=by rw[pU,hx]
 have aa:=zO T.g
 have b:∀{d:Nat},d∈cW G.tries (jb xs S)->d∈ns/\(jb xs S).getD d oe=xs.getD d oe/\d<G.doors.length:=λ{d} n=>by
  have t:=kh n;rw[r]at t;obtain⟨R,M⟩:=ws.1 n;refine⟨(hS d t).2 M,?_,t⟩;rw[gU,AM,gU];cases xs[d]? with
  |none=>rfl
  |some x=>simp[M]
 have B:∀i,i<H.doors.length->(i∈cW H.tries ys↔ns.getD i 0∈cW G.tries (jb xs S)):=λi e=>by obtain⟨z,C,N,U⟩:=T.at_ e;rw[ws,xz,xz,C,T.tries,A i z];have:=(hS _ N).1 (dt z);simp[this]
 have D:∀i,i<H.doors.length->il H (ys.getD i oe) f=il G (xs.getD (ns.getD i 0) oe) f:=λi e=>by obtain⟨z,C,N,U⟩:=T.at_ e;rw[AC T.days T.tries,C,gU,A i z,<-gU]
 constructor;rintro⟨l,m,k,V,X⟩;obtain⟨E,p1,O,_,p3,L,F,Y,P⟩:=GF T.g r f V;have same:∀s,s<6->Il H ns (Cg H.doors.length λi=>(L s).testBit (ns.getD i 0)) (L s):=λs c=>⟨λi e=>by rw[Cx o (by omega),decide_eq_true e,Bool.true_and],λy p=>by have J:=(P y s c).1 p;rcases O.door y with⟨q,_⟩|⟨_,q⟩;exact(b q).1;rw[q]at J;cases J⟩;have a:∀s,s<6->0<=Go.Proofs.W.nW H (Cg H.doors.length λi=>(L s).testBit (ns.getD i 0))/\Go.Proofs.W.nW H (Cg H.doors.length λi=>(L s).testBit (ns.getD i 0))<=Go.Proofs.W.nW G (L s):=λs c=>(T.nW (Ci o _) (F s c).1 (same s c)).1 (F s c).2;have j:∀i∈cW H.tries ys,i<H.doors.length/\ns.getD i 0∈cW G.tries (jb xs S)/\pt (ns.getD i 0) E∈il G (xs.getD (ns.getD i 0) oe) f:=λi e=>by have u:=kh e;rw[p]at u;have K:=(B i u).1 e;refine⟨u,K,?_⟩;have:=(O.door (ns.getD i 0)).resolve_right λq=>q.1 K;rw[(b K).2.1]at this;exact this.2
 obtain⟨Z,m',k',g1,g2⟩:=u5 (xs:=ys) T.h p f (λi=>pt (ns.getD i 0) E) (λi e=>by rw[D i (j i e).1];exact(j i e).2.2) (L:=λs=>Cg H.doors.length λi=>(L s).testBit (ns.getD i 0)) (λs c=>⟨Ci o _,(a s c).1⟩) λi e s c=>by
  obtain⟨i1,i2,i3⟩:=j i e;have v:s<6:=by have:=((Nb i3).1.free s c).2.2;omega
  have:=nK.1 ((P (ns.getD i 0) s v).2 c);refine nK.2 ⟨by omega,?_⟩;rw[Cx o (by omega),decide_eq_true i1,this.2];rfl
 exact⟨Z,m',k',g1,(g2 I hM λs c=>Int.le_trans (a s c).2 (Int.le_trans (Y s c) X)).1⟩;rintro⟨l,m,k,V,X⟩;obtain⟨E,p1,O,_,p3,L,F,Y,P⟩:=GF T.h p f V;have w:∀s d,d<5->(Cg G.doors.length λd=>decide (d∈ns)&&(L s).testBit (ns.idxOf d)).testBit d=(decide (d<G.doors.length)&&(decide (d∈ns)&&(L s).testBit (ns.idxOf d))):=λs d n=>Cx Q n
 have same:∀s,s<6->Il H ns (L s) (Cg G.doors.length λd=>decide (d∈ns)&&(L s).testBit (ns.idxOf d)):=λs c=>⟨λi e=>by
  obtain⟨z,C,N,U⟩:=T.at_ e;rw[C,w s _ (by omega),decide_eq_true N,decide_eq_true (dt z),U];rfl,λy p=>by
  obtain⟨y1,y2⟩:=nK.1 p;rw[w s y y1,ez,ez,decide_eq_true_iff,decide_eq_true_iff]at y2;exact y2.2.1⟩
 have a:∀s,s<6->0<=Go.Proofs.W.nW G (Cg G.doors.length λd=>decide (d∈ns)&&(L s).testBit (ns.idxOf d))/\Go.Proofs.W.nW G (Cg G.doors.length λd=>decide (d∈ns)&&(L s).testBit (ns.idxOf d))<=Go.Proofs.W.nW H (L s):=λs c=>(T.nW (F s c).1 (Ci Q _) (same s c)).2 (F s c).2;have j:∀d∈cW G.tries (jb xs S),d<G.doors.length/\d∈ns/\pt (ns.idxOf d) E∈il G ((jb xs S).getD d oe) f:=λd n=>by obtain⟨R,M,h3⟩:=b n;obtain⟨b1,b2⟩:=T.back R;have K:=(B _ b1).2 (by rw[b2];exact n);have:=(O.door (ns.idxOf d)).resolve_right λq=>q.1 K;rw[D _ b1,b2]at this;exact⟨h3,R,by rw[M];exact this.2⟩
 obtain⟨Z,m',k',g1,g2⟩:=u5 (xs:=jb xs S) T.g r f (λd=>pt (ns.idxOf d) E) (λd n=>(j d n).2.2) (L:=λs=>Cg G.doors.length λd=>decide (d∈ns)&&(L s).testBit (ns.idxOf d)) (λs c=>⟨Ci Q _,(a s c).1⟩) λd n s c=>by
  obtain⟨i1,i2,i3⟩:=j d n;have v:s<6:=by have:=((Nb i3).1.free s c).2.2;omega
  have:=nK.1 ((P (ns.idxOf d) s v).2 c);refine nK.2 ⟨by omega,?_⟩;rw[w s d (by omega),decide_eq_true i1,decide_eq_true i2,this.2];rfl
 exact⟨Z,m',k',g1,(g2 I hM λs c=>Int.le_trans (a s c).2 (Int.le_trans (Y s c) X)).1⟩
end
def rV(ns:List Nat)(l:List Ty):List Ty:=(l.filter λt=>decide (t.door∈ns)).map λt=>⟨ns.idxOf t.door,t.shift,t.opened⟩
theorem Dc(T:Gq H G ns):∀(l:List Ty) (xs ys c:List Sx) (b k:Int),k<=b->xs.length=G.doors.length->ys.length=H.doors.length->(∀i (h:i<ns.length),ys[i]? =xs[ns[i]]?)->rL G xs b (l.map Pf)=(0,c)->∃d,rL H ys k ((rV ns l).map Pf)=(0,d)/\d.length=H.doors.length/\c.length=G.doors.length/\∀i (h:i<ns.length),d[i]? =c[ns[i]]?
 |[],xs,ys,c,b,k,v,n,o,h,e=>by simp only[qK,rL,Prod.mk.injEq,true_and]at e;subst e;exact⟨ys,rfl,o,n,h⟩
 |t::r,xs,ys,c,b,k,v,n,o,h,e=>by
  simp only[jP,rL]at e;split at e;rename_i q;rw[ez]at q;split at e;simp at e;rename_i z;split at e;simp at e;rename_i w;split at e;simp at e;rename_i x;have A:(Pf t).door.toNat=t.door:=rfl;have J:(Pf t).shift=(t.shift:Int):=rfl;rw[A]at w x e;have K:t.door<G.doors.length:=by have:=q.1;have e:(Pf t).door=(t.door:Int):=rfl;simp[jX,e]at this;omega
  by_cases p:t.door∈ns;have a:rV ns (t::r)=⟨ns.idxOf t.door,t.shift,t.opened⟩::rV ns r:=by simp[rV,List.filter_cons,p]
  obtain⟨B,L⟩:=T.back p;have y:ns.idxOf t.door<ns.length:=by rw[<-T.len];exact B
  have m:ns[ns.idxOf t.door]=t.door:=List.getElem_idxOf y;have C:ys.getD (ns.idxOf t.door) oe=xs.getD t.door oe:=by rw[gU,h _ y,m,<-gU]
  obtain⟨d,D,E⟩:=Dc T r (xs.set t.door (iJ (xs.getD t.door oe) (Pf t).shift.toNat (Pf t).opened)) (ys.set (ns.idxOf t.door) (iJ (xs.getD t.door oe) (Pf t).shift.toNat (Pf t).opened)) c _ _ (Int.le_refl _) (by rw[qJ];exact n) (by rw[qJ];exact o) (λi f=>by by_cases g:ns.idxOf t.door=i;subst g;rw[List.getElem?_set_self (by omega),m,List.getElem?_set_self (by omega)];have j:¬t.door=ns[i]:=λs=>g (by have:=(T.at_ (i:=i) (by rw[T.len];exact f)).2.2.2;rw[<-s]at this;exact this);rw[List.getElem?_set_ne g,List.getElem?_set_ne j];exact h i f) e;refine⟨d,?_,E⟩;rw[a,jP];have F:(Pf ⟨ns.idxOf t.door,t.shift,t.opened⟩).door.toNat=ns.idxOf t.door:=rfl;have u:(jX (Pf ⟨ns.idxOf t.door,t.shift,t.opened⟩).door 0 ((H.doors.length:Int)-1)&&jX (Pf ⟨ns.idxOf t.door,t.shift,t.opened⟩).shift 0 (2*H.days-1))=true:=by rw[ez,T.days];refine⟨?_,q.2⟩;have e:(Pf ⟨ns.idxOf t.door,t.shift,t.opened⟩).door=(ns.idxOf t.door:Nat):=rfl;simp[jX,e];omega
  simp only[rL];rw[cx u,F,C,cr (show¬(Pf ⟨ns.idxOf t.door,t.shift,t.opened⟩).shift<k fromλI=>z (Int.lt_of_lt_of_le I v)),cr (show¬tH (xs.getD t.door oe) ((Pf ⟨ns.idxOf t.door,t.shift,t.opened⟩).shift.toNat/2)=true from w),cr (by rw[T.tries];exact x)];exact D;have a:rV ns (t::r)=rV ns r:=by simp[rV,List.filter_cons,p]
  rw[a];refine Dc T r _ ys c _ k ?_ (by rw[qJ];exact n) o (λi f=>?_) e;omega;have j:¬t.door=ns[i]:=λs=>p (s▸dt f);rw[List.getElem?_set_ne j];exact h i f;simp at e
def Ix(T:Gq H G ns){l:List Ty}{xs:List Sx}(h:gO G (l.map Pf)=(0,xs)):∃ys,gO H ((rV ns l).map Pf)=(0,ys)/\ys.length=H.doors.length/\xs.length=G.doors.length/\∀i (h:i<ns.length),ys[i]? =xs[ns[i]]? :=by refine Dc T l _ _ xs 0 0 (Int.le_refl _) (by simp) (by simp) (λi a=>?_) h;have:=T.lt _ (dt a);rw[List.getElem?_replicate,List.getElem?_replicate,cx this,cx (by rw[T.len];exact a)]
end
def LI:Nat->List Nat->List (List Nat)
 |0,_=>[[]]
 |_+1,[]=>[]
 |k+1,a::l=>(LI k l).map (a::·)++LI (k+1) l
theorem vi(q:Nat->Bool):∀(k:Nat) (l:List Nat),LI k (l.filter q)=(LI k l).filter λx=>x.all q
 |0,l=>by simp only[LI];rfl
 |k+1,[]=>rfl
 |k+1,a::l=>by
  have d:=vi q k l;have c:=vi q (k+1) l;cases b:q a with
  |true=>
   rw[List.filter_cons,cx b];simp only[LI];rw[d,c,List.filter_append,List.filter_map];congr 1;congr 1;refine List.filter_congr λx _=>?_;simp[b]
  |false=>
   rw[List.filter_cons,cr (by simp[b]),c];simp only[LI];rw[List.filter_append,(Rb (l:=(LI k l).map (a::·))).2,sM];intro x e;obtain⟨y,_,rfl⟩:=jj.1 e;simp[b]
def rS(p:List Nat->Bool)(a:List Nat)(b:Bool×Option (List Nat))(x:List Nat):Bool×Option (List Nat):=if b.1 then b else(p (a++x),some (a++x))
theorem Im{p:List Nat->Bool}{a:List Nat}:∀(b:List (List Nat)) (o:Option (List Nat)),b.foldl (rS p a) (false,o)=((b.foldl (rS p a) (false,none)).1,(b.foldl (rS p a) (false,none)).2.or o)
 |[],o=>by simp
 |x::r,o=>by
  rw[mP,mP];have e:∀o,rS p a (false,o) x=(p (a++x),some (a++x)):=λo=>rfl;rw[e,e];cases d:p (a++x)with
  |true=>
   have:∀b:List (List Nat),b.foldl (rS p a) (true,some (a++x))=(true,some (a++x)):=λb=>by
    induction b with
    |nil=>rfl
    |cons y r c=>rw[mP];exact c
   rw[this];rfl
  |false=>
   rw[Im r (some (a++x))];cases(r.foldl (rS p a) (false,none)).2<;>rfl
theorem xy{p:List Nat->Bool}{a:List Nat}{b:Bool×Option (List Nat)}(h:b.1=true):∀c:List (List Nat),c.foldl (rS p a) b=b
 |[]=>rfl
 |y::r=>by rw[mP,show rS p a b y=b from cx h];exact xy h r
theorem Gu{p:List Nat->Bool}{b:List Nat}(a:Nat):∀(d:List (List Nat)) (c:Bool×Option (List Nat)),(d.map (a::·)).foldl (rS p b) c=d.foldl (rS p (b++[a])) c
 |[],_=>rfl
 |x::r,c=>by
  rw[jP,mP,mP];have:rS p b c (a::x)=rS p (b++[a]) c x:=by unfold rS;rw[List.append_assoc];rfl
  rw[this];exact Gu a r _
theorem Dz(p:List Nat->Bool):∀(k:Nat) (l b:List Nat),iC p k l b=(LI k l).foldl (rS p b) (false,none)
 |0,l,b=>by simp[iC,LI,rS]
 |k+1,l,b=>by
  have e:∀(l:List Nat) (c:Bool×Option (List Nat)),(List.range l.length).foldl (λc i=>if c.1 then c else((iC p k (l.drop (i+1)) (b++[l.getD i 0])).1,(iC p k (l.drop (i+1)) (b++[l.getD i 0])).2.or c.2)) c=(LI (k+1) l).foldl (rS p b) c:=λl=>by
   induction l with
   |nil=>exactλc=>rfl
   |cons a r f=>
    intro c;rw[dW,List.range_succ_eq_map,mP,List.foldl_map];simp only[LI,uf];rw[Gu]
    have g:(if c.1=true then c else((iC p k ((a::r).drop (0+1)) (b++[(a::r).getD 0 0])).1,(iC p k ((a::r).drop (0+1)) (b++[(a::r).getD 0 0])).2.or c.2))=(LI k r).foldl (rS p (b++[a])) c:=by
     cases d:c.1 with
     |true=>rw[cx rfl,xy d]
     |false=>
      rw[cr (by simp)];show((iC p k r (b++[a])).1,(iC p k r (b++[a])).2.or c.2)=_;rw[Dz p k r (b++[a])];obtain⟨h,j⟩:=c;have d:h=false:=d;subst d;exact(Im _ _).symm
    rw[g,<-f];rfl
  simp only[iC];exact e l _
theorem DG         {p : List Nat → Bool} : ∀ (ls : List (List Nat)) (st : Bool × Option (List Nat)), st.1 = false → match ls.find? p with
    | some x => ls.foldl (rS    p []) st = (true, some x)
    | none => (ls.foldl (rS    p []) st).1 = false
  | [], st, h => h
  | x :: r, st, h => by
    rw [List.find?_cons, List.foldl_cons]
    have e : rS    p [] st x = (p x, some x) := by unfold rS;    rw [h]; rfl
    rw [e]
    cases hp : p x with
    | true => exact xy         rfl r
    | false => exact DG         r (false, some x) rfl
def sB(l:List Nat)(n:Nat):List (List Nat):=(List.range n).flatMap λk=>LI k l
def nL(l:List Nat)(n:Nat):sB l (n+1)=sB l n++LI n l:=by unfold sB;rw[kA,List.flatMap_append];simp
theorem Ak           (p : List Nat → Bool) (l : List Nat) : ∀ n, match (sB    l n).find? p with
    | some x => jh      p l n = (true, x)
    | none => (jh      p l n).1 = false
  | 0 => rfl
  | n + 1 => by
    have ih := Ak           p l n
    rw [nL,         List.find?_append, uY]
    cases hf : (sB    l n).find? p with
    | some x =>
      rw [hf] at ih
      have ih : jh      p l n = (true, x) := ih
      show (if (jh      p l n).1 = true then _ else _) = (true, x)
      rw [ih]; rfl
    | none =>
      rw [hf] at ih
      have ih : (jh      p l n).1 = false := ih
      rw [ih, if_neg (by simp), Dz]
      have := DG         (p := p) (LI   n l) (false, none) rfl
      simp only [Option.none_or]
      cases hg : (LI   n l).find? p with
      | some x => rw [hg] at this; rw [this]; rfl
      | none => rw [hg] at this; exact this
theorem Ip:∀l:List Nat,LI l.length l=[l]
 |[]=>rfl
 |a::r=>by
  have more:∀(l:List Nat) (k:Nat),l.length<k->LI k l=[]:=λl=>by
   induction l with
   |nil=>
    intro k b;match k,b with
    |k+1,_=>rfl
   |cons a r c=>
    intro k b;match k,b with
    |k+1,b=>
     simp only[dW]at b;simp only[LI];rw[c k (by omega),c (k+1) (by omega)];rfl
  simp only[dW,LI];rw[Ip r,more r _ (Nat.lt_succ_self _)];rfl
theorem vv:∀(l:List Nat) (k:Nat),l.length<k->LI k l=[]
 |[],k+1,_=>rfl
 |a::r,k+1,b=>by simp only[dW]at b;simp only[LI];rw[vv r k (by omega),vv r (k+1) (by omega)];rfl
theorem Am:∀(l:List Nat) (k:Nat),(LI k l).length<=2^l.length
 |l,0=>by simp only[LI,List.length_singleton];exact Nat.one_le_two_pow
 |[],k+1=>by simp[LI]
 |a::r,k+1=>by have b:=Am r k;have c:=Am r (k+1);simp only[LI,fX,kV,dW,Nat.pow_succ];omega
theorem Av:∀{k:Nat} {l t:List Nat},t∈LI k l->t.length=k/\t.Sublist l
 |0,l,t,h=>by obtain rfl:t=[]:=by simpa[LI]using h
              exact⟨rfl,List.nil_sublist _⟩
 |k+1,[],t,h=>by cases h
 |k+1,a::l,t,h=>by simp only[LI,gl,jj]at h;rcases h with⟨y,b,rfl⟩|h;have:=Av b;exact⟨by rw[dW,this.1],this.2.cons_cons a⟩;have:=Av h;exact⟨this.1,this.2.cons a⟩
theorem eW.Th{d:List (List Nat)}(h:eW m w x d)(f:∀b,A b->b<m):∃a c,x=.slice a d.length c/\kZ A w a d/\d.length<=c:=by obtain⟨y,⟨z,⟨i,rfl⟩|⟨b,c,B,C,rfl,j,D,l,E,n,F⟩⟩,G,e⟩:=h;exact⟨none,0,by rw[i],λk g=>by omega,by omega⟩;refine⟨_,c,rfl,λk g=>?_,l⟩;obtain⟨u,o,p⟩:=e k g;obtain⟨q,r,rfl,s,t⟩:=p.Th f;refine⟨b,0,q,r,λv=>by have:=f b v;omega,rfl,?_,s,t⟩;refine ci j ?_;rw[cB,n k (by omega),o]
theorem AO:∀(k s n:Nat) (w:cd),s<=n->n<=5->k<=100->Calls V.prog 124 #[.int .i64 s,.int .i64 n,.int .i64 k] w (fy λv g=>Ext w g/\eW w.heap.size g v (LI k (List.range' s (n-s))))
 |0,s,n,w,_,_,_=>by
  rw[show LI 0 (List.range' s (n-s))=[[]] by simp only[LI]];refine go (V.fn Tryz.func124 (by decide)) Tryz.ntmps124 ?_;refine eh (iR (by simp) (dJ [.slice none 0 0] 27 λw1 Y e1 y l=>⟨_,rfl,e1,[.slice none 0 0],⟨rfl,.inr ⟨Y,1,_,y,rfl,l,rfl,cz _,by decide,λj _=>by simp,λj hj L=>by simp at hj L;omega⟩⟩,rfl,λk H=>?_⟩));obtain rfl:k=0:=by simpa using H
  exact⟨_,rfl,cA.nil _ _ _ _⟩
 |m+1,s,n,w,hs,hn,hm=>by
  refine go (V.fn Tryz.func124 (by decide)) Tryz.ntmps124 ?_;refine eh (iG (jT (by omega)) ?_);have Z:(LI (m+1) (List.range' s (n-s))).length<=32:=by refine cJ (Am _ _) ?_;rw[List.length_range'];exact cJ (Nat.pow_le_pow_right (by decide) (show n-s<=5 by omega)) (by decide)
  refine dZ (n-s) (λi (x:ce×List (List Nat))=>[(1,.int .i64 n),(2,.int .i64 ((m+1:Nat):Int)),(7,x.1),(8,.int .i64 ((s+i:Nat):Int))]) (λi x g=>Ext w g/\eW w.heap.size g x.1 x.2/\x.2++LI (m+1) (List.range' (s+i) (n-(s+i)))=LI (m+1) (List.range' s (n-s))) (.slice none 0 0,[]) ⟨⟨rfl,rfl,rfl,rfl,trivial⟩,Ext.refl _,⟨[],cA.nil _ _ _ _,rfl,λk H=>by simp at H⟩,by simp⟩ ?_;rintro i ⟨v,I⟩ w2 hi ⟨e2,J,p⟩;simp only at J p;refine cq (sW ⟨λM=>?_,λN=>?_⟩);have aa:s+i+(m+1)<=n:=by have:=cY M;omega
  have C:List.range' (s+i) (n-(s+i))=(s+i)::List.range' (s+i+1) (n-(s+i+1)):=by rw[show n-(s+i)=(n-(s+i+1))+1 by omega,Rc]
  obtain⟨T,O⟩:∃T,T=LI m (List.range' (s+i+1) (n-(s+i+1))):=⟨_,rfl⟩;have d:I++T.map ((s+i)::·)++LI (m+1) (List.range' (s+(i+1)) (n-(s+(i+1))))=LI (m+1) (List.range' s (n-s)):=by rw[<-p,C,O];simp only[LI];rw[List.append_assoc];rfl
  have ad:I.length+T.length<=32:=by have:=cM List.length d;simp only[fX,kV]at this;omega
  have t:=AO m (s+i+1) n w2 (by omega) hn (by omega);rw[<-O]at t;refine cq (fx ?_);rw[show((((m+1:Nat):Int))-1)=(m:Int) by omega,show(((s+i:Nat):Int)+1)=((s+i+1:Nat):Int) by omega];refine ck t ?_;rintro _ w3 ⟨e3,hu⟩;obtain⟨a5,c5,rfl,P,ae⟩:=hu.Th (A:=cw v) λb l=>(J.blk l).2;have Q:=e2.trans e3;refine dZ T.length (λk (z:ce)=>[(1,.int .i64 n),(2,.int .i64 ((m+1:Nat):Int)),(7,z),(8,.int .i64 ((s+i:Nat):Int)),(9,.slice a5 T.length c5),(10,.int .i64 k)]) (λk z g=>Ext w g/\eW w.heap.size g z (I++(T.take k).map ((s+i)::·))/\kZ (cw z) g a5 T) v ⟨⟨rfl,rfl,rfl,rfl,rfl,rfl,trivial⟩,Q,by simpa using J.ext e3,P⟩ ?_;rintro k z w4 H ⟨K,q,D⟩;refine cD (cV ⟨λE=>?_,λF=>?_⟩);have e:k<T.length:=by simpa using E
  obtain⟨b5,o5,a7,c,_,R,G,S,af⟩:=D k e;subst R;have ag:=(Av (by rw[<-O];exact dt e)).1;refine dJ [.int .i64 ((s+i:Nat):Int)] 3 λw5 Y U y l=>dI k e (cu (U.cell G) (AB (n0:=w.heap.size) l rfl (cJ K.size y) rfl (S.n.ext U) (by omega) λu w6 r e6=>?_));have r:dE w.heap.size w6 u ((s+i)::T[k]):=by have h:=r;rw[Nat.add_comm]at h;exact h
  obtain⟨a8,a,rfl,_,_⟩:=r.row;have f:=U.trans e6;refine dJ [.slice a8 ((s+i)::T[k]).length a] 27 λw7 ah B ab W=>Lo ((q.ext f).ext B) ((K.trans f).trans B).size (cA.ext r B) W (by simp;omega) λv8 w8 g1 g2 g3=>cq ⟨e,v8,⟨rfl,rfl,rfl,rfl,rfl,rfl,trivial⟩,((K.trans f).trans B).qu g2 λb l=>(q.blk l).1,?_,?_⟩;rw[List.append_assoc]at g1;rw[gP e,nQ];exact g1;refine D.go (λb l=>?_) λb o v9 hA X=>?_;rcases g3 b l with h|h;exact .inl h;exact .inr (cJ (f.trans B).size h);exact g2.ef ((f.trans B).cell X) hA;obtain rfl:k=T.length:=by simp at F;omega
  rw[kX]at q;exact cq ⟨by omega,(z,I++T.map ((s+i)::·)),⟨rfl,rfl,rfl,rfl,trivial⟩,K,q,d⟩;have ac:n<s+i+(m+1):=by have:=dQ N;omega
  rw[vv _ _ (by rw[List.length_range'];omega),List.append_nil]at p;rw[<-p];exact⟨v,rfl,e2,J⟩
def GP(t:cg)(b n:Nat)(c:List ce)(w:cd):Prop:=∃a,w.heap[b]? =some (.cells a t)/\a.size=n/\∀(j:Nat) u,c[j]? =some u->a[j]? =some u
def GP.keep(h:GP T m k M w)(a:cN A w t)(b:¬A m):GP T m k M t:=by obtain⟨c,d,e⟩:=h;exact⟨c,a.fg d b,e⟩
def GC(e:Nat)(t:cg)(z:Nat)(w:cd)(v:ce)(a:Nat)(d:List ce):Prop:=d.length=a*z/\((a=0/\v=.slice none 0 0)\/∃b c,e<=b/\v=.slice (some ⟨b,0,none⟩) a c/\a<=c/\GP t b (c*z) d w)
def GC.nil(a:Nat)(t:cg)(z:Nat)(w:cd):GC a t z w (.slice none 0 0) 0 []:=⟨by simp,.inl ⟨rfl,rfl⟩⟩
def GC.cells{f:Nat}{t:cg}{z:Nat}{w:cd}{v:ce}{d:Nat}{e:List ce}(h:GC f t z w v d e):∃a c,v=.slice a d c/\d<=c/\∀j,j<e.length->∃b,a=some ⟨b,0,none⟩/\f<=b/\∀(j:Nat) u,e[j]? =some u->w.cell? ⟨b,j,none⟩=some u:=by obtain⟨o,⟨rfl,rfl⟩|⟨b,c,g,rfl,i,p,k,q,l⟩⟩:=h;exact⟨none,0,rfl,cz _,λj m=>by omega⟩;exact⟨_,c,rfl,i,λj m=>⟨b,rfl,g,λj u n=>ci k (l j u n)⟩⟩
def GC.blk(h:GC m T k w x i M)(a:cw x j):m<=j/\∃b,w.heap[j]? =some (.cells b T):=by obtain⟨_,_,a⟩:=a;obtain⟨f,⟨_,rfl⟩|⟨g,c,d,rfl,l,b,e,_⟩⟩:=h;cases a;injection a with a;have:=cM Addr.block (cE a);simp only at this;subst this;exact⟨d,b,e⟩
def Iy(g:Nat)(t:cg)(d:List ce)(v:ce)(a:Nat)(e:List ce)(f:ce)(w:cd):Prop:=
 (∃b c,v=.slice (some ⟨b,0,none⟩) a c/\f=.slice (some ⟨b,0,none⟩) (a+1) c/\a+1<=c/\GP t b (c*d.length) e w)\/cA g t d w f (a+1) e
def Iy.gc{a:List ce}(h:Iy k T M x i a y w)(n:GC m T M.length t x i Y)(o:m<=k)(f:a.length=(i+1)*M.length):GC m T M.length w y (i+1) a:=by rcases h with⟨b,c,rfl,rfl,d,e⟩|⟨_,⟨g,_⟩|⟨b,c,p,g,rfl,d,e,q,s,r,v⟩⟩;exact⟨f,.inr ⟨b,c,(n.blk ⟨_,_,rfl⟩).1,rfl,d,e⟩⟩;omega;refine⟨f,.inr ⟨b,c,cJ o g,rfl,q,p,d,e,λj u l=>?_⟩⟩;rw[r j (gy.1 l).1];exact l
def JA{e:cg}{cb:Array Bool}(hT:FD T e M){ae:ce->cd->Prop}(h:GC m e M.length w x k Y){c:List ce}{a:cg}(v:w.heap[i]? =some (.cells c.toArray a))(af:k+1<=1000000)
 (S:∀Q y,Iy w.heap.size e M x k (Y++c) Q y->cN (cw x) w y->(∀b n d A,A≠e\/d=Y\/d=Y++c->GP A b n d w->GP A b n d y)->ae Q y)(hl:Nat.beq c.length M.length=true:=by rfl)(h1:qC c=true:=by rfl):wY V.prog (builtin .append #[T,T] U cb #[x,.slice (some ⟨i,0,none⟩) 1 j]) w ae:=by
 have p:c.length=1*M.length:=by rw[Nat.one_mul];exact gE hl
 obtain⟨B,⟨rfl,rfl⟩|⟨b,l,g1,rfl,g2,W,C,g4,g5⟩⟩:=h;obtain rfl:Y=[]:=l9 (by simpa using B);refine fP hT (cA.nil w.heap.size e M w) (cz _) v (by omega) (λQ y q1 q2 q3=>?_) hl h1;have ext:Ext w y:=q2.ext λb _ v=>by obtain⟨_,_,v⟩:=v;cases v
 exact S Q y (.inr q1) q2 λb n d A _ D=>D.keep (ext.keep λ_=>False) id;obtain⟨hu,ag,z,h2,h3,h4,I,h6,h7⟩:=hT;have J:W.size=l*M.length:=g4;by_cases o:k+1<=l;have t:k*M.length+c.length<=W.size:=by rw[J,p,<-Nat.add_mul];exact oq _ o
 have R:=run_append_room_cells (P:=V.prog) w T U e ag hu h2 b 0 k l ⟨i,0,none⟩ 1 j c (by rw[I];exact p) (λg u f=>by
  rw[fL,cB];exact ci v (by simpa using f)) (fU h1) o (λg f=>by
  simp only[World.cell?,C,cB,I];rw[ji (by omega)];rfl) (λg f=>by simp[World.frozen?,C])
 rw[I,cB]at R;have K:=rB c w b (k*M.length) W e (0,0) C;have X:∀d,d=Y\/d=Y++c->∀n,GP e b n d w->GP e b n d (w.setCells b (k*M.length) c):=by rintro d E n ⟨F,q,Z,k3⟩;rw[C]at q;injection q with q;injection q with q;subst q;refine⟨_,K,by rw[n8];exact Z,λg u f=>?_⟩;rw[nB _ _ _ _ t];split;rename_i L;rcases E with rfl|rfl;have:=(gy.1 f).1;omega;rw[mQ (by omega),B]at f;exact f;exact k3 g u f
 refine⟨_,w.setCells b (k*M.length) c,?_,S _ _ (.inl ⟨b,l,rfl,rfl,o,?_⟩) ?_ ?_⟩;unfold builtin;simp only[Sem.run_bind,R,Result.andThen_ok,Sem.run_pure];refine⟨_,K,by rw[n8];exact J,λg u f=>?_⟩;rw[nB _ _ _ _ t];split;rename_i L;rw[mQ (by omega),B]at f;exact f;rename_i L;rcases eA g Y.length with aa|N;rw[kz aa]at f;exact g5 g u f;have:=(gy.1 f).1;rw[fX]at this;omega;exact(oF _ _ _ _ _ (cN.refl _ w)).trans (cN.refl (λ_=>False) _) (λah _ hx=>by subst hx;exact⟨_,_,rfl⟩) λ_ _ h=>h.elim;intro b' n d A ab D;by_cases O:b'=b;subst O;rcases ab with G|E;obtain⟨F,q,_⟩:=D;exact(eX q C G).elim;obtain⟨F,q,Z,k3⟩:=D;have ht:A=e:=Decidable.byContradiction λG=>eX q C G;rw[ht]at q⊢;exact X d E n ⟨F,q,Z,k3⟩;exact D.keep (oF _ _ _ _ _ (cN.refl _ w)) O;have H:∀g u,Y[g]? =some u->w.cell? (Addr.add ⟨b,0,none⟩ g)=some u:=λg u f=>by rw[fL,cB];exact ci C (g5 g u f)
 have R:=run_append_grow (P:=V.prog) w T U e ag z hu h2 h3 ⟨b,0,none⟩ k l Y (by rw[I];exact B) H ⟨i,0,none⟩ 1 j c (by rw[I];exact p) (λg u f=>by rw[fL,cB];exact ci v (by simpa using f)) (by omega) (by omega) (growslice_fits (by omega) (cJ (Nat.mul_le_mul (show k+1<=1000000 by omega) h6) (by decide)));have N:=grownCap_ge w (k+1) l e;have s:z.cells.size=M.length:=by rw[h4];simp
 have ext:Ext w (w.drew.alloc (.cells (Y.toArray++c.toArray++Builtin.zeroCells z.cells (grownCap w (k+1) l e-(k+1))) e)):=(Ext.drew w).trans (Ext.alloc _ _);refine⟨_,_,?_,S (.slice (some ⟨w.heap.size,0,none⟩) (k+1) (grownCap w (k+1) l e)) (w.drew.alloc (.cells (Y.toArray++c.toArray++Builtin.zeroCells z.cells (grownCap w (k+1) l e-(k+1))) e)) (.inr ⟨by rw[fX,B,p];exact(Nat.add_mul _ _ _).symm,.inr ⟨w.heap.size,grownCap w (k+1) l e,_,cz _,rfl,eU w.drew _,?_,N,?_,λg f=>?_,λg f ac=>?_⟩⟩) (ext.keep _) λb' n d A _ D=>D.keep (ext.keep λ_=>False) id⟩;unfold builtin;simp only[Sem.run_bind,R,Result.andThen_ok,Sem.run_pure];simp only[wL,iP,size_zeroCells,s];have e1:k*M.length+1*M.length=(k+1)*M.length:=(Nat.add_mul _ _ _).symm;have e2:(k+1)*M.length+(grownCap w (k+1) l e-(k+1))*M.length=(k+1+(grownCap w (k+1) l e-(k+1)))*M.length:=(Nat.add_mul _ _ _).symm;rw[B,p,e1,e2,show k+1+(grownCap w (k+1) l e-(k+1))=grownCap w (k+1) l e by omega];have:=grownCap_le_maxLen w (k+1) l e (by simp only[maxLen];omega);simp only[maxLen]at this;omega;rw[vG (by simpa using f)];simp;have ad:(Y++c).length=(k+1)*M.length:=by rw[fX,B,p];exact(Nat.add_mul _ _ _).symm
 have r:(Y.toArray++c.toArray).size=(k+1)*M.length:=by rw[<-ad];simp
 rw[wL,r,size_zeroCells,s]at ac;rw[yr (by rw[r];omega),r,oD _ _ _ (by omega) (by rw[s];omega),s,h4];have e3:(g-(k+1)*M.length)%M.length=g%M.length:=by
  have:g=(g-(k+1)*M.length)+(k+1)*M.length:=by omega
  rw[this,Nat.add_mul_mod_self_right,Nat.add_sub_cancel]
 rw[e3];simp
structure O4(F:Nat->Prop)(t1 t2:cg)(ON LU OO LV:List ce)(a b:cd):Prop where
 k:cN F a b
 p:∀x n us,us=ON\/us=LU->GP t1 x n us a->GP t1 x n us b
 q:∀x n us,us=OO\/us=LV->GP t2 x n us a->GP t2 x n us b
def LM(F:Nat->Prop)(m o:cg)(j f l g:List ce):fw (O4 F m o j f l g):=
 ⟨λw=>⟨cN.refl _ w,λ_ _ _ _ h=>h,λ_ _ _ _ h=>h⟩,λa b c h k=>⟨h.k.trans k.k (λ_ _ h=>h) λ_ _ h=>h,λx n d i e=>k.p x n d i (h.p x n d i e),λx n d i e=>k.q x n d i (h.q x n d i e)⟩,λw=>⟨(Ext.drew w).keep _,λx n d _ e=>e.keep ((Ext.drew w).keep λ_=>False) id,λx n d _ e=>e.keep ((Ext.drew w).keep λ_=>False) id⟩⟩
def Ext.ec(h:Ext w t)(F:Nat->Prop)(f g:cg)(c a d b:List ce):O4 F f g c a d b w t:=⟨h.keep _,λx n i _ e=>e.keep (h.keep λ_=>False) id,λx n i _ e=>e.keep (h.keep λ_=>False) id⟩
def O4.more{b a:List ce}(h:O4 A T U M Y b a w t)(c:∀x,A x->B x):O4 B T U M Y b a w t:=⟨h.k.trans (cN.refl (λ_=>False) t) (λx _ h=>c x h) λ_ _ h=>h.elim,h.p,h.q⟩
def GC.to(h:GC m T k w x i M)(e:∀a n,GP T a n M w->GP T a n M t):GC m T k t x i M:=by obtain⟨d,h|⟨b,c,f,g,j,l⟩⟩:=h;exact⟨d,.inl h⟩;exact⟨d,.inr ⟨b,c,f,g,j,e _ _ l⟩⟩
def Iy.to(h:Iy m T M x k Y y w)(d:∀a n,GP T a n Y w->GP T a n Y t)(e:cN A w t)(f:∀b,A b->b<m):Iy m T M x k Y y t:=by rcases h with⟨b,c,g,i,j,l⟩|h;exact .inl ⟨b,c,g,i,j,d _ _ l⟩;exact .inr (h.keep e λb o p=>by have:=(h.blk o).1;have:=f b p;omega)
theorem Iy.low(h:Iy m T M x i Y y w)(a:k<=m):Iy k T M x i Y y w:=by rcases h with h|h;exact .inl h;exact .inr (h.low a)
def DI(r:eO w a l)(p:l.length<=100000)(d:Nat):Calls V.prog 54 #[.slice a l.length m,.int .i64 d] w (fy λv i=>v=.int .i64 (if d∈l then(l.idxOf d:Int)else-1)/\i=w):=by
 refine go (V.fn Tryz.func54 (by decide)) Tryz.ntmps54 ?_;refine dZ l.length (λk (_:Unit)=>[(0,.slice a l.length m),(1,.int .i64 d),(5,.int .i64 k)]) (λk _ i=>i=w/\d∉l.take k) () ⟨⟨rfl,rfl,rfl,trivial⟩,rfl,by simp⟩ ?_;rintro k _ t u ⟨rfl,f⟩;refine cD (cV ⟨λj=>?_,λn=>?_⟩);have c:k<l.length:=by simpa using j
 obtain⟨b,o,rfl,s⟩:=r k c;refine dI k c (cu s (eh ⟨λg=>?_,λg=>?_⟩));have g:l[k]=d:=Int.ofNat.inj (cY g);refine⟨_,rfl,?_,rfl⟩;rw[cx (by rw[<-g];exact dt c)];have:l.idxOf d=k:=by
  have q:l=l.take k++l[k]::l.drop (k+1):=by simp
  rw[g]at q;rw[q,List.idxOf_append,cr f,List.idxOf_cons_self,yy];omega
 rw[this];rfl;have g:¬l[k]=d:=λe=>dQ g (cM Int.ofNat e);refine cq ⟨c,(),⟨rfl,rfl,rfl,trivial⟩,rfl,?_⟩;rw[gP c,gl,fD];rintro(h|h);exact f h;exact g h.symm;obtain rfl:k=l.length:=by simp at n;omega
 rw[kX]at f;exact⟨_,rfl,by rw[cr f];rfl,rfl⟩
def gD.cellsOf{l:List Dr}(h:gD w a l)(d:k<l.length):∃b o,a=some ⟨b,o,none⟩/\∀j v,(dL l[k])[j]? =some v->w.cell? ⟨b,o+k*3+j,none⟩=some v:=by
 obtain⟨b,o,e,f,g,i⟩:=h k d;refine⟨b,o,e,λj v c=>?_⟩;match j,c with
 |0,c=>rw[<-cE c];exact f
 |1,c=>rw[<-cE c];exact g
 |2,c=>rw[<-cE c];exact i
 |j+3,c=>cases c
def dE.rowOf(h:dE m w (.slice a k i) l):eO w a l:=by obtain⟨d,f,e,b,g⟩:=h.row;injection e with c;rw[c];exact b
def LN(G:Gd)(a:List Dr):Gd:=⟨G.streets,G.corner,G.knock,G.minutes,G.days,G.tries,a⟩
def th(S:List Nat)(k:Nat):List Nat:=(List.range k).filter λi=>decide (i∉S)
def Iq(S:List Nat)(k:Nat):th S (k+1)=if k∈S then th S k else th S k++[k]:=by simp only[th,kA,List.filter_append,List.filter_cons,List.filter_nil];by_cases h:k∈S<;>simp[h]
def Cv(S:List Nat)(k:Nat):(th S k).length<=k:=by have:=List.length_filter_le (λi=>decide (i∉S)) (List.range k);rw[List.length_range]at this;exact this
def Az:i∈th l k↔i<k/\i∉l:=by simp[th,ug,eJ]
def LO:Dr:=⟨0,0,0⟩
def vD(G:Gd)(S:List Nat)(k:Nat):List Dr:=(th S k).map λi=>G.doors.getD i LO
def sD(G:Gd)(S:List Nat):Gd:=LN G (vD G S G.doors.length)
def GC.low(h:GC m T i w x j M)(d:k<=m):GC k T i w x j M:=by obtain⟨a,h|⟨b,c,e,f⟩⟩:=h;exact⟨a,.inl h⟩;exact⟨a,.inr ⟨b,c,cJ d e,f⟩⟩
def JB{c:List Dr}(h:GC m 81 3 w (.slice a k i) c.length (c.flatMap dL)):gD w a c:=λf g=>by obtain⟨q,r,e,s,j⟩:=h.cells;injection e with l;subst l;have t:=zA c;obtain⟨b,rfl,_,d⟩:=j (f*3) (by omega);obtain⟨n,o,p⟩:=uI c f g;exact⟨b,0,rfl,by rw[cB];exact d _ _ n,by rw[cB];exact d _ _ o,by rw[cB];exact d _ _ p⟩
def LD(h:GC m 3 1 w x l.length (fi l)):∃a c,x=.slice a l.length c/\eO w a l:=by obtain⟨a,c,e,i,f⟩:=h.cells;refine⟨a,c,e,λk d=>?_⟩;obtain⟨b,rfl,_,g⟩:=f k (by simpa[fi]using d);exact⟨b,0,rfl,by rw[cB];exact g _ _ (by simp[fi,ew d])⟩
def DM{dc:Nat}{G:List Ty}{la:Option Addr}{lc:Nat}{sa:Option Addr}{sc:Nat}(hd:gD w a H.doors)(h5:H.doors.length<=5)(hr:wE w la G)(hl:G.length<=1000)(hS:eO w sa l)(aS:l.length<=1000):
 Calls V.prog 57 #[gV H a dc,.slice la G.length lc,.slice sa l.length sc] w (fy λv w'=>Ext w w'/\∃Q R ka kc,v=.tuple #[gV (sD H l) Q R,.slice ka (rV (th l H.doors.length) G).length kc]/\GC w.heap.size 81 3 w' (.slice Q (sD H l).doors.length R) (sD H l).doors.length ((sD H l).doors.flatMap dL)/\sK w.heap.size w' (.slice ka (rV (th l H.doors.length) G).length kc) (rV (th l H.doors.length) G)):=by
 refine go (V.fn Tryz.func57 (by decide)) Tryz.ntmps57 ?_;refine fo λw1 gb e1 aT aj=>eF λw2 rb e2 aB ap=>?_;refine di (e2.at_ aj) (eF λw3 S e3 aU aC=>cZ aC λw4 k4 ak=>?_);replace ak:w4.heap[S]? =some (.cells (gL H a dc).toArray 24):=ak.trans (cM (λZ=>some (Obj.cells Z 24)) (dV (sH 24).toArray (gL H a dc) rfl));refine cZ ak λw5 k5 ah=>?_;replace ah:w5.heap[S]? =some (.cells (gL (LN H (vD H l 0)) none 0).toArray 24):=ah;have aV:=cF.lt_of_heap ap;have aW:=cF.lt_of_heap aj;have aq:=e2.trans e3;have g5:w5.heap[gb]? =some (.cells (gL H a dc).toArray 24):=k5.fg (k4.fg (aq.at_ aj) (by omega)) (by omega);have r5:w5.heap[rb]? =some (.cells (sH 24).toArray 24):=k5.fg (k4.fg (e3.at_ ap) (by omega)) (by omega);have E5:Ext w w5:=Ext.cy (Ext.cy (e1.trans aq) k4 (by have:=e1.size;have:=e2.size;omega)) k5 (by have:=e1.size;have:=e2.size;omega);have aX:=cF.lt_of_heap ah;have aD:gb≠S:=by have:=e2.size;omega
 have aE:rb≠S:=by omega
 obtain⟨m,hm⟩:∃m,m=w5.heap.size:=⟨_,rfl⟩;refine dZ H.doors.length (λk (x:Option Addr×Nat×ce)=>[(1,.slice la G.length lc),(2,.slice sa l.length sc),(3,cK gb),(6,cK rb),(8,cK S),(9,x.2.2),(10,.int .i64 k)]) (λk x w'=>cN (λy=>y=S) w5 w'/\w'.heap[S]? =some (.cells (gL (LN H (vD H l k)) x.1 x.2.1).toArray 24)/\GC m 81 3 w' (.slice x.1 (vD H l k).length x.2.1) (vD H l k).length ((vD H l k).flatMap dL)/\GC m 3 1 w' x.2.2 (th l k).length (fi (th l k))) (none,0,.slice none 0 0) ⟨⟨rfl,rfl,rfl,rfl,rfl,rfl,rfl,trivial⟩,cN.refl _ _,ah,GC.nil _ _ _ _,GC.nil _ _ _ _⟩ ?_;rintro k ⟨Q,R,c⟩ J hk ⟨k6,ab,T,ac⟩;simp only at ab T ac;have g6:=k6.fg g5 aD;have E6:Ext w J:=Ext.cy E5 k6 (by have:=e1.size;have:=e2.size;omega);refine cu (ci g6 rfl) (cD (cV ⟨λal=>?_,λam=>?_⟩));have ae:k<H.doors.length:=by simpa using al
 refine cS (DI (hS.ext E6) (by omega) k) (cV ⟨λB=>?_,λB=>?_⟩);have U:k∉l:=by intro W;rw[cx W]at B;have:=cY B;omega
 have K:th l (k+1)=th l k++[k]:=by rw[Iq,cr U]
 have X:vD H l (k+1)=vD H l k++[H.doors[k]]:=by unfold vD;rw[K,nQ,List.map_singleton,getD_eq ae]
 obtain⟨d,ar⟩:∃d,d=H.doors[k]:=⟨_,rfl⟩;rw[<-ar]at X;have au:=Cv l k;have aY:(vD H l k).length=(th l k).length:=by simp[vD]
 obtain⟨b,o,rfl,A⟩:=hd.cellsOf ae;rw[<-ar]at A;have aZ:b<w.heap.size:=nF (A 0 _ rfl);obtain⟨aa,af⟩:∃Y,Y=(vD H l k).flatMap dL++dL d:=⟨_,rfl⟩;obtain⟨I,ai⟩:∃Y,Y=fi (th l k)++[Value.int .i64 k]:=⟨_,rfl⟩;obtain⟨F,hF⟩:∃F:Nat->Prop,∀x,F x↔(cw (.slice Q (vD H l k).length R) x\/cw c x):=⟨_,λ_=>l8⟩;have Fm:∀x,F x->m<=x/\x<J.heap.size:=λx D=>by rcases(hF x).1 D with h|h;obtain⟨B,cs,h2⟩:=T.blk h;exact⟨B,cF.lt_of_heap h2⟩;obtain⟨B,cs,h2⟩:=ac.blk h;exact⟨B,cF.lt_of_heap h2⟩
 have a0:=k6.size;have a1:=E5.size;have F':∀x,(F x\/x=S)->x=S\/(m<=x/\x<J.heap.size):=λx h=>h.elim (λh=>.inr (Fm x h)) .inl;have hE:=LM F 81 3 ((vD H l k).flatMap dL) aa (fi (th l k)) I;have aF:=LM (λx=>F x\/x=S) 81 3 ((vD H l k).flatMap dL) aa (fi (th l k)) I;have a2:w.heap.size<=S:=by have:=e1.size;have:=e2.size;omega
 refine fV 14 hE aF (λZ b h=>h.more λ_ h=>.inl h) ?_;refine .C3 rfl (.slice Q (vD H l k).length R) (λC s=>cu (ci (s.k.fg ab λh=>by have:=Fm _ h;omega) rfl) ⟨rfl,hE.refl _⟩) ?_;refine .exact (.slice (some ⟨b,o,none⟩) H.doors.length dc) (λC s=>cu (ci (s.k.fg g6 λh=>by have:=F' _ h;omega) rfl) ⟨rfl,hE.refl _⟩) ?_;refine .exact (.pointer (some ⟨b,o+k*3,none⟩)) (λC s=>fF k 3 ae ⟨rfl,hE.refl _⟩) ?_;refine .exact (.agg (dL d).toArray) (λC s=>dP (vs:=dL d) (λj v hj=>s.k.ef (E6.cell (A j v hj)) λh=>by have:=F' _ h;simp only at this;omega) ⟨rfl,hE.refl _⟩) ?_;refine .early rfl (λv C=>∃r,v=.slice (some ⟨r,0,none⟩) 1 1/\J.heap.size<=r/\C.heap[r]? =some (.cells (dL d).toArray 81)) (λv Z b ⟨r,B,h2,h3⟩ e=>⟨r,B,h2,e.k.fg h3 λh=>by have:=Fm _ h;omega⟩) (λC s=>dJ (dL d) 81 λz r N ad L=>⟨⟨r,rfl,cJ s.k.size ad,L⟩,N.ec _ _ _ _ _ _ _⟩) ?_;refine .early rfl (Iy J.heap.size 81 [.int .i64 0,.int .i64 0,.int .i64 0] (.slice Q (vD H l k).length R) (vD H l k).length aa) (λv Z b h e=>h.to (λx n=>e.p x n _ (.inr rfl)) e.k λx D=>(Fm x D).2) (λC s v7 h7=>?_) ?_;obtain⟨r,rfl,ad,ag⟩:∃r,v7=.slice (some ⟨r,0,none⟩) 1 1/\J.heap.size<=r/\C.heap[r]? =some (.cells (dL d).toArray 81):=h7;exact JA Tb (T.to λx n=>s.p x n _ (.inl rfl)) ag (by omega) λv' z q1 q2 q3=>⟨by rw[af];exact q1.low s.k.size,q2.trans (cN.refl (λ_=>False) _) (λx _ D=>(hF x).2 (.inl D)) λ_ _ h=>h.elim,λx n Y h=>q3 x n Y 81 (.inr (by rw[<-af];exact h)),λx n Y h=>q3 x n Y 3 (.inl (by decide))⟩;refine .rel (λv C=>∃r,v=.slice (some ⟨r,0,none⟩) 1 1/\J.heap.size<=r/\C.heap[r]? =some (.cells [Value.int .i64 k].toArray 3)) (λv Z b ⟨r,B,h2,h3⟩ e=>⟨r,B,h2,e.k.fg h3 λh=>by have:=F' _ h;omega⟩) (λC s=>dJ [Value.int .i64 k] 3 λz r N ad L=>⟨⟨r,rfl,cJ s.k.size ad,L⟩,N.ec _ _ _ _ _ _ _⟩) ?_;refine .rel (Iy J.heap.size 3 [.int .i64 0] c (th l k).length I) (λv Z b h e=>h.to (λx n=>e.q x n _ (.inr rfl)) e.k λx D=>(F' x D).elim (λh=>by omega) λh=>h.2) (λC s=>?_) ?_;intro av _ v7 h7;obtain⟨r,rfl,ad,ag⟩:∃r,v7=.slice (some ⟨r,0,none⟩) 1 1/\J.heap.size<=r/\C.heap[r]? =some (.cells [Value.int .i64 k].toArray 3):=h7;exact JA oG (ac.to λx n=>s.q x n _ (.inl rfl)) ag (by omega) λv' z q1 q2 q3=>⟨by rw[ai];exact q1.low s.k.size,q2.trans (cN.refl (λ_=>False) _) (λx _ D=>(hF x).2 (.inr D)) λ_ _ h=>h.elim,λx n Y h=>q3 x n Y 81 (.inl (by decide)),λx n Y h=>q3 x n Y 3 (.inr (by rw[<-ai];exact h))⟩;refine .xd (λ_ C=>∃a' c',C.heap[S]? =some (.cells (gL (LN H (vD H l (k+1))) a' c').toArray 24)/\GC m 81 3 C (.slice a' (vD H l (k+1)).length c') (vD H l (k+1)).length ((vD H l (k+1)).flatMap dL)) (λ_ Z b ⟨a',c',B,h2⟩ e=>⟨a',c',e.k.fg B λh=>by have:=Fm _ h;omega,h2.to λx n=>e.p x n _ (.inr (by rw[X,List.flatMap_append,af];simp))⟩) (λC s=>?_) ?_
 ·intro av an;repeat intro _
  have an:Iy J.heap.size 81 [.int .i64 0,.int .i64 0,.int .i64 0] (.slice Q (vD H l k).length R) (vD H l k).length aa av C:=an;have hg:=an.gc T (by omega) (by rw[af,fX,zA];simp[dL];omega);obtain⟨a',c',rfl,_⟩:=hg.cells;refine cZ (s.k.fg ab λh=>by have:=Fm _ h;omega) λz k8 L=>?_;have aw:(vD H l (k+1)).length=(vD H l k).length+1:=by rw[X];simp
  have aG:=s.k.fg ab λh=>by have:=Fm _ h;omega
  have ao:∀{x n:Nat} {Y:List ce} {t:cg},t≠24->GP t x n Y C->x≠S:=λht ⟨cs,B,_⟩ D=>by subst D;exact eX B aG ht
  refine⟨⟨a',c',?_,?_⟩,k8.trans (cN.refl (λ_=>False) _) (λx _ D=>.inr D) λ_ _ h=>h.elim,λx n Y _ hg=>hg.keep k8 (ao (by decide) hg),λx n Y _ hg=>hg.keep k8 (ao (by decide) hg)⟩;rw[L];have:(LN H (vD H l (k+1))).doors.length=(vD H l k).length+1:=aw;unfold gL;rw[this];rfl;rw[aw,X,List.flatMap_append,List.flatMap_singleton,<-af];exact hg.to λx n hg=>hg.keep k8 (ao (by decide) hg)
 refine .rel (Iy J.heap.size 3 [.int .i64 0] c (th l k).length I) (λv Z b h e=>h.to (λx n=>e.q x n _ (.inr rfl)) e.k λx D=>(F' x D).elim (λh=>by omega) λh=>h.2) (λC s=>?_) ?_
 ·intro v1 _ v2 _ v3 h3;repeat intro _
  exact⟨h3,hE.refl _⟩
 intro C s v9 h9;have h9:Iy J.heap.size 3 [.int .i64 0] c (th l k).length I v9 C:=h9;intro a3 _ a4 _ a5 _;intro a6 _;rintro⟨a',c',aH,aI⟩;have aJ:=h9.gc ac (by omega) (by rw[ai,fX];simp[fi]);refine cq ⟨ae,(a',c',v9),⟨rfl,rfl,rfl,rfl,rfl,rfl,rfl,trivial⟩,k6.trans s.k (λ_ _ h=>h) (λx D h=>?_),aH,aI,?_⟩;have:=F' x h;show x=S;omega;have e1:(th l (k+1)).length=(th l k).length+1:=by rw[K];simp
 have e2:fi (th l (k+1))=I:=by rw[K,ai];simp[fi]
 rw[e1,e2];exact aJ;have W:k∈l:=by refine Decidable.byContradiction λU=>?_;rw[cr U]at B;exact dQ B (by decide)
 have K:th l (k+1)=th l k:=by rw[Iq,cx W]
 have X:vD H l (k+1)=vD H l k:=by unfold vD;rw[K]
 refine cq ⟨ae,(Q,R,c),⟨rfl,rfl,rfl,rfl,rfl,rfl,rfl,trivial⟩,k6,?_,?_,?_⟩;rw[X];exact ab;rw[X];exact T;rw[K];exact ac;obtain rfl:k=H.doors.length:=by simp at am;omega
 have au:=Cv l H.doors.length;obtain⟨f,g,rfl,ax⟩:=LD ac;have aR:gD J Q (sD H l).doors:=JB T;have r6:=k6.fg r5 aE;obtain⟨E,K⟩:∃E,E=th l H.doors.length:=⟨_,rfl⟩;rw[<-K]at ax au⊢;have ay:=hr.ext E6;refine dZ G.length (λi (kv:ce)=>[(1,.slice la G.length lc),(6,cK rb),(8,cK S),(9,.slice f E.length g),(11,kv),(12,.int .i64 i)]) (λi kv w'=>Ext J w'/\sK J.heap.size w' kv (rV E (G.take i))) (.slice none 0 0) ⟨⟨rfl,rfl,rfl,by rw[K];rfl,rfl,rfl,trivial⟩,Ext.refl _,cA.nil _ _ _ _⟩ ?_;rintro i kv C hi ⟨s,O⟩;have aK:=ay.ext s;refine cD (cV ⟨λal=>?_,λam=>?_⟩);have P:i<G.length:=by simpa using al
 obtain⟨b,o,az,A⟩:=aK i P;rw[az];obtain⟨t,ht⟩:∃t,t=G[i]:=⟨_,rfl⟩;rw[<-ht]at A;have M:rV E (G.take (i+1))=rV E (G.take i)++if t.door∈E then [⟨E.idxOf t.door,t.shift,t.opened⟩]else []:=by rw[gP P,<-ht];unfold rV;rw[List.filter_append,nQ,List.filter_cons];by_cases h:t.door∈E<;>simp[h]
 refine fF i 3 P (cu (A 0 _ rfl) (cS (DI (ax.ext s) (by omega) t.door) (n6 ⟨λB=>?_,λB=>?_⟩)))
 ·have W:t.door∈E:=by
   refine Decidable.byContradiction λU=>?_;rw[cr U]at B;exact absurd (cY B) (by decide)
  rw[cx W]at M⊢;have a7:(rV E (G.take i)).length<=i:=by unfold rV;rw[kV];refine cJ (List.length_filter_le _ _) ?_;rw[yy];omega
  have up:∀{z:cd},cN (cw kv) C z->Ext J z:=λe=>s.qu e λx D=>(cA.blk O D).1;have aA:∀{z:cd},cN (cw kv) C z->∀j v,(tL t)[j]? =some v->z.cell? ⟨b,o+i*3+j,none⟩=some v:=λe j v hj=>e.ef (A j v hj) λD=>by have B:=(cA.blk O D).1;obtain⟨b',o',q1,q2⟩:=ay i P;rw[az]at q1;injection q1 with q1;injection q1 with q1;have:=nF (q2 0 _ rfl);simp only at B;omega
  refine fV 14 cO (gu (cw kv)) (λZ b h=>h.keep _) ?_;refine .exact (.pointer (some ⟨b,o+i*3,none⟩)) (λz N=>fF i 3 P ⟨rfl,Ext.refl _⟩) ?_;refine .exact (.int .i64 t.shift) (λz N=>cu (aA N 1 _ rfl) ⟨rfl,Ext.refl _⟩) ?_;refine .exact (.pointer (some ⟨b,o+i*3,none⟩)) (λz N=>fF i 3 P ⟨rfl,Ext.refl _⟩) ?_;refine .exact (.bool t.opened) (λz N=>cu (aA N 2 _ rfl) ⟨rfl,Ext.refl _⟩) ?_;refine .exact (.agg (tL ⟨E.idxOf t.door,t.shift,t.opened⟩).toArray) (λz N=>dA (.agg (tL ⟨E.idxOf t.door,t.shift,t.opened⟩).toArray) ⟨rfl,Ext.refl _⟩) ?_;refine .early rfl (λu z=>∃r,u=.slice (some ⟨r,0,none⟩) 1 1/\z.heap[r]? =some (.cells (tL ⟨E.idxOf t.door,t.shift,t.opened⟩).toArray 84)) (λu Z b ⟨r,B,h3⟩ e=>⟨r,B,e.at_ h3⟩) (λz N=>dJ (tL ⟨E.idxOf t.door,t.shift,t.opened⟩) 84 λw9 r e9 ad aL=>⟨⟨r,rfl,aL⟩,e9⟩) ?_;refine .spec (λu z=>sK J.heap.size z u (rV E (G.take (i+1)))) (λu Z b h e=>cA.ext h e) (λz N u hu=>?_) ?_;obtain⟨r,rfl,L⟩:∃r,u=.slice (some ⟨r,0,none⟩) 1 1/\z.heap[r]? =some (.cells (tL ⟨E.idxOf t.door,t.shift,t.opened⟩).toArray 84):=hu;refine fP U6 (cA.ext O N) (cJ s.size N.size) L (by omega) λv' w9 q1 q2 _=>⟨?_,q2⟩;rw[M];unfold sK;rw[fX,List.flatMap_append,List.flatMap_singleton];exact q1;refine .late rfl (λu z=>sK J.heap.size z u (rV E (G.take (i+1)))) (λu Z b h e=>cA.ext h e) (λz N u hu=>?_) ?_;first
   |exactλ_ _ _ _=>⟨hu,Ext.refl _⟩
   |exactλ_ _ _ _ _ _=>⟨hu,Ext.refl _⟩
   |exactλ_ _=>⟨hu,Ext.refl _⟩
   |exact⟨hu,Ext.refl _⟩
  intro z N u hu;repeat intro _
  exact cq ⟨P,u,⟨rfl,rfl,rfl,rfl,rfl,rfl,trivial⟩,up N,hu⟩
 have U:t.door∉E:=by intro W;rw[cx W]at B;have:=dQ B;omega
 rw[cr U,List.append_nil]at M;exact cq ⟨P,kv,⟨rfl,rfl,rfl,rfl,rfl,rfl,trivial⟩,s,by rw[M];exact O⟩;obtain rfl:i=G.length:=by simp at am;omega
 rw[kX]at O;obtain⟨ka,kc,rfl,a8,_⟩:=O.row;refine di (s.at_ ab) (cZ (s.at_ r6) λz k8 L=>?_);have aM:z.heap[rb]? =some (.cells (gL (sD H l) Q R).toArray 24):=L.trans (cM (λZ=>some (Obj.cells Z 24)) (dV (sH 24).toArray (gL (sD H l) Q R) rfl));have aN:Sem.run V.prog (loadVar 24 ⟨rb,0,none⟩) z=.ok (gV (sD H l) Q R) z:=pQ (gL (sD H l) Q R) aM λj v hj=>by rw[cB];simpa using hj
 have aO:GC m 81 3 z (.slice Q (vD H l H.doors.length).length R) (vD H l H.doors.length).length ((vD H l H.doors.length).flatMap dL):=T.to λx n ⟨cs,B,h2⟩=>⟨cs,k8.fg (s.at_ B) λD=>by subst D;exact eX B r6 (by decide),h2⟩;have aP:sK J.heap.size z (.slice ka (rV E G).length kc) (rV E G):=cA.keep O k8 λx D e=>by have:=(cA.blk O D).1;have:=cF.lt_of_heap r6;omega
 have aQ:w.heap.size<=rb:=cJ e1.size aB;exact⟨gV (sD H l) Q R,aN,_,rfl,(E6.trans s).cy k8 aQ,Q,R,ka,kc,rfl,aO.low (by omega),aP.low E6.size⟩
section
variable{G:Gd}{l:List Ty}{s f:Nat}{S:List Nat}
def JF{G H:Gd}(g:eg G=0)(i:H.streets=G.streets/\H.corner=G.corner/\H.knock=G.knock/\H.minutes=G.minutes/\H.days=G.days/\H.tries=G.tries)(l:H.doors.length<=G.doors.length)(j:∀x∈H.doors,x∈G.doors):eg H=0:=by obtain⟨a,b,c,d,e,f⟩:=i;unfold eg pg at g⊢;rw[a,b,c,d,e,f];split at g;rename_i h;rw[cx h];split at g;omega;rename_i m;rw[cr (by omega)];exact wD λx k=>vp g x (j x k);rename_i h;rw[cr h];exact g
def Gw(G:Gd)(S:List Nat):(sD G S).doors.length=(th S G.doors.length).length:=by show((th S G.doors.length).map _).length=_;rw[kV]
def Gv(a:eg G=0)(S:List Nat):eg (sD G S)=0:=JF a ⟨rfl,rfl,rfl,rfl,rfl,rfl⟩ (by rw[Gw];exact Cv S _) λx b=>by obtain⟨i,c,rfl⟩:=jj.1 (show x∈(th S G.doors.length).map λi=>G.doors.getD i LO from b);have:=(Az.1 c).1;rw[getD_eq this];exact dt this
def Gx(a:eg G=0)(S:List Nat):Gq (sD G S) G (th S G.doors.length)where
 h:=ek (Gv a S)
 g:=ek a
 corner:=rfl
 knock:=rfl
 minutes:=rfl
 days:=rfl
 tries:=rfl
 len:=Gw G S
 nodup:=List.nodup_range.filter _
 lt:=λx c=>(Az.1 c).1
 door:=λi h=>by show((th S G.doors.length).map λi=>G.doors.getD i LO)[i]? =_;have b:=(Az.1 (dt h)).1;rw[mR,ew h,ew b];show some (G.doors.getD _ LO)=_;rw[getD_eq b]
def JG(a:eg G=0)(c:Made G l s)(k:qy l<=f)(m:(f:Int)<=2*G.days-1):ee (sD G S) ((rV (th S G.doors.length) l).map Pf) f 0=0:=by
 obtain⟨n,d,_⟩:=Ix (Gx a S) c.log;have e:wn (sD G S) ((rV (th S G.doors.length) l).map Pf)=0:=by rw[wn,cx (Gv a S),d]
 have o:qy (rV (th S G.doors.length) l)<=qy l:=by
  have:∀t∈rV (th S G.doors.length) l,t.shift<=qy l:=λt h=>by obtain⟨u,i,rfl⟩:=jj.1 h;exact c.Gy u (ug.1 i).1
  unfold qy at this⊢;cases j:(rV (th S G.doors.length) l).getLast? with
  |none=>exact fN _
  |some t=>exact this t (List.mem_of_getLast? j)
 have b:jX (f:Int) 0 (2*(sD G S).days-1)=true:=by show jX (f:Int) 0 (2*G.days-1)=true;simp[jX];omega
 have g:rH (sD G S) (iK ((rV (th S G.doors.length) l).map Pf)) f=0:=by rw[rH,b,DF,cx rfl,cr (by omega)]
 rw[ee,cx e,cx g];rfl
def yp(D:dR)(M:Int):((uV D).2&&decide ((uV D).1<=M))=true↔∃l m k,gm D=some (l,m,k)/\m<=M:=by
 unfold uV;cases h:gm D with
 |none=>simp
 |some x=>
  obtain⟨a,b,c⟩:=x;show(true&&decide (b<=M))=true↔_;rw[Bool.true_and,decide_eq_true_iff];constructor;exactλh=>⟨a,b,c,rfl,h⟩;rintro⟨l,m,k,d,e⟩;injection d with d;injection d with _ d;injection d with d;omega
def LG(a:eg G=0)(b:Made G l s)(c:0<=I)(S:List Nat):tO G (gO G (l.map Pf)).2 f I S=((uV (iU (sD G S) (gO (sD G S) ((rV (th S G.doors.length) l).map Pf)).2 f)).2&&decide ((uV (iU (sD G S) (gO (sD G S) ((rV (th S G.doors.length) l).map Pf)).2 f)).1<=I)):=by obtain⟨m,e,g,i,j⟩:=Ix (Gx a S) b.log;rw[e,b.log];unfold tO;rw[Bool.eq_iff_iff,yp,yp];exact JE (Gx a S) i g j (λd k=>⟨λh=>(Az.1 h).2,λh=>Az.2 ⟨k,h⟩⟩) c
def LH(p:eg G=0){xs:List Sx}(q:xs.length=G.doors.length)(r:0<=I):tO G xs f I (cW G.tries xs)=true:=by
 have b:=ek p;have e:∀d,d∉cW G.tries (jb xs (cW G.tries xs)):=λd a=>by obtain⟨g,h⟩:=ws.1 a;exact h g
 unfold tO;rw[yp];have i:dK 0=[]:=by decide
 have l:lP G 0:=⟨by omega,λd a=>by rw[i]at a;cases a⟩;have o:0<=nW G 0/\nW G 0<=((0:Nat):Int):=AL b l (n:=0) (c:=λ_=>0) ⟨λd a=>(by rw[i]at a;cases a),λj v=>by omega⟩;obtain⟨t,m,k,g,h⟩:=u5 (xs:=jb xs (cW G.tries xs)) b (by rw[pU,q]) f (λ_=>[]) (λd a=>absurd a (e d)) (L:=λ_=>0) (λs u=>⟨l,o.1⟩) λd a=>absurd a (e d);exact⟨t,m,k,g,Int.le_trans (h 0 (Int.le_refl _) λs u=>o.2).1 r⟩
theorem Gn(l:List Nat){m:Nat}(a:l.length<m):∀j,sB l (m+j)=sB l m
 |0=>rfl
 |j+1=>by rw[<-yz,nL,Gn l a j,vv l _ (by omega),List.append_nil]
theorem AJ(q:Nat->Bool)(l:List Nat):∀m,sB (l.filter q) m=(sB l m).filter λx=>x.all q
 |0=>rfl
 |m+1=>by rw[nL,nL,AJ q l m,vi,List.filter_append]
def JH(G:Gd)(l:List Ty)(f:Nat)(z:Int)(x:List Nat):Bool:=x.all (λd=>!oM G l d)&&tO G (gO G (l.map Pf)).2 f z x
def JI(i:eg G=0)(j:Made G l s)(k:0<=I):(sB (List.range G.doors.length) (G.doors.length+1)).find? (JH G l f I)=some (oL (tO G (gO G (l.map Pf)).2 f I) (cW G.tries (gO G (l.map Pf)).2)):=by
 obtain⟨a,c⟩:∃a,a=(gO G (l.map Pf)).2:=⟨_,rfl⟩;have b:a=(List.range G.doors.length).map (MI l):=by rw[c,j.log]
 have e:a.length=G.doors.length:=by rw[b];simp
 have n:cW G.tries a=(List.range G.doors.length).filter λd=>!oM G l d:=by rw[b,Is];rfl
 have o:(sB (List.range G.doors.length) (G.doors.length+1)).find? (JH G l f I)=(sB (cW G.tries a) (G.doors.length+1)).find? (tO G a f I):=by rw[n,AJ,List.find?_filter];congr 1;funext x;unfold JH;rw[<-c,Bool.decide_and,Bool.decide_eq_true,Bool.decide_eq_true]
 have p:(cW G.tries a).length<=G.doors.length:=by rw[<-e];exact pm _ _
 have q:sB (cW G.tries a) (G.doors.length+1)=sB (cW G.tries a) ((cW G.tries a).length+1):=by have:=Gn (cW G.tries a) (m:=(cW G.tries a).length+1) (by omega) (G.doors.length-(cW G.tries a).length);rw[<-this];congr 1;omega
 rw[o,q,<-c];have h:=Ak (tO G a f I) (cW G.tries a) ((cW G.tries a).length+1);cases g:(sB (cW G.tries a) ((cW G.tries a).length+1)).find? (tO G a f I)with
 |none=>
  have:=List.find?_eq_none.1 g (cW G.tries a) (by rw[nL,Ip];simp);exact absurd (LH i e k) this
 |some x=>
  rw[g]at h;have h:jh (tO G a f I) (cW G.tries a) ((cW G.tries a).length+1)=(true,x):=h;unfold oL;rw[h]
end
def Gs{l:List Ty}(h:ee H (l.map Pf) m 0=0)(c:0<=I/\I<=5):ee H (l.map Pf) m I=0:=by unfold ee at h⊢;split at h;rename_i a;rw[cx a];split at h;rename_i b;rw[cx b,cx (by simp[jX,c.1,c.2])];rename_i b;exact absurd h b;rename_i a;exact absurd h a
theorem nO.keep{d:List (Nat×List Nat)}(h:nO m w x d)(e:cN A w t)(a:∀b,m<=b->¬A b):nO m t x d:=by obtain⟨i,j,f,l⟩:=h;exact⟨i,j,cA.keep f e λb c=>a b (cA.blk f c).1,λk n=>by obtain⟨u,o,g⟩:=l k n;exact⟨u,o,cA.keep g e λb c=>a b (cA.blk g c).1⟩⟩
def DE.own(h:DE m w t)(k:cN (cw x) t e)(c:∀a,cw x a->w.heap.size<=a):DE m w e:=
 ⟨(h.1.trans k (H:=λa=>a=m\/w.heap.size<=a) (λ_ _ h=>.inl h) λa _ b=>.inr (c a b)).trans (cN.refl (λ_=>False) _) (λa b h=>h.elim id λh=>by omega) λ_ _ h=>h.elim,λd=>(h.2 d).keep k λa b=>by have:=c a b;have:=d.lt;omega⟩
structure OW(n0:Nat)(a b:cd):Prop where
 k:cN (λx=>n0<=x) a b
 p:∀(x:Nat) cs t,t≠24->a.heap[x]? =some (.cells cs t)->b.heap[x]? =some (.cells cs t)
 q:∀(x:Nat) cs,a.heap[x]? =some (.cells cs 24)->∃tl:Array ce,b.heap[x]? =some (.cells tl 24)/\tl.size=cs.size
def LW(j:Nat):fw (OW j):=
 ⟨λw=>⟨cN.refl _ w,λ_ _ _ _ h=>h,λ_ d h=>⟨d,h,rfl⟩⟩,λa b c h k=>⟨h.k.trans k.k (λ_ _ h=>h) λ_ _ h=>h,λx d t i e=>k.p x d t i (h.p x d t i e),λx d e=>by obtain⟨f,l,m⟩:=h.q x d e;obtain⟨g,n,o⟩:=k.q x f l;exact⟨g,n,o.trans m⟩⟩,λw=>⟨(Ext.drew w).keep _,λx d t _ e=>(Ext.drew w).at_ e,λx d e=>⟨d,(Ext.drew w).at_ e,rfl⟩⟩⟩
def Ext.et(h:Ext w t)(c:Nat):OW c w t:=⟨h.keep _,λx b d _ a=>h.at_ a,λx b a=>⟨b,h.at_ a,rfl⟩⟩
def GC.et(h:GC k T i w x j M)(e:OW m w t)(b:T≠24):GC k T i t x j M:=h.to λc n ⟨a,d,f⟩=>⟨a,e.p c a T b d,f⟩
def cA.et(h:cA k T M w x i Y)(e:OW m w t)(f:T≠24):cA k T M t x i Y:=by obtain⟨a,h|⟨b,c,d,g,j,l,n⟩⟩:=h;exact⟨a,.inl h⟩;exact⟨a,.inr ⟨b,c,d,g,j,e.p b d T f l,n⟩⟩
theorem OW.ext(h:OW m w t)(a:w.heap.size<=m):Ext w t:=h.k.ext λx b=>by omega
def Gt(k n:Nat)(w:cd)(b:n<=5)(c:k<=100):Calls V.prog 56 #[.int .i64 n,.int .i64 k] w (fy λv a=>Ext w a/\eW w.heap.size a v (LI k (List.range n))):=by refine go (V.fn Tryz.func56 (by decide)) Tryz.ntmps56 ?_;refine ck (AO k 0 n w (fN _) b c) ?_;rintro v e ⟨d,h⟩;rw[Nat.sub_zero,<-List.range_eq_range']at h;exact⟨v,rfl,d,h⟩
theorem Cf(l:List Nat)(k:Nat):∀j,∃R,sB l (k+1+j)=sB l k++(LI k l++R)
 |0=>⟨[],by rw[mT,nL,List.append_nil]⟩
 |j+1=>by obtain⟨R,h⟩:=Cf l k j;exact⟨R++LI (k+1+j) l,by rw[<-yz,nL,h];simp[List.append_assoc]⟩
def JJ{q:List Nat->Bool}(j:k<=m)(a:(sB l (m+1)).find? q=some f)(b:(sB l k).find? q=none)(c:i<(LI k l).length)(d:((LI k l).take i).find? q=none)(e:q (LI k l)[i]=true):f=(LI k l)[i]:=by
 obtain⟨R,h⟩:=Cf l k (m-k);rw[show k+1+(m-k)=m+1 by omega]at h;have g:LI k l=(LI k l).take i++(LI k l)[i]::(LI k l).drop (i+1):=by rw[<-qH c,List.take_append_drop]
 rw[h,List.find?_append,b,Option.none_or,List.find?_append,g,List.find?_append,d,Option.none_or,List.find?_cons,e]at a;exact(cE a).symm
def Ir{ns:List Int}{lc:Nat}(hr:ja w a ns)(hl:ns.length<=9223372036854775807):Calls V.prog 9 #[.slice a ns.length lc] w (qa λv w'=>v=.bool true/\Ext w w'):=by
 refine ZA (V.fn Tryz.func9 (by decide)) Tryz.ntmps9 (kq.seq jG ?_);refine kq.seq jG (ck (ko hr hl) ?_);rintro _ O ⟨e1,db,rfl,aA,hD⟩;refine kq.seq jG (ck (jB hD 3 (by omega)) ?_);rintro _ w2 ⟨d2,G,da,dc,rfl,hO,bG,hG,bH⟩;have ok:=ek hG;have bI:=ok.days;have hm:=ok.many;have E2:Ext w w2:=DD e1 d2 aA;refine eF λw3 gb e3 bd be=>cZ be λw4 k4 aj=>?_;replace aj:w4.heap[gb]? =some (.cells (gL G da dc).toArray 24):=aj.trans (cM (λL=>some (Obj.cells L 24)) (dV (sH 24).toArray (gL G da dc) rfl));have af:Ext w2 w4:=Ext.cy e3 k4 bd;have s1:=e1.size;have s2:=d2.1.size;have s4:=af.size;have bJ:=hD.lt;have D4:=(d2.2 hD).ext af;have ag:¬gb=db:=by omega
 refine kq.qA (l0:=[(3,cK db),(4,cK gb)]) ⟨rfl,rfl,trivial⟩ (kq.seq jG (di aj (ck (Ce (dc:=dc) D4 hG) ?_)));rintro _ w5 ⟨d5,l,s,hu,hM,hs,aS⟩;obtain⟨L,c,rfl,bK,E⟩:=hu.row;have g5:w5.heap[gb]? =some (.cells (gL G da dc).toArray 24):=d5.1.fg aj ag;have aT:mC O.heap.size w5 (.slice da G.doors.length dc) G.doors:=cA.keep (cA.ext hO af) d5.1 λb hb e=>by have:=(cA.blk hO hb).1;omega
 have E5:Ext w w5:=DD (E2.trans af) d5 aA;have p:=d5.2 D4;have s5:=d5.1.size;have bf:=OV hM;have bD:=D4.lt;refine kq.qA (l0:=[(3,cK db),(4,cK gb),(5,.slice L l.length c)]) ⟨rfl,rfl,rfl,trivial⟩ (kq.seq jG (cQ (xV db) ?_));refine .exact (.int .i64 (qy l)) (λw6 e6=>cS (Io (sK.rowOf (cA.keep hu e6.1 λb hb e=>by have:=(cA.blk hu hb).1;omega)) (by omega)) ⟨rfl,(xV db).refl _⟩) ?_;refine .exact (.int .i64 G.days) (λw6 e6=>cu (ci (e6.1.fg g5 ag) rfl) ⟨rfl,(xV db).refl _⟩) ?_;refine .exact (.int .i64 (2*G.days)) (λw6 _=>tE ⟨rfl,(xV db).refl _⟩) ?_;refine .exact (.int .i64 (2*G.days-1)) (λw6 _=>fx ⟨rfl,(xV db).refl _⟩) ?_;refine .rel (λu _=>∃f:Nat,u=.int .i64 f/\qy l<=f/\(f:Int)<=2*G.days-1) (λ_ _ _ h _=>h) (λw6 e6=>ck (kN (e6.2 p) (qy l) (2*G.days-1) (by omega) (by omega) (by omega)) λu w7 ⟨⟨z,e,z1,z2⟩,d⟩=>⟨⟨z.toNat,by rw[e];congr 1;omega,by omega,by omega⟩,d⟩) ?_;refine .rel (λu _=>∃z:Int,u=.int .i64 z/\0<=z/\z<=2) (λ_ _ _ h _=>h) (λw6 e6=>?_) ?_;intro _ _;exact ck (nJ (e6.2 p) 2 (by omega)) λu w7 ⟨⟨z,e,z1,z2⟩,d⟩=>⟨⟨z,e,z1,by omega⟩,d⟩;refine .rel (λu _=>∃f:Nat,u=.int .i64 f/\qy l<=f/\(f:Int)<=2*G.days-1) (λ_ _ _ h _=>h) (λw6 e6 _ _ u hu=>⟨hu,(xV db).refl _⟩) ?_;refine .rel (λu _=>∃z:Int,u=.int .i64 z/\0<=z/\z<=2) (λ_ _ _ h _=>h) (λw6 e6=>?_) ?_;intro v1 P v2 Z v3 U;first
  |exact⟨P,(xV db).refl _⟩
  |exact⟨Z,(xV db).refl _⟩
  |exact⟨U,(xV db).refl _⟩
 rintro w6 d6 _ ⟨z,rfl,z1,z2⟩ _ ⟨f,rfl,f1,f2⟩ _ _ _ _;have g6:=d6.1.fg g5 ag;have s6:=d6.1.size;have bg:mC O.heap.size w6 (.slice da G.doors.length dc) G.doors:=cA.keep aT d6.1 λb hb e=>by have:=(cA.blk aT hb).1;omega
 have au:gD w6 da G.doors:=mC.Ie bg;have bh:sK w4.heap.size w6 (.slice L l.length c) l:=cA.keep hu d6.1 λb hb e=>by have:=(cA.blk hu hb).1;omega
 have aU:wE w6 L l:=sK.rowOf bh;have E6:Ext w w6:=DD (E2.trans af) (d5.trans d6) aA;have bi:=Gs (Bb hG hM f1 f2) ⟨z1,(by omega:z<=5)⟩;have bL:=ok.streets;have aV:=Gj (dc:=dc) (lc:=c) au (by omega) (by omega) aU.q (by rw[kV];omega) (f:Nat) z;rw[kV]at aV;obtain⟨g,ak⟩:∃g,g=oL (tO G (gO G (l.map Pf)).2 f z) (cW G.tries (gO G (l.map Pf)).2):=⟨_,rfl⟩;have W:=JI (f:=f) hG hM z1;rw[<-ak]at W;refine kq.qA (l0:=[(4,cK gb),(5,.slice L l.length c),(6,.int .i64 (f:Nat)),(7,.int .i64 z)]) ⟨rfl,rfl,rfl,rfl,trivial⟩ (kq.seq jG (di g6 (fG aV (λw' h=>.inr ⟨rfl,h⟩) ?_)));rintro _ w7 ⟨e7,⟨h,_⟩|⟨_,ga,gc,rfl,aB,aW⟩⟩;exact absurd bi h;have aB:eO w7 ga g:=by rw[ak];exact aB
 have aW:g.length<=gc:=by rw[ak];exact aW
 have bj:oL (tO G (gO G (l.map Pf)).2 ((f:Nat):Int).toNat z) (cW G.tries (gO G (l.map Pf)).2)=g:=ak.symm;rw[bj];have A:=E6.trans e7;refine kq.vy (kq.seq jG ?_);refine kq.qA (l0:=[(4,cK gb),(5,.slice L l.length c),(6,.int .i64 (f:Nat)),(7,.int .i64 z),(8,.slice ga g.length gc),(9,.int .i64 0),(10,.int .i64 (0:Nat))]) ⟨rfl,rfl,rfl,rfl,rfl,rfl,rfl,trivial⟩ ?_;refine GD (G.doors.length+1) (λk (_:Unit)=>[(4,cK gb),(5,.slice L l.length c),(6,.int .i64 (f:Nat)),(7,.int .i64 z),(8,.slice ga g.length gc),(9,.int .i64 0),(10,.int .i64 k)]) (λk _ w'=>Ext w7 w'/\(sB (List.range G.doors.length) k).find? (JH G l f z)=none) () ⟨⟨rfl,rfl,rfl,rfl,rfl,rfl,rfl,trivial⟩,Ext.refl _,rfl⟩ ?_;rintro k _ w8 hk ⟨e8,aC⟩;have aX:=e7.trans e8;have g8:=aX.at_ g6;refine kq.seq jG (cu (ci g8 rfl) (cD (sW ⟨λaD=>?_,λal=>?_⟩)));rotate_left;have al:¬(k:Int)<=(G.doors.length:Int):=dQ al;obtain rfl:k=G.doors.length+1:=by omega
 rw[aC]at W;cases W;have bk:k<=G.doors.length:=by have:(k:Int)<=(G.doors.length:Int):=cY aD;omega
 have aY:G.doors.length<=5:=hm;refine kq.vy (kq.block (kq.seq jG ?_));refine cu (ci g8 rfl) (cD (ck (Gt k G.doors.length w8 aY (by omega)) ?_));rintro _ w9 ⟨e9,av⟩;obtain⟨T,hT⟩:∃T,T=LI k (List.range G.doors.length):=⟨_,rfl⟩;rw[<-hT]at av;have bM:T.length<=32:=by rw[hT];refine cJ (Am _ _) ?_;rw[List.length_range];exact cJ (Nat.pow_le_pow_right (by decide) aY) (by decide)
 obtain⟨y,n,rfl,bl,bN⟩:=av.row;refine kq.seq jG ?_;refine kq.qA (l0:=[(4,cK gb),(5,.slice L l.length c),(6,.int .i64 (f:Nat)),(7,.int .i64 z),(8,.slice ga g.length gc),(9,.int .i64 0),(10,.int .i64 k),(11,.slice y T.length n),(12,.int .i64 (0:Nat))]) ⟨rfl,rfl,rfl,rfl,rfl,rfl,rfl,rfl,rfl,trivial⟩ ?_;refine GD T.length (λi (_:Unit)=>[(4,cK gb),(5,.slice L l.length c),(6,.int .i64 (f:Nat)),(7,.int .i64 z),(8,.slice ga g.length gc),(9,.int .i64 0),(10,.int .i64 k),(11,.slice y T.length n),(12,.int .i64 i)]) (λi _ w'=>Ext w9 w'/\(T.take i).find? (JH G l f z)=none) () ⟨⟨rfl,rfl,rfl,rfl,rfl,rfl,rfl,rfl,rfl,trivial⟩,Ext.refl _,rfl⟩ ?_;rintro i _ am hi ⟨ah,X⟩;have ac:=aX.trans (e9.trans ah);have bm:=ac.at_ g6;refine kq.seq jG (cD (cV ⟨λbn=>?_,λbo=>?_⟩));rotate_left;obtain rfl:i=T.length:=by have:¬(i:Int)<(T.length:Int):=dQ bo;omega
 rw[kX]at X;refine kq.of jG (cq ⟨by omega,(),⟨rfl,rfl,rfl,rfl,rfl,rfl,rfl,trivial⟩,e8.trans (e9.trans ah),?_⟩);rw[nL,List.find?_append,aC,<-hT,X];rfl;have N:i<T.length:=by simpa using bn
 obtain⟨S,hS⟩:∃S,S=T[i]:=⟨_,rfl⟩;have bp:S∈T:=by rw[hS];exact dt N
 obtain⟨bO,bq⟩:=Av (by rw[<-hT];exact bp);have bP:∀d∈S,d<G.doors.length:=λd hd=>eJ.1 (bq.subset hd);have bQ:S.length<=5:=by omega
 have aE:gD am da G.doors:=au.ext ac;have aw:wE am L l:=aU.ext ac;have aF:=bl.ext ah;obtain⟨tb,to,sa,sc,rfl,an,ao,aZ⟩:=aF i N;rw[<-hS]at an ao aZ;refine kq.vy (kq.block (kq.seq jG ?_));refine kq.vy (kq.seq jG ?_);refine kq.qA (l0:=[(4,cK gb),(5,.slice L l.length c),(6,.int .i64 (f:Nat)),(7,.int .i64 z),(8,.slice ga g.length gc),(9,.int .i64 0),(10,.int .i64 k),(11,.slice (some ⟨tb,to,none⟩) T.length n),(12,.int .i64 i),(13,.bool true),(14,.int .i64 (0:Nat))]) ⟨rfl,rfl,rfl,rfl,rfl,rfl,rfl,rfl,rfl,rfl,rfl,trivial⟩ ?_;refine dZ k (λj (_:Unit)=>[(4,cK gb),(5,.slice L l.length c),(6,.int .i64 (f:Nat)),(7,.int .i64 z),(8,.slice ga g.length gc),(9,.int .i64 0),(10,.int .i64 k),(11,.slice (some ⟨tb,to,none⟩) T.length n),(12,.int .i64 i),(13,.bool ((S.take j).all λd=>!oM G l d)),(14,.int .i64 j)]) (λj _ w'=>Ext am w') () ⟨⟨rfl,rfl,rfl,rfl,rfl,rfl,rfl,rfl,rfl,rfl,rfl,trivial⟩,Ext.refl _⟩ ?_;rintro j _ aG hj M;refine cV ⟨λa0=>?_,λa1=>?_⟩;have aH:j<S.length:=by have:(j:Int)<(k:Int):=cY a0;omega
 have aI:((S.take (j+1)).all λd=>!oM G l d)=(((S.take j).all λd=>!oM G l d)&&!oM G l S[j]):=by rw[gP aH,List.all_append];simp
 obtain⟨op,ap⟩:∃op,op=(S.take j).all λd=>!oM G l d:=⟨_,rfl⟩;rw[<-ap]at aI⊢;have aJ:=M.at_ bm;obtain⟨b2,o2,rfl,br⟩:=ao j aH;refine cQ cO ?_;cases op with
 |false=>
  refine iG rfl ?_;intro C B;refine cq ⟨by omega,(),⟨rfl,rfl,rfl,rfl,rfl,rfl,rfl,rfl,rfl,?_,rfl,trivial⟩,M.trans B⟩;show some _=some _;rw[aI];rfl
 |true=>
  refine iR rfl ?_;refine .exact (gV G da dc) (λC B=>di (B.at_ aJ) ⟨rfl,Ext.refl _⟩) ?_;refine .exact (.pointer (some ⟨tb,to+i,none⟩)) (λC B=>dI i N ⟨rfl,Ext.refl _⟩) ?_;refine .exact (.slice (some ⟨b2,o2,none⟩) S.length sc) (λC B=>cu (B.cell (M.cell an)) ⟨rfl,Ext.refl _⟩) ?_;refine .exact (.pointer (some ⟨b2,o2+j,none⟩)) (λC B=>dI j aH ⟨rfl,Ext.refl _⟩) ?_;refine .exact (.int .i64 (S[j]:Nat)) (λC B=>cu (B.cell (M.cell br)) ⟨rfl,Ext.refl _⟩) ?_;refine .exact (.bool (oM G l S[j])) (λC B=>dq (Co (dc:=dc) (lc:=c) ((aw.ext M).ext B) (by omega) S[j]) λI aa=>⟨rfl,aa⟩) ?_;refine .exact (.bool (!oM G l S[j])) (λC B=>eu ⟨rfl,Ext.refl _⟩) ?_;intro C B;refine cq ⟨by omega,(),⟨rfl,rfl,rfl,rfl,rfl,rfl,rfl,rfl,rfl,?_,rfl,trivial⟩,M.trans B⟩;show some _=some _;rw[aI];rfl
 obtain rfl:j=S.length:=by have:¬(j:Int)<(k:Int):=dQ a1;omega
 rw[kX];obtain⟨op,ap⟩:∃op,op=S.all λd=>!oM G l d:=⟨_,rfl⟩;rw[<-ap];have ax:=ac.trans M;have aJ:=ax.at_ g6;refine kq.qA (l0:=[(4,cK gb),(5,.slice L l.length c),(6,.int .i64 (f:Nat)),(7,.int .i64 z),(8,.slice ga g.length gc),(9,.int .i64 0),(10,.int .i64 k),(11,.slice (some ⟨tb,to,none⟩) T.length n),(12,.int .i64 i),(13,.bool op)]) ⟨rfl,rfl,rfl,rfl,rfl,rfl,rfl,rfl,rfl,rfl,trivial⟩ ?_;obtain⟨H,o⟩:∃H,H=sD G S:=⟨_,rfl⟩;obtain⟨Q,ai⟩:∃Q,Q=rV (th S G.doors.length) l:=⟨_,rfl⟩;obtain⟨n0,bR⟩:∃n0,n0=aG.heap.size:=⟨_,rfl⟩;have hE:=LW n0;have ext:∀{O:cd},OW n0 aG O->Ext aG O:=λe=>e.ext (by omega);refine kq.vy (fV 11 cO hE (λL b h=>h.et n0) ?_);refine .exact (gV G da dc) (λC B=>di ((ext B).at_ aJ) ⟨rfl,Ext.refl _⟩) ?_;refine .exact (.pointer (some ⟨tb,to+i,none⟩)) (λC B=>dI i N ⟨rfl,Ext.refl _⟩) ?_;refine .exact (.slice sa S.length sc) (λC B=>cu ((ext B).cell (M.cell an)) ⟨rfl,Ext.refl _⟩) ?_;refine .rel (λu O=>∃F E K J,u=.tuple #[gV H F E,.slice K Q.length J]/\GC n0 81 3 O (.slice F H.doors.length E) H.doors.length (H.doors.flatMap dL)/\sK n0 O (.slice K Q.length J) Q) (λu L b ⟨F,E,K,J,P,Z,U⟩ e=>⟨F,E,K,J,P,Z.et e (by decide),cA.et U e (by decide)⟩) (λC B=>?_) ?_;refine ck (DM (dc:=dc) (lc:=c) (sc:=sc) ((aE.ext M).ext (ext B)) hm ((aw.ext M).ext (ext B)) (by omega) (eO.ext (eO.ext ao M) (ext B)) (by omega)) ?_;rintro u I ⟨aa,F,E,K,J,P,Z,U⟩;have:=(ext B).size;exact⟨⟨F,E,K,J,by rw[o,ai];exact P,by rw[o];exact Z.low (by omega),by rw[ai];exact U.low (by omega)⟩,aa⟩;refine .rel (λu O=>∃F E K J,u=.tuple #[gV H F E,.slice K Q.length J]/\GC n0 81 3 O (.slice F H.doors.length E) H.doors.length (H.doors.flatMap dL)/\sK n0 O (.slice K Q.length J) Q) (λu L b ⟨F,E,K,J,P,Z,U⟩ e=>⟨F,E,K,J,P,Z.et e (by decide),cA.et U e (by decide)⟩) (λC B u hu=>⟨hu,Ext.refl _⟩) ?_;refine .rel (λu O=>∃F E,u=gV H F E/\GC n0 81 3 O (.slice F H.doors.length E) H.doors.length (H.doors.flatMap dL)) (λu L b ⟨F,E,P,Z⟩ e=>⟨F,E,P,Z.et e (by decide)⟩) (λC B u hu=>?_) ?_;obtain⟨F,E,K,J,rfl,Z,U⟩:=hu;exact⟨⟨F,E,rfl,Z⟩,Ext.refl _⟩;refine .rel (λu O=>∃K J,u=.slice K Q.length J/\sK n0 O (.slice K Q.length J) Q) (λu L b ⟨K,J,P,U⟩ e=>⟨K,J,P,cA.et U e (by decide)⟩) (λC B u hu=>?_) ?_;obtain⟨F,E,K,J,rfl,Z,U⟩:=hu;exact⟨⟨K,J,rfl,U⟩,Ext.refl _⟩;refine .rel (λu O=>∃R,u=cK R/\n0<=R/\∃cs,O.heap[R]? =some (.cells cs 24)/\cs.size=7) (λu L b ⟨R,P,Z,cs,U,h4⟩ e=>by obtain⟨ad,h5,h6⟩:=e.q R cs U;exact⟨R,P,Z,ad,h5,h6.trans h4⟩) (λC B=>?_) ?_
 ·repeat intro _
  exact eF λI R aa aK hb=>⟨⟨R,rfl,by have:=(ext B).size;omega,_,hb,rfl⟩,aa⟩
 refine .xd (λvs O=>∃R r F E,vs=cK R::r/\O.heap[R]? =some (.cells (gL H F E).toArray 24)/\GC n0 81 3 O (.slice F H.doors.length E) H.doors.length (H.doors.flatMap dL)) (λ_ L b ⟨R,r,F,E,P,Z,U⟩ e=>⟨R,r,F,E,P,e.at_ Z,U.et (e.et n0) (by decide)⟩) (λC B=>?_) ?_;rintro _ ⟨R,rfl,aK,cs,aL,aM⟩ _ ⟨F,E,rfl,a2⟩ v3 _ v4 _;refine iA (v:=gV H F E) aL (by rw[aM];exact cz _) (λI aN a3=>?_) (fU rfl);have bs:∀{x:Nat} {ad:Array ce} {t:cg},t≠24->C.heap[x]? =some (.cells ad t)->x≠R:=λht P hx=>by subst hx;exact eX P aL ht
 have ay:I.heap[R]? =some (.cells (gL H F E).toArray 24):=a3.trans (cM (λL=>some (Obj.cells L 24)) (dV cs (gL H F E) aM));have a4:OW n0 C I:=⟨aN.trans (cN.refl (λ_=>False) _) (λx _ hx=>by subst hx;exact aK) λ_ _ h=>h.elim,λx ad t ht hx=>aN.fg hx (bs ht hx),λx ad hx=>by by_cases a5:x=R;subst a5;rw[aL]at hx;injection hx with hx;injection hx with hx;subst hx;exact⟨_,ay,by rw[aM];rfl⟩;exact⟨ad,aN.fg hx a5,rfl⟩⟩;exact⟨⟨R,_,F,E,rfl,ay,a2.et a4 (by decide)⟩,a4⟩;refine .rel (λu O=>∃K J,u=.slice K Q.length J/\sK n0 O (.slice K Q.length J) Q) (λu L b ⟨K,J,P,U⟩ e=>⟨K,J,P,cA.et U e (by decide)⟩) (λC B=>?_) ?_;intro v1 P v2 Z v3 U v4 h4 v5 h5;exact⟨Z,Ext.refl _⟩;rintro C B _ ⟨K,J,rfl,hK⟩ _ ⟨R,rfl,aK,_⟩ _ ⟨_,_,rfl,_⟩ _ ⟨_,_,rfl,_⟩ _ ⟨_,_,_,_,rfl,_⟩ _ ⟨_,_,_,_,rfl,_⟩;rintro⟨a6,r,F,E,bt,a7,aO⟩;have a8:a6=R:=by have:=(List.cons.inj bt).1;exact(cM Addr.block (cE (Value.pointer.inj this))).symm
 subst a8;have a9:=ax.trans (ext B);have bu:H.doors.length<=5:=by rw[o,Gw];exact cJ (Cv _ _) hm
 have bE:H.streets=G.streets:=by rw[o];rfl
 have bF:Q.length<=30:=by rw[ai];unfold rV;rw[kV];exact cJ (List.length_filter_le _ _) aS
 have bv:ee H (Q.map Pf) f 0=0:=by rw[o,ai];exact JG hG hM f1 f2
 have ab:=LG (f:=f) hG hM z1 S;rw[<-o,<-ai]at ab;have aq:JH G l f z S=(op&&tO G (gO G (l.map Pf)).2 f z S):=by rw[ap];rfl
 have az:=tf (G:=H) (dc:=E) (lc:=J) (JB aO) (by omega) (by omega) (sK.rowOf hK).q (by rw[kV];omega) (f:Nat);rw[kV]at az;refine kq.qA (l0:=[(4,cK gb),(5,.slice L l.length c),(6,.int .i64 (f:Nat)),(7,.int .i64 z),(8,.slice ga g.length gc),(9,.int .i64 0),(10,.int .i64 k),(11,.slice (some ⟨tb,to,none⟩) T.length n),(12,.int .i64 i),(13,.bool op),(15,cK a6),(16,.slice K Q.length J)]) ⟨rfl,rfl,rfl,rfl,rfl,rfl,rfl,rfl,rfl,rfl,rfl,rfl,trivial⟩ ?_;refine kq.seq jG (di a7 (fG az (λw' h=>.inr ⟨rfl,h⟩) ?_));rintro _ I ⟨aa,⟨h,_⟩|⟨_,rfl⟩⟩;exact absurd bv h;have ba:=a9.trans aa;have hD:uV (iU H (gO H (Q.map Pf)).2 ((f:Nat):Int).toNat)=uV (iU H (gO H (Q.map Pf)).2 f):=rfl;rw[hD];obtain⟨D,bw⟩:∃D,D=uV (iU H (gO H (Q.map Pf)).2 f):=⟨_,rfl⟩;rw[<-bw]at ab⊢;obtain⟨m,bx⟩:=D;have Y:Ext am I:=M.trans ((ext B).trans aa);have next:JH G l f z S=false->Ext w9 I/\(T.take (i+1)).find? (JH G l f z)=none:=λh=>⟨ah.trans Y,by rw[gP N,<-hS,List.find?_append,X,List.find?_cons,h];rfl⟩
 cases bx with
 |false=>
  have ar:JH G l f z S=false:=by rw[aq,ab];simp
  have aP:vo (m,false)=.tuple #[.int .i64 0,.int .i64 11]:=rfl;rw[aP];have ae:Ext w9 I/\(T.take (i+1)).find? (JH G l f z)=none:=next ar
  refine kq.vy (kq.of jG (eG (iR rfl (eG (iG rfl ?_)))));cases op with
  |false=>exact kq.of jG (iG rfl (iG rfl (iG rfl (kq.of jG (cq ⟨N,(),⟨rfl,rfl,rfl,rfl,rfl,rfl,rfl,rfl,rfl,trivial⟩,ae⟩)))))
  |true=>exact kq.of jG (iR rfl (eh (iG rfl (iG rfl (kq.of jG (cq ⟨N,(),⟨rfl,rfl,rfl,rfl,rfl,rfl,rfl,rfl,rfl,trivial⟩,ae⟩))))))
 |true=>
  have aP:vo (m,true)=.tuple #[.int .i64 m,.int .i64 0]:=rfl;rw[aP];refine kq.vy (kq.of jG (eG (iG rfl (iG rfl ?_))));cases op with
  |false=>
   have ae:Ext w9 I/\(T.take (i+1)).find? (JH G l f z)=none:=next (by rw[aq];rfl)
   exact kq.of jG (iG rfl (iG rfl (iG rfl (kq.of jG (cq ⟨N,(),⟨rfl,rfl,rfl,rfl,rfl,rfl,rfl,rfl,rfl,trivial⟩,ae⟩)))))
  |true=>
   refine kq.of jG (iR rfl (eh (iR rfl (sW ⟨λaD=>?_,λal=>?_⟩))));have aQ:m<=z:=cY aD;have ar:JH G l f z S=true:=by rw[aq,ab];simp[aQ]
   have bb:g=S:=by subst hT;rw[hS]at ar⊢;exact JJ bk W aC N X ar
   have bz:Ext w I:=E6.trans ba;have aR:=(aB.ext (e8.trans (e9.trans ah))).ext Y;have bc:=HK (lU g) (lU S) ga sa gc sc I aR.ints (eO.ext ao Y).ints (by rw[bb];simp[lU];omega);simp only[lU,kV]at bc;refine eh (iR rfl (dI i N (cu (Y.cell an) (dq bc λbA bB=>?_))));refine iR (decide_eq_true (by rw[bb])) (fG (ii bA) (λw' h=>.inr ⟨rfl,h⟩) ?_);rintro v bS ⟨rfl,bC⟩;exact .inl ⟨_,rfl,rfl,bz.trans (bB.trans bC)⟩;have aQ:¬m<=z:=dQ al;have ae:Ext w9 I/\(T.take (i+1)).find? (JH G l f z)=none:=next (by rw[aq,ab];simp[aQ])
   exact kq.of jG (cq ⟨N,(),⟨rfl,rfl,rfl,rfl,rfl,rfl,rfl,rfl,rfl,trivial⟩,ae⟩)
end Go.Proofs.W
namespace Go.Proofs.W
def LK:List Nat:=[9,26,27,28,29,30,31,34,35,38,42,44,46,48,49,53,54,55,56,57,58,59,69,71,74,75,93,95,96,97,98,104,105,106,107,108,109,113,114,115,116,117,119,120,121,122,123,124,125,128,129,130,131,133,134,135,137,144,146,153,154,155,156,157,158,159,160,161,162,163,164,165,166,167,168,169,170,171,172,173,174,175,176,178,179,180,184,185,186,195,196,197,198,199,200,201,222,231]
def Lw:List Nat:=[9,26,27,28,29,30,31,34,35,38,42,44,46,48,49,53,54,55,56,57,58,59,69,71,74,75,93,95,96,97,98,104,105,106,107,108,109,113,114,115,116,117,119,120,121,122,123,124,125,128,129,130,131,133,134,135,137,144,146,153,154,155,156,157,158,159,160,161,162,163,164,165,166,167,168,169,170,171,172,173,174,175,176,178,179,180,184,185,186,190,194,195,196,197,198,199,200,201,215,216,222,227,228,229,231]
def LJ:LK.all (OC LK)=true:=by kernel_rfl
def Ly:Lw.all (okF Lw false Ls)=true:=by kernel_rfl
end Go.Proofs.W
namespace Go.Proofs.YteeagjkaflglpaaGreat
open Go.ChangeShapes Go.WideShapes Go.ChangeAt Go.RowKit Go.Conc
def OX(Z:Os)(f:Z.Started)(H:Type)(enc:cg×ce->H):ReturnsInLeavingWide {} Tryz.checked Z 9 .any (Rows.roundLeftSpec.pre6 enc Tryz.prog Tryz.f9 Rows.roundLeftRow.domain false) (Rows.roundLeftSpec.post enc Tryz.prog Tryz.f9 false true false false):=by
 refine returnsInLeavingWide_of_change_sized (C:=Tryz.checked) Tryz.own f Tryz.func9 (ChangeSpec.witness6 (enc:=enc) (C:=Tryz.checked) false ⟨#[],#[.slice none 0 0],[]⟩ 8 (by kernel_rfl) (by kernel_rfl) (by kernel_rfl) (by kernel_rfl)) ?_;intro g D r ds gs N k hW _ _ _;have s:∀(j:Nat) t v,Tryz.f9.params[j]? =some t->r[j]? =some v->Value.okWide Tryz.prog g .any D t v:=k;have u:=hW;obtain⟨p,q,E,hV,rfl,_,_⟩:=hW;have hA:DataW.TrodAll enc Tryz.prog g 0 (λ_=>true) true Tryz.f9.params.toList r.toList ds p:=E;have F:Tryz.f9.params=#[27]:=by kernel_rfl
 rw[F]at hA s;obtain⟨v0,d0,rfl,rfl,h0⟩:=trodAll_one hA;obtain⟨rfl,rfl⟩:=trodVars_none hV;have I:=s 0 27 v0 rfl rfl;obtain⟨A,c,cap,rfl⟩:=okWide_slice Tryz.iy I;have P:=h0;obtain⟨aa,hf⟩:=h0;clear E k;simp only[List.append_nil]at u;have Q:∀x∈p,x.block<g.heap.size:=λx R=>by simpa using u.lt x R
 have y:∀(l:cd),Go.RowKit.Below g.heap.size g l->DataW.Trod enc Tryz.prog l 0 (λb=>decide (b<g.heap.size)) true 27 (.slice A c cap) d0 p:=
  λl S=>Below.trod Tryz.laidOut (by kernel_rfl) (cY (by kernel_rfl)) P S Q
 have m:∀(J:List Int),J.length=c->c<=9223372036854775807->(∀B,A=some B->B.spot=none/\(∃x,g.shape? B.block=some x)/\∀i,i<c->g.cell? (B.add i)=some (.int .i64 (J.getD i 0)))->(A=none->c=0)->∃M last o K O,runNT Tryz.checked.prog (M+1) (solo (G (Frame.enter Tryz.checked.prog 9 #[.slice A c cap] .normal) []) g) #[]=(.ended o K,O)/\runN Tryz.checked.prog M (solo (G (Frame.enter Tryz.checked.prog 9 #[.slice A c cap] .normal) []) g)=.next last/\step Tryz.checked.prog last=.ended o K/\
   Conc.Good Tryz.checked.prog (λv l=>Rows.roundLeftSpec.post enc Tryz.checked.prog Tryz.f9 false true false false g #[.slice A c cap] v l) last o K O:=by
  intro J T S U L;obtain⟨M,last,o,K,O,X,Y,h3,h4⟩:=Go.Proofs.W.mK Go.Proofs.W.LJ Go.Proofs.W.Ly (Go.Proofs.W.V.fn Tryz.func9 (by decide)) (tm:=2) (by kernel_rfl) (by decide) (by decide) (by decide) (by kernel_rfl) (λns la lc w X Y=>Go.Proofs.W.Ir X Y) T S U L (cap:=cap);refine⟨M,last,o,K,O,X,Y,h3,h4.mono λv hF=>?_⟩;obtain⟨rfl,d⟩:=hF;exact⟨_,_,_,[],p,[],u,trodAll_mk1 (shut_bool Tryz.Dy true),trodAll_mk1 (y _ d),rfl,d.frame _,λh=>by cases h⟩
 rcases open_ints Tryz.iy Tryz.xU Tryz.qj hf with⟨n,R⟩|⟨a,ab,ac,J,n,_,hl,hm,T,R,z,ae⟩;simp[Value.cells]at n;obtain⟨rfl,rfl,rfl⟩:=n;exact m [] rfl (by omega) (λB h=>by cases h) λ_=>rfl;simp[Value.cells]at n;obtain⟨rfl,rfl,rfl⟩:=n;simp only[cX]at T;obtain⟨e1,e2⟩:=jC Tryz.iy I;refine m (J.take c) (by simp;omega) (by simp only[maxLen]at hm;omega) (λB e=>?_) (λh=>by cases h);cases e;refine⟨e1,e2,λi hi=>?_⟩;rw[z i (by omega)];simp[gU,hi]
def O7:Tryz.pinned.checked.prog.funcNamed Rows.roundLeftRow.func=some 9:=by kernel_rfl
def O8:Tryz.f9.isInstance Tryz.pinned.checked.prog Rows.roundLeftRow.origin Rows.roundLeftRow.targs:=cY (by kernel_rfl)
def O9:Tryz.f9.isWrapper Tryz.pinned.checked.prog Rows.roundLeftRow.wrapper Rows.roundLeftRow.mainSum:=by unfold Func.isWrapper;first|(rw[cx (by decide+kernel)];kernel_rfl)|(rw[cr (by decide+kernel)];exact⟨rfl,rfl⟩)
def roundLeft_holds:Rows.RoundLeftSaid:=
 OpenClaim.holds_of_wide_leaving 9 Tryz.f9 rfl rfl rfl rfl rfl rfl rfl ⟨rfl,rfl,rfl,rfl,rfl⟩ rfl rfl rfl rfl rfl O7 Tryz.func9 O5 O8 O9 (λc a H b _=>OX c a H b)
#print axioms roundLeft_holds
end Go.Proofs.YteeagjkaflglpaaGreat
