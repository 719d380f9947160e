/- Laws that the proof needs, part 24. Conditions: none. -/
import Derived.Test.YteeagjkaflglpaaGreatX23
set_option maxRecDepth 100000
set_option maxHeartbeats 8000000
set_option linter.all false
namespace Go.Proofs.W
open Go.RowKit
def Jv(D:dR)(ps:List Nat):Prop:=∀k (h:k<ps.length),ps[k]<(dz D k).length
def On(D:dR):Sp->Prop
 |none=>True
 |some (l,_,_)=>∃ps:List Nat,l=ps.map Int.ofNat/\ps.length=D.opn.length/\Jv D ps
theorem Gc(b x:Sp):lM b x=x\/lM b x=b:=by unfold lM;split;exact .inl rfl;exact .inr rfl
theorem xp(D:dR):∀(n:Nat) (ps:List Nat) (L:Nat->Nat) (b:Sp),ps.length+n=D.opn.length->Jv D ps->On D b->On D (dS D n ps L b)
 |0,ps,L,b,j,a,c=>by simp only[dS];rcases Gc b (dX D L ps)with h|h;rw[h];unfold dX;split;trivial;exact⟨ps,rfl,by omega,a⟩;rw[h];exact c
 |n+1,ps,L,b,j,a,c=>by
  simp only[dS]
  have d:∀(g:List Nat) (b:Sp),(∀i∈g,i<(dz D ps.length).length)->On D b->On D (g.foldl (λb i=>dS D n (ps++[i]) (jz (fh D ps.length) ((dz D ps.length).getD i []) L) b) b):=by
   intro g;induction g with
   |nil=>intro b _ c;exact c
   |cons i r l=>
    intro b e c;rw[mP];refine l _ (λx m=>e x (eI _ m)) (xp D n _ _ _ (by simp;omega) (λk o=>?_) c);rcases eA k ps.length with f|p;rw[lI f];exact a k f;obtain rfl:k=ps.length:=by simp at o;omega
    simp only[qI (cz _),lf,mS];exact e i eR
  exact d _ b (λi q=>eJ.1 q) c
theorem Ge(D:dR):On D (gm D):=xp D _ [] L0 none (by simp) (λk a=>by simp at a) trivial
def mg(D:dR)(ps:List Nat):Nat->Nat->Nat
 |0=>L0
 |k+1=>jz (fh D k) ((dz D k).getD (ps.getD k 0) []) (mg D ps k)
def tP(G:Gd)(L:Nat->Nat)(k:Nat):List (Nat×List Nat):=(List.range k).flatMap λs=>((fJ G (L s)).getD []).map λl=>(s,l)
def z7(G:Gd)(D:dR):Option (List (Nat×List Nat)):=match gm D with
 |none=>none
 |some (l,_,_)=>some (tP G (mg D (l.map Int.toNat) l.length) 6)
theorem xq(G:Gd)(L:Nat->Nat)(k:Nat):tP G L (k+1)=tP G L k++((fJ G (L k)).getD []).map λl=>(k,l):=by unfold tP;rw[kA,List.flatMap_append];simp
theorem z8{G:Gd}{L:Nat->Nat}:∀k,(tP G L k).length<=5*k
 |0=>cz _
 |k+1=>by
  rw[xq,fX,kV];have:=z8 (G:=G) (L:=L) k;have a:((fJ G (L k)).getD []).length<=5:=by
   cases h:fJ G (L k)with
   |none=>simp
   |some b=>exact pY h
  omega
theorem z9{G:Gd}{s:Nat}{a:List (List Nat)}(h:fJ G s=some a):∀l∈a,l.length<=5:=λl b=>by unfold fJ at h;split at h;obtain rfl:=cE h;cases b;obtain⟨c,_,rfl⟩:=ij.1 h;obtain⟨g,_,rfl⟩:=jj.1 b;exact my
def ta:List (Nat×List Nat)->List ce->List ce
 |p::r,u::s=>.int .i64 p.1::u::ta r s
 |_,_=>[]
theorem uZ(p:Nat×List Nat)(u:ce):∀(ps:List (Nat×List Nat)) (a:List ce),a.length=ps.length->ta (ps++[p]) (a++[u])=ta ps a++[.int .i64 p.1,u]
 |[],[],_=>rfl
 |q::r,v::s,h=>by simp only[qn,ta];rw[uZ p u r s (by simpa using h)]
theorem BY:∀(ps:List (Nat×List Nat)) (a:List ce),a.length=ps.length->(ta ps a).length=2*ps.length
 |[],[],_=>rfl
 |q::r,v::s,h=>by simp only[ta,dW];rw[BY r s (by simpa using h)];omega
theorem BZ:∀(ps:List (Nat×List Nat)) (a:List ce),a.length=ps.length->∀k (h:k<ps.length),(ta ps a)[2*k]? =some (.int .i64 ps[k].1)/\(ta ps a)[2*k+1]? =a[k]?
 |q::r,v::s,h,0,_=>⟨rfl,rfl⟩
 |q::r,v::s,h,k+1,b=>by have:=BZ r s (by simpa using h) k (by simpa using b);rw[show 2*(k+1)=2*k+1+1 by omega];simp only[ta,Be,IC];exact this
def nO(n0:Nat)(w:cd)(v:ce)(ps:List (Nat×List Nat)):Prop:=∃a:List ce,a.length=ps.length/\cA n0 29 [.int .i64 0,.slice none 0 0] w v ps.length (ta ps a)/\∀k (h:k<ps.length),∃u,a[k]? =some u/\dE n0 w u ps[k].2
def wA(w:cd)(a:Option Addr)(ps:List (Nat×List Nat)):Prop:=∀k (h:k<ps.length),∃b o c d,a=some ⟨b,o,none⟩/\w.cell? ⟨b,o+k*2,none⟩=some (.int .i64 ps[k].1)/\w.cell? ⟨b,o+k*2+1,none⟩=some (.slice c ps[k].2.length d)/\eO w c ps[k].2/\ps[k].2.length<=d
section
variable{n0:Nat}{w w':cd}{v:ce}{ps:List (Nat×List Nat)}
theorem nO.nil(n0:Nat)(w:cd):nO n0 w (.slice none 0 0) []:=⟨[],rfl,cA.nil _ _ _ _,λk a=>by simp at a⟩
theorem nO.gi{m:Nat}(h:nO n0 w v ps)(e:iB m w w'):nO n0 w' v ps:=by obtain⟨a,b,c,d⟩:=h;refine⟨a,b,c.gi e,λk f=>?_⟩;obtain⟨u,g,i⟩:=d k f;exact⟨u,g,cA.gi i e⟩
theorem nO.ext(h:nO n0 w v ps)(e:Ext w w'):nO n0 w' v ps:=h.gi (e.gi 0)
theorem nO.low{a:Nat}(h:nO n0 w v ps)(b:a<=n0):nO a w v ps:=by obtain⟨c,d,e,f⟩:=h;exact⟨c,d,e.low b,λk g=>by obtain⟨u,i,j⟩:=f k g;exact⟨u,i,j.low b⟩⟩
theorem nO.blk(h:nO n0 w v ps){b:Nat}(a:cw v b):n0<=b/\b<w.heap.size:=by obtain⟨d,_,c,_⟩:=h;exact c.blk a
theorem nO.row(h:nO n0 w v ps):∃a c,v=.slice a ps.length c/\wA w a ps/\ps.length<=c:=by obtain⟨e,f,⟨z,⟨j,rfl⟩|⟨b,c,A,B,rfl,g,C,l,D,i,E⟩⟩,m⟩:=h;exact⟨none,0,by rw[j],λk d=>by omega,by omega⟩;refine⟨_,c,rfl,λk d=>?_,l⟩;obtain⟨u,n,o⟩:=m k d;obtain⟨p,q,rfl,r,s⟩:=o.row;obtain⟨t,x⟩:=BZ ps e f k d;have y:=BY ps e f;refine⟨b,0,p,q,rfl,ci g ?_,ci g ?_,r,s⟩;rw[cB,Nat.mul_comm,i _ (by omega)];exact t;rw[cB,Nat.mul_comm,i _ (by omega),x];exact n
theorem QH{k:ce->cd->Prop}{t:cg}{r:Array Bool}(h:nO n0 w v ps)(m:n0<=w.heap.size){b c:Nat}{u:ce}{p:Nat×List Nat}(n:dE n0 w u p.2)(s:w.heap[b]? =some (.cells [Value.int .i64 p.1,u].toArray 29))(d:ps.length+1<=1000000) (y:∀e w',nO n0 w' e (ps++[p])->(∀W,Ext W w->W.heap.size<=n0->Ext W w')->cN (cw v) w w'->(∀b,cw e b->cw v b\/w.heap.size<=b)->k e w'):wY V.prog (builtin .append #[26,26] t r #[v,.slice (some ⟨b,0,none⟩) 1 c]) w k:=by
 obtain⟨z,o,j,A⟩:=h;have f:u.oneCell'=true:=by obtain⟨a,c,rfl,_⟩:=dE.row n;rfl
 refine fP Tf j m s d (λe w' B l C=>y e w' ⟨z++[u],by simp[o],by rw[uZ _ _ _ _ o];simpa using B,λi D=>?_⟩ (λW E F=>E.iS l j F) l C) rfl (by show qC [u]=true;simp[qC,f]);rcases eA i ps.length with g|G;obtain⟨x,H,q⟩:=A i g;refine⟨x,by rw[kz (by omega)];exact H,?_⟩;rw[lI g];exact cA.keep q l (gd q j (by decide));obtain rfl:i=ps.length:=by simp at D;omega
 refine⟨u,by rw[mQ (by omega)];simp[o],?_⟩;simp only[qI (cz _),lf,mS];exact cA.keep n l (gd n j (by decide))
end
def QI(a:Nat)(L:Nat->Nat)(w:cd):Prop:=w.heap[a]? =some (.cells #[.int .u8 (L 0),.int .u8 (L 1),.int .u8 (L 2),.int .u8 (L 3),.int .u8 (L 4),.int .u8 (L 5)] 204)
theorem QI.cell{a:Nat}{L:Nat->Nat}{w:cd}(h:QI a L w){s:Nat}(b:s<6):w.cell? ⟨a,s,none⟩=some (.int .u8 (L s)):=by
 have:s=0\/s=1\/s=2\/s=3\/s=4\/s=5:=by omega
 rcases this with rfl|rfl|rfl|rfl|rfl|rfl<;>exact ci h rfl
theorem TA{w:cd}{k:cd->Prop}{a:Nat}{L:Nat->Nat}(h:QI a L w)(s v:Nat)(e:s<6)(b:∀w',cN (λx=>x=a) w w'->QI a (Ho L s v) w'->k w'):DR V.prog (Instr.storeAt 154 (.pointer (some ⟨a,0+s,none⟩)) (.int .u8 v)) w k:=by
 have:s=0\/s=1\/s=2\/s=3\/s=4\/s=5:=by omega
 rcases this with rfl|rfl|rfl|rfl|rfl|rfl<;>exact cZ h λw' c d=>b w' c (by unfold QI;rw[d];rfl)
def QJ{w:cd}{k:ce->cd->Prop}(L:Nat->Nat)(s:Nat)(a:s<6)(h:k (.int .u8 (L s)) w):iO V.prog (Instr.index 204 (.agg #[.int .u8 (L 0),.int .u8 (L 1),.int .u8 (L 2),.int .u8 (L 3),.int .u8 (L 4),.int .u8 (L 5)]) (.int .i64 s)) w k:=by
 have:s=0\/s=1\/s=2\/s=3\/s=4\/s=5:=by omega
 rcases this with rfl|rfl|rfl|rfl|rfl|rfl;exact⟨_,w,ES _ _ _ _ _ _ w,h⟩;exact⟨_,w,ET _ _ _ _ _ _ w,h⟩;exact⟨_,w,EU _ _ _ _ _ _ w,h⟩;exact⟨_,w,EV _ _ _ _ _ _ w,h⟩;exact⟨_,w,EX _ _ _ _ _ _ w,h⟩;exact⟨_,w,EY _ _ _ _ _ _ w,h⟩
theorem Aa{G:Gd}{D:dR}{ps:List Nat}(a:G.doors.length<=5)(b:∀d∈D.opn,d<G.doors.length):∀k,k<=D.opn.length->∀s,lP G (mg D ps k s)
 |0,_,s=>lP.zero G
 |k+1,e,s=>by have c:=Aa (ps:=ps) a b k (by omega) s;simp only[mg,jz];split;exact c.nZ (b _ (by unfold fh;rw[getD_eq (by omega)];exact dt _)) a;exact c
def Ky.rows{A:Nat->Prop}{o:Option (List (List Nat))}{u:ce}{b:Bool}{w:cd}(h:Ky A o u b w):∃a c,u=.slice a (o.getD []).length c/\kZ A w a (o.getD []):=by
 cases o with
 |none=>exact⟨none,0,h.1,λk d=>by simp at d⟩
 |some g=>
  obtain⟨_,a,c,e,f,_⟩:=h;exact⟨a,c,e,f⟩
def U0(n0:Nat)(o:Option (List (Nat×List Nat)))(v:ce)(w:cd):Prop:=match o with
 |none=>v=.tuple #[.slice none 0 0,.bool false]
 |some a=>∃u,v=.tuple #[u,.bool true]/\nO n0 w u a
def QK{wp gp mk ms n0:Nat}{G:Gd}{xs:List Sx}{U:Int}{w:cd}{A:Nat->Prop}(h:kU wp gp mk ms G xs U w)(hA:∀b,A b->b<w.heap.size)(hp:ku A mk ms G w)(ax:n0<=mk)(hn:n0<=ms)(aU:∀x∈xs,tZ 100000 x){q:Nat}(hf:q<=fB G):
 Calls V.prog 117 #[cK wp,.int .i64 q] w (qa λv w'=>MA n0 mk ms G A w w'/\U0 w.heap.size (z7 G (iU G xs q)) v w'):=by
 have ay:=h.g.tY;have h5:=ay.many;have az:=h.len;refine go V.func117 Tryz.ntmps117 ?_;refine ck (zS h hA hp ax hn aU hf) ?_;rintro v w1 ⟨m1,pb,rfl,hP⟩;have hN:∀b,F3 w.heap.size w1 b->b<w1.heap.size:=λb m=>by obtain⟨_,_,_,_,m⟩:=m;exact cF.lt_of_heap m
 refine fG (F9 hP hN) (λw' h=>.inr ⟨rfl,h⟩) ?_;rintro v w2 ⟨e2,y,rfl,W⟩;have hD:∀d∈(iU G xs q).opn,d<G.doors.length:=λd hd=>by rw[<-az];exact kh hd
 have z:=FZ ay az q;have aj:=Ge (iU G xs q);unfold z7;obtain⟨D,aV⟩:∃D,D=iU G xs q:=⟨_,rfl⟩;rw[<-aV]at hP W hD z aj⊢;obtain⟨ya,yl,yc,ym,yk,yb⟩:=y;refine eF λw3 sb e3 aW aA=>cZ aA λw4 k4 E=>?_;have E:w4.heap[sb]? =some (.cells #[.slice ya yl yc,.int .i64 ym,.int .i64 yk,.bool yb] 199):=E;have al:Ext w2 w4:=e3.cy k4 aW;have am:Ext w1 w4:=e2.trans al;have s2:=e2.size;have bm:=am.size;cases hq:gm D with
 |none=>
  rw[hq]at W;have W:(⟨ya,yl,yc,ym,yk,yb⟩:SV)=⟨none,0,0,0,0,false⟩:=W;injection W with _ _ _ _ _ W;subst W;exact cu (ci E rfl) (eu (iR rfl (.inl ⟨_,rfl,(xP n0 mk ms G A).trans _ _ _ m1 (am.ma _ _ _ _ _),rfl⟩)))
 |some s=>
  obtain⟨l,mm,nn⟩:=s;rw[hq]at W aj;obtain⟨r,rfl,bn,aX⟩:=aj;obtain⟨y1,y2,y3,y4,y5⟩:=W;simp only at y1 y2 y3 y4 y5;subst y3;have y4:yl=r.length:=by rw[y4];simp
  subst y4
  have aY:∀i (T:i<r.length),∃b,ya=some ⟨b,0,none⟩/\w1.heap.size<=b/\w2.cell? ⟨b,i,none⟩=some (.int .i64 r[i]):=λi T=>by
   rcases y5 with⟨h0,_⟩|⟨_,b,g1,g2,g3,_,fz,_,g4⟩;have:=cM List.length h0;simp at this;rw[this]at T;simp at T;refine⟨b,g2,g1,?_⟩;simp only[World.cell?,g4];have:(fE (r.map Int.ofNat) yc)[i]? =some (.int .i64 r[i]):=by unfold fE;simp[List.getElem?_append,T]
   simpa using this
  clear y5;refine cu (ci E rfl) (eu (iG rfl (eF λw5 M e5 bo ad=>?_)));have aZ:QI M L0 w5:=ad;have aB:=am.trans e5;have a0:=al.trans e5;have bp:=cF.lt_of_heap ad;have a1:eV (F3 w.heap.size w1) pb D w5:=hP.same λb m=>aB.block b (hN b m);obtain⟨wk,u1,u2,fz,_,ae,a2,aC⟩:=a1.at_;have F:∀{b:Nat},F3 w.heap.size w1 b->¬b=M:=λm e=>by have:=hN _ m;omega
  have c1:∀{w'},cN (λx=>x=M) w5 w'->w'.cell? ⟨pb,1,none⟩=some u1:=λk=>k.ef (by simp only[World.cell?,ae];rfl) (F hP.lt);have c2:∀{w'},cN (λx=>x=M) w5 w'->w'.cell? ⟨pb,2,none⟩=some u2:=λk=>k.ef (by simp only[World.cell?,ae];rfl) (F hP.lt);have bq:=cF.lt_of_heap E;refine cu (ci (e5.at_ E) rfl) (cD ?_);refine ei (n:=r.length) (λi=>[(0,cK wp),(6,cK pb),(8,cK M),(29,.slice ya r.length yc),(30,.int .i64 r.length),(31,.int .i64 i)]) (λi w'=>cN (λx=>x=M) w5 w'/\QI M (mg D r i) w') ⟨⟨rfl,rfl,rfl,rfl,rfl,rfl,trivial⟩,cN.refl _ _,aZ⟩ ?_ ?_ ?_;rintro i w6 T hJ;exact cV ⟨rfl,rfl,⟨rfl,rfl,rfl,rfl,rfl,rfl,trivial⟩,hJ⟩;rintro i w6 T ⟨k6,X⟩;have br:i<5:=by have:=z.five;omega
  obtain⟨an,rfl,bl,aD⟩:=aY i T;have af:w6.cell? ⟨an,i,none⟩=some (.int .i64 r[i]):=k6.ef (a0.cell aD) (λ(e:an=M)=>by have:=nF aD;have:=al.size;omega);obtain⟨n,aE⟩:∃n,n=r[i]:=⟨_,rfl⟩;have B:=aX i T;rw[<-aE]at af B;refine dI i T (cu (by rw[cB];exact af) ?_);have N:i<D.lists.length:=by rw[z.len];omega
  have Y:i<D.opn.length:=by omega
  obtain⟨b2,bs,ui,a3,aF,a4,a5⟩:=aC.at_ i N;have aG:dz D i=D.lists[i]:=by unfold dz;rw[getD_eq N]
  rw[aG]at B;obtain⟨b3,bt,bu,a6,aH,a7,O⟩:=a5.at_ n B;obtain⟨a8,a9,ao⟩:=O.len;obtain⟨t,C⟩:∃t,t=D.lists[i][n]:=⟨_,rfl⟩;rw[<-C]at O ao;have aI:∀s∈t,s<6:=by rw[C];exact z.shift _ (dt N) _ (dt B)
  have aJ:t.length<=65536:=by rw[C];exact z.long _ (dt N) _ (dt B)
  refine cu (c2 k6) ?_;rw[a3];refine dI i N (cu (by rw[cB];exact k6.ef a4 (F aF)) ?_);rw[a6];refine dI n B (cu (by rw[cB];exact k6.ef a7 (F aH)) ?_);rw[ao];have P:mg D r (i+1)=jz (fh D i) t (mg D r i):=by simp only[mg];rw[aG,getD_eq T,<-aE,getD_eq B,C]
  obtain⟨d,hd⟩:∃d,d=fh D i:=⟨_,rfl⟩;have aK:d=D.opn[i]:=by rw[hd];unfold fh;rw[getD_eq Y]
  have ap:d<5:=by have:=hD d (by rw[aK];exact dt Y);omega
  rw[<-hd]at P;obtain⟨b4,bv,ud,ba,aL,bc,aq⟩:=a2.at_ i Y;have aq:ud=.int .i64 d:=by rw[aK];exact aq
  subst aq;have ag:∀s,s<6->mg D r i s<32:=λs _=>(Aa h5 hD i (by omega) s).1;refine cD ?_;refine ei (n:=t.length) (λj=>[(0,cK wp),(6,cK pb),(8,cK M),(9,.int .i64 i),(29,.slice (some ⟨an,0,none⟩) r.length yc),(30,.int .i64 r.length),(31,.int .i64 i),(45,.slice a8 t.length a9),(46,.int .i64 t.length),(47,.int .i64 j)]) (λj w'=>cN (λx=>x=M) w5 w'/\QI M (jz d (t.take j) (mg D r i)) w') ⟨⟨rfl,rfl,rfl,rfl,rfl,rfl,rfl,rfl,rfl,rfl,trivial⟩,k6,?_⟩ ?_ ?_ ?_;have:jz d (t.take 0) (mg D r i)=mg D r i:=by funext s;simp[jz]
  rw[this];exact X;rintro j w7 H hJ;exact cV ⟨rfl,rfl,⟨rfl,rfl,rfl,rfl,rfl,rfl,rfl,rfl,rfl,rfl,trivial⟩,hJ⟩;rintro j w7 H ⟨k7,Q⟩;obtain⟨b5,bw,us,Z,aM,bd,ar⟩:=O.at_ j H;obtain⟨s,hs⟩:∃s,s=t[j]:=⟨_,rfl⟩;have ar:us=.int .i64 s:=by rw[hs];exact ar
  subst ar;have I:s<6:=by rw[hs];exact aI _ (dt H)
  rw[ao]at Z;injection Z with Z _ bx;subst Z;refine dI j H (cu (by rw[cB];exact k7.ef bd (F aM)) ?_);have aN:jz d (t.take j) (mg D r i) s<32:=CZ ap ag s I;refine cQ cO (pM s 6 I (cG (by rw[cB];exact Q.cell I) (cG (c1 k7) ?_)));rw[ba];refine me i Y (cG (by rw[cB];exact k7.ef bc (F aL)) (ia cO _ (λw8 e8=>yg _ d w8 aN ap) (pM s 6 I λw8 e8=>?_)));have be:QI M (jz d (t.take j) (mg D r i)) w8:=e8.at_ Q;refine TA be s _ I λw9 k9 bf=>cq ⟨⟨rfl,rfl,rfl,rfl,rfl,rfl,rfl,rfl,rfl,rfl,trivial⟩,(k7.trans (e8.keep λ_=>False) (λ_ _ h=>h) λ_ _ h=>h.elim).trans k9 (λ_ _ h=>h) λ_ _ h=>h,?_⟩;have:=BA (L:=mg D r i) ap ag j H (by rw[<-hs];exact I);rw[<-hs]at this;rw[<-this];exact bf;rintro w7 ⟨k7,Q⟩;rw[kX,<-P]at Q;exact cq ⟨⟨rfl,rfl,rfl,rfl,rfl,rfl,trivial⟩,k7,Q⟩;rintro w6 ⟨k6,X⟩;have aJ:(List.map Int.ofNat r).length=r.length:=by simp
  have aO:(List.map Int.ofNat r).map Int.toNat=r:=by simp[yw]
  simp only[aJ,aO];obtain⟨f,aP⟩:∃f,f=mg D r r.length:=⟨_,rfl⟩;rw[<-aP]at X⊢;have bg:∀s,lP G (f s):=λs=>by rw[aP];exact Aa h5 hD _ (by omega) s
  have bh:Ext w1 w6:=aB.cy k6 (by omega);have m6:MA n0 mk ms G A w w6:=(xP n0 mk ms G A).trans _ _ _ m1 (bh.ma _ _ _ _ _);refine dP (vs:=[.int .u8 (f 0),.int .u8 (f 1),.int .u8 (f 2),.int .u8 (f 3),.int .u8 (f 4),.int .u8 (f 5)]) (λj v H=>by rw[cB];exact ci X (by simpa using H)) ?_;have au:∀b,¬cw (.slice none 0 0) b:=λb m=>by obtain⟨_,_,m⟩:=m;cases m
  refine gC (n:=6) (λk v=>[(0,cK wp),(13,v),(66,.agg #[.int .u8 (f 0),.int .u8 (f 1),.int .u8 (f 2),.int .u8 (f 3),.int .u8 (f 4),.int .u8 (f 5)]),(67,.int .i64 k)]) (λk v w'=>iB n0 w w'/\ku (λx=>A x\/cw v x) mk ms G w'/\nO w.heap.size w' v (tP G f k)) (.slice none 0 0) ⟨⟨rfl,rfl,rfl,rfl,trivial⟩,m6.1,(m6.2 hp).more λb m=>m.elim .inl λm=>absurd m (au b),nO.nil _ _⟩ ?_ ?_ ?_;rintro k v w7 hk hJ;exact cV ⟨rfl,rfl,⟨rfl,rfl,rfl,rfl,trivial⟩,hJ⟩;rintro k v w7 hk ⟨m7,aa,ab⟩;have h7:=h.gi m7;have s7:=m7.size;obtain⟨sa,sc,g1,g2,g3,g4⟩:=h7.at_;refine QJ f k hk (cu g1 (ck (zM h7.g (λb m=>m.elim (λm=>by have:=hA b m;omega) λm=>(ab.blk m).2) aa ax hn (bg k)) ?_));rintro v8 w8 ⟨m8,u,b,rfl,bi⟩;have M8:=m7.trans m8.1;obtain⟨a,c,rfl,ah⟩:=bi.rows;obtain⟨J,av⟩:∃J,J=(fJ G (f k)).getD []:=⟨_,rfl⟩;rw[<-av]at ah⊢;have aQ:J.length<=5/\∀l∈J,l.length<=5:=by
   rw[av];cases hw:fJ G (f k)with
   |none=>exact⟨by simp,λl hl=>by cases hl⟩
   |some bz=>exact⟨pY hw,z9 hw⟩
  have bA:=z8 (G:=G) (L:=f) k;refine cD (gC (n:=J.length) (λj v=>[(0,cK wp),(13,v),(14,.int .i64 k),(66,.agg #[.int .u8 (f 0),.int .u8 (f 1),.int .u8 (f 2),.int .u8 (f 3),.int .u8 (f 4),.int .u8 (f 5)]),(67,.int .i64 k),(80,.slice a J.length c),(81,.int .i64 J.length),(82,.int .i64 j)]) (λj v w'=>iB n0 w w'/\ku (λx=>A x\/cw v x) mk ms G w'/\nO w.heap.size w' v (tP G f k++(J.take j).map λl=>(k,l))/\kZ (λx=>A x\/cw v x) w' a J) v ⟨⟨rfl,rfl,rfl,rfl,rfl,rfl,rfl,rfl,trivial⟩,M8,m8.2 aa,by simpa using ab.gi m8.1,ah⟩ ?_ ?_ ?_);rintro j v w9 H hJ;exact cV ⟨rfl,rfl,⟨rfl,rfl,rfl,rfl,rfl,rfl,rfl,rfl,trivial⟩,hJ⟩;rintro j v w9 H ⟨m9,aw,ac,aR⟩;obtain⟨bb,oo,a',c',_,rfl,hc,bj,_⟩:=aR j H;refine dI j H (cu hc (ck (lx bj.n (by have:=aQ.2 _ (dt H);omega)) λu bB hu=>?_));obtain⟨R,hu⟩:=hu;obtain⟨ua,uc,rfl,_,_⟩:=hu.row;have s9:=m9.size;have bC:=R.size;refine dA (.agg #[.int .i64 k,.slice ua J[j].length uc]) (dJ [.int .i64 k,.slice ua J[j].length uc] 29 λaS nb K bD m=>?_);have bk:iB n0 w aS:=m9.trans ((R.trans K).gi n0);have ai:=(ac.ext R).ext K;have S:=(aw.ext R).ext K;have aT:kZ (λx=>A x\/cw v x) aS (some ⟨bb,oo,none⟩) J:=aR.gi (n0:=0) ((R.trans K).gi 0);refine QH (p:=(k,J[j])) ai (by have:=K.size;omega) (cA.ext (hu.low (by omega)) K) m (by simp;omega) λv' bE g1 g2 g3 g4=>cq ⟨v',⟨rfl,rfl,rfl,rfl,rfl,rfl,rfl,rfl,trivial⟩,?_,?_,?_,?_⟩;obtain⟨us,_,q2,_⟩:=ai;exact bk.iS g3 q2 (cz _);exact S.go (λb m=>m.elim (λm=>.inl (.inl m)) λm=>(g4 b m).imp .inr id) (λb o v m hc=>g3.ef hc λhf=>m (.inr hf)) λb o m ho=>g3.fg ho λhf=>by rcases m with rfl|rfl;exact S.ak (.inr hf);exact S.asm (.inr hf)
  rw[gP H,nQ,<-List.append_assoc];exact g1;exact aT.go (λb m=>m.elim (λm=>.inl (.inl m)) λm=>(g4 b m).imp .inr id) λb o v m hc=>g3.ef hc λhf=>m (.inr hf);rintro v w9 ⟨m9,aw,ac,_⟩;rw[kX]at ac;refine cq ⟨v,⟨rfl,rfl,rfl,rfl,trivial⟩,m9,aw,?_⟩;rw[xq,<-av];exact ac;rintro v w7 ⟨m7,aa,ab⟩;exact .inl ⟨_,rfl,⟨m7,λ_=>aa.fewer λb m=>.inl m⟩,_,rfl,ab⟩
def nH{α:Type}(a:α->Nat)(es:List α):Nat->List α
 |0=>es
 |j+1=>match es[j+1]?,es[j]? with
  |some x,some y=>if a x<a y then nH a ((es.set (j+1) y).set j x) j else es
  |_,_=>es
def ly{α:Type}(a:α->Nat)(es:List α):Nat->List α
 |0=>es
 |k+1=>nH a (ly a es k) (k+1)
def pq{α:Type}(a:α->Nat)(es:List α):List α:=ly a es (es.length-1)
theorem B2{α:Type}(a:α->Nat):∀(j:Nat) (es:List α),(nH a es j).length=es.length
 |0,es=>rfl
 |j+1,es=>by simp only[nH];split;split;rw[B2 a j];simp;rfl;rfl
theorem qb{α:Type}(a:α->Nat)(es:List α):∀k,(ly a es k).length=es.length
 |0=>rfl
 |k+1=>by simp only[ly];rw[B2,qb a es k]
theorem B3{α:Type}(c:α->Nat):∀(j:Nat) (es:List α) (x:α),x∈nH c es j->x∈es
 |0,es,x,h=>h
 |j+1,es,x,h=>by simp only[nH]at h;split at h;rename_i a b d e;split at h;have:=B3 c j _ x h;rcases oS this with h|rfl;rcases oS h with h|rfl;exact h;exact nR e;exact nR d;exact h;exact h
theorem tQ{α:Type}(a:α->Nat)(es:List α):∀(k:Nat) (x:α),x∈ly a es k->x∈es
 |0,x,h=>h
 |k+1,x,h=>tQ a es k x (B3 a _ _ x h)
theorem B4{α c:Type}(b:α->Nat)(a:c->Nat)(f:α->c)(d:∀x,a (f x)=b x):∀(j:Nat) (es:List α),nH a (es.map f) j=(nH b es j).map f
 |0,es=>rfl
 |j+1,es=>by
  simp only[nH,mR];cases e:es[j+1]? with
  |none=>rfl
  |some x=>
   cases g:es[j]? with
   |none=>rfl
   |some y=>
    simp only[iX,d];split;rw[<-B4 b a f d j];simp;rfl
theorem Ab{α c:Type}(b:α->Nat)(a:c->Nat)(f:α->c)(d:∀x,a (f x)=b x)(es:List α):∀k,ly a (es.map f) k=(ly b es k).map f
 |0=>rfl
 |k+1=>by simp only[ly];rw[Ab b a f d es k,B4 b a f d]
def Lg{α c:Type}(b:α->Nat)(a:c->Nat)(f:α->c)(d:∀x,a (f x)=b x)(es:List α):pq a (es.map f)=(pq b es).map f:=by unfold pq;rw[kV,Ab b a f d]
structure El where
 s:Nat
 a:Option Addr
 c:Nat
 l:List Nat
def vF(e:El):List ce:=[.int .i64 e.s,.slice e.a e.l.length e.c]
structure pr(sb:Nat)(es:List El)(w:cd):Prop where
 out:∃cs,w.heap[sb]? =some (.cells cs 29)/\es.length*2<=cs.size/\∀k (h:k<es.length) j v,(vF es[k])[j]? =some v->cs[k*2+j]? =some v
section
variable{w:cd}{sb:Nat}{es:List El}
def pr.ext{w':cd}(h:pr sb es w)(e:Ext w w'):pr sb es w':=by obtain⟨a,b,c⟩:=h.out;exact⟨a,e.at_ b,c⟩
def pr.keep{w':cd}{F:Nat->Prop}(h:pr sb es w)(k:cN F w w')(a:¬F sb):pr sb es w':=by obtain⟨b,c,d⟩:=h.out;exact⟨b,k.fg c a,d⟩
def pr.cell(h:pr sb es w)(k:Nat)(a:k<es.length):∀j v,(vF es[k])[j]? =some v->w.cell? ⟨sb,0+k*2+j,none⟩=some v:=λj v b=>by obtain⟨e,c,f,d⟩:=h.out;exact ci c (by rw[cB];exact d k a j v b)
def R6{s:cd->Prop}(h:pr sb es w)(k:Nat)(y:k<es.length)(e:El)(m:∀w',cN (λx=>x=sb) w w'->pr sb (es.set k e) w'->s w'):DR V.prog (Instr.storeAt 29 (.pointer (some ⟨sb,0+k*2,none⟩)) (.agg (vF e).toArray)) w s:=by
 obtain⟨n,o,p,q⟩:=h.out;have z:k*2+2<=n.size:=by have:=oq 2 (show k+1<=es.length by omega);omega
 refine iA o (by show 0+k*2+2<=_;omega) (λw' r b=>m w' r ⟨_,b,by rw[n8];simpa using p,λi t j u a=>?_⟩) (fU (l:=vF e) rfl);have v:j<2:=(gy.1 a).1;rw[nB _ _ _ _ (by show 0+k*2+2<=_;omega)];have c:(Value.agg (vF e).toArray).cells.toList=vF e:=rfl;rw[c];have d:(vF e).length=2:=rfl;rw[d];have f:i<es.length:=by simpa using t
 by_cases g:i=k;subst g;rw[List.getElem_set_self]at a;rw[cx (by omega),show i*2+j-(0+i*2)=j by omega];exact a;rw[List.getElem_set_ne (by omega)]at a;rw[cr (by omega)];exact q i f j u a
end
def QL(s t:Nat)(a b:Option Addr)(l l' c c':Nat)(w:cd)(o:s<=1000000)(p:t<=1000000):Calls V.prog 157 #[.agg #[.int .i64 s,.slice a l c],.agg #[.int .i64 t,.slice b l' c']] w (fy λv w'=>v=.int .i64 ((s:Int)-t)/\Ext w w'):=by refine go V.func157 Tryz.ntmps157 ?_;refine fo λi j k m e=>fo λn f g h d=>?_;have e:i.heap[j]? =some (.cells #[.int .i64 s,.slice a l c] 29):=e;have d:n.heap[f]? =some (.cells #[.int .i64 t,.slice b l' c'] 29):=d;exact cu (ci (g.at_ e) rfl) (cu (ci d rfl) (fx ⟨_,rfl,rfl,k.trans g⟩))
def H8:ce:=.func (.func 157) #[] #[]
def B5{l c:Nat}{es:List El}{w:cd}(h:pr l es w)(hn:0<es.length)(Z:es.length<=1000)(hs:∀e∈es,e.s<=1000000):
 Calls V.prog 200 #[.slice (some ⟨l,0,none⟩) es.length c,.int .i64 0,.int .i64 es.length,H8] w (fy λv w'=>cN (λx=>x=l) w w'/\pr l (pq El.s es) w'):=by
 refine go V.func200 Tryz.ntmps200 ?_;refine cq ?_;refine dZ (es.length-1) (λk (_:Unit)=>[(0,.slice (some ⟨l,0,none⟩) es.length c),(1,.int .i64 0),(2,.int .i64 es.length),(3,H8),(8,.int .i64 (k+1:Nat))]) (λk _ w'=>cN (λx=>x=l) w w'/\pr l (ly El.s es k) w') () ⟨⟨rfl,rfl,rfl,rfl,rfl,trivial⟩,cN.refl _ _,h⟩ ?_;rintro k _ w1 hk ⟨k1,R⟩;have L:(ly El.s es k).length=es.length:=qb _ _ _;refine cV ⟨λM=>?_,λB=>?_⟩;have M:k+1<es.length:=by have:=cY M;omega
 obtain⟨u,A⟩:∃u,u=ly El.s es k:=⟨_,rfl⟩;have C:∀x∈u,x.s<=1000000:=λx K=>hs x (by rw[A]at K;exact tQ _ _ _ _ K);rw[<-A]at R L;refine dZ (k+1) (λt (g:List El)=>[(0,.slice (some ⟨l,0,none⟩) es.length c),(1,.int .i64 0),(2,.int .i64 es.length),(3,H8),(8,.int .i64 (k+1:Nat)),(9,.int .i64 (k+1-t:Nat))]) (λt g w'=>cN (λx=>x=l) w w'/\pr l g w'/\g.length=es.length/\(∀x∈g,x.s<=1000000)/\nH El.s g (k+1-t)=nH El.s u (k+1)) u ⟨⟨rfl,rfl,rfl,rfl,rfl,rfl,trivial⟩,k1,R,L,C,rfl⟩ ?_;rintro t g w2 ht ⟨k2,Q,S,D,E⟩;obtain⟨j,hj⟩:∃j,j=k+1-t:=⟨_,rfl⟩;rw[<-hj]at E⊢;have stop:∀p,Ext w2 p->nH El.s g j=g->cN (λx=>x=l) w p/\pr l (ly El.s es (k+1)) p:=λp o T=>by refine⟨k2.trans (o.keep λ_=>False) (λ_ _ h=>h) λ_ _ h=>h.elim,?_⟩;simp only[ly];rw[<-A,<-E,T];exact Q.ext o
 refine cQ cO (FB ⟨λq=>?_,λq=>?_⟩);have q:0<j:=by have:=cY q;omega
 obtain⟨i,rfl⟩:∃i,j=i+1:=⟨j-1,by omega⟩;have F:i+1<g.length:=by omega
 have G:i<g.length:=by omega
 obtain⟨x,K⟩:∃x,x=g[i+1]:=⟨_,rfl⟩;obtain⟨y,U⟩:∃y,y=g[i]:=⟨_,rfl⟩;have d:=Q.cell (i+1) F;have f:=Q.cell i G;rw[<-K]at d;rw[<-U]at f;have N:x.s<=1000000:=D x (by rw[K];exact dt _);have O:y.s<=1000000:=D y (by rw[U];exact dt _);have n:nH El.s g (i+1)=if x.s<y.s then nH El.s ((g.set (i+1) y).set i x) i else g:=by simp only[nH];rw[ew F,ew G,<-K,<-U]
 refine kK (i+1) 2 (by omega) (dx (.agg (vF x).toArray) (λp o=>dP (vs:=vF x) (λm v H=>o.cell (d m v H)) ⟨rfl,Ext.refl _⟩) (vX (kK i 2 (by omega) (dx (.agg (vF y).toArray) (λp o=>dP (vs:=vF y) (λm v H=>o.cell (f m v H)) ⟨rfl,Ext.refl _⟩) (je (.int .i64 ((x.s:Int)-y.s)) (λp o=>QL x.s y.s _ _ _ _ _ _ p N O) (RH λp o=>⟨λI=>?_,λI=>?_⟩))) (by omega))));have I:x.s<y.s:=by have:=cY I;omega
 rw[cx I]at n;have h3:=Q.ext o;have k3:cN (λx=>x=l) w p:=k2.trans (o.keep λ_=>False) (λ_ _ h=>h) λ_ _ h=>h.elim;refine fV 15 cO (gu (λx=>x=l)) (λa b h=>h.keep _) ?_;refine .exact (.int .i64 ((i+1:Nat)-1)) (λr _=>fx ⟨rfl,Ext.refl _⟩) (.exact (.int .i64 ((i+1:Nat)-1)) (λr _=>fx ⟨rfl,Ext.refl _⟩) (.exact (.pointer (some ⟨l,0+i*2,none⟩)) (λr _=>fF i 2 (by omega) ⟨rfl,Ext.refl _⟩ (by omega)) ?_));refine .C3 rfl (.agg (vF y).toArray) (λr J=>dP (vs:=vF y) (λm v H=>J.cell (o.cell (f m v H))) ⟨rfl,Ext.refl _⟩) (.exact (.pointer (some ⟨l,0+(i+1)*2,none⟩)) (λr _=>fF (i+1) 2 (by omega) ⟨rfl,Ext.refl _⟩) (.C3 rfl (.agg (vF x).toArray) (λr J=>dP (vs:=vF x) (λm v H=>J.cell (o.cell (d m v H))) ⟨rfl,Ext.refl _⟩) (.exact (.pointer (some ⟨l,0+(i+1)*2,none⟩)) (λr _=>fF (i+1) 2 (by omega) ⟨rfl,Ext.refl _⟩) ?_)));refine .xd (λ_ r=>pr l (g.set (i+1) y) r) (λ_ a b h e=>h.ext e) (λr J=>R6 (h3.ext J) (i+1) F y λw5 W X=>⟨X,W⟩) ?_;refine .exact (.pointer (some ⟨l,0+i*2,none⟩)) (λr _=>fF i 2 (by omega) ⟨rfl,Ext.refl _⟩ (by omega)) ?_;intro r J Y;have Y:pr l (g.set (i+1) y) r:=Y;refine R6 Y i (by simpa using G) x λw5 W X=>fx ⟨by omega,(g.set (i+1) y).set i x,⟨rfl,rfl,rfl,rfl,rfl,?_,trivial⟩,(k3.trans J (λ_ _ h=>h) λ_ _ h=>h).trans W (λ_ _ h=>h) λ_ _ h=>h,X,by simpa using S,λz P=>?_,?_⟩;show some (Value.int .i64 (((i+1:Nat):Int)-1))=some (.int .i64 ((k+1-(t+1):Nat)));rw[show((i+1:Nat):Int)-1=((k+1-(t+1):Nat):Int) by omega];rcases oS P with P|rfl;rcases oS P with P|rfl;exact D z P;exact O;exact N;rw[show k+1-(t+1)=i by omega,<-n,E];have I:¬x.s<y.s:=by have:=dQ I;omega
 rw[cr I]at n;exact cq ⟨by omega,(),⟨rfl,rfl,rfl,rfl,rfl,trivial⟩,stop p o n⟩;have q:j=0:=by have:=dQ q;omega
 subst q;exactλp o=>iG rfl (cq ⟨by omega,(),⟨rfl,rfl,rfl,rfl,rfl,trivial⟩,stop p o rfl⟩);have B:k=es.length-1:=by have:=dQ B;omega
 subst B;exact⟨_,rfl,k1,R⟩
def tR(n0:Nat)(w:cd)(v:ce)(es:List El):Prop:=(es=[]/\∃a c,v=.slice a 0 c)\/∃b c,n0<=b/\v=.slice (some ⟨b,0,none⟩) es.length c/\pr b es w
def rR(v:ce)(a:Nat)(w:cd)(b:a<=1000):Calls V.prog 200 #[v,.int .i64 a,.int .i64 a,H8] w (fy λv w'=>w'=w):=by refine go V.func200 Tryz.ntmps200 ?_;refine cq ?_;refine dZ 0 (λk (_:Unit)=>[(2,.int .i64 a),(8,.int .i64 ((a:Int)+1))]) (λk _ w'=>w'=w) () ⟨⟨rfl,rfl,trivial⟩,rfl⟩ ?_;rintro k _ w' c rfl;exact cV (iG (by simp;omega) ⟨_,rfl,rfl⟩)
def H9{n0:Nat}{v:ce}{es:List El}{w:cd}(h:tR n0 w v es)(u:es.length<=20)(y:∀e∈es,e.s<=1000000):
 Calls V.prog 184 #[v,.int .i64 es.length,H8] w (fy λ_ w'=>cN (λx=>n0<=x) w w'/\tR n0 w' v (pq El.s es)):=by
 refine go V.func184 Tryz.ntmps184 ?_;have g:(pq El.s es).length=es.length:=qb _ _ _;refine dZ 1 (λk (_:Unit)=>[(0,v),(1,.int .i64 es.length),(2,H8),(6,.int .i64 20),(7,.int .i64 (20*k:Nat)),(8,.int .i64 (20*k+20:Nat))]) (λk _ w'=>cN (λx=>n0<=x) w w'/\(k=0->tR n0 w' v es)/\(k=1->es.length=20/\tR n0 w' v (pq El.s es))) () ⟨⟨rfl,rfl,rfl,rfl,rfl,rfl,trivial⟩,cN.refl _ _,λ_=>h,λh=>by omega⟩ ?_;rintro k _ n m ⟨i,z,o⟩;refine sW ⟨λb=>?_,λb=>?_⟩;have b:20*k+20<=es.length:=by have:=cY b;omega
 obtain rfl:k=0:=by omega
 rcases z rfl with⟨rfl,_⟩|⟨j,c,p,rfl,q⟩;simp at b;have f:es.length=20:=by omega
 have A:=B5 (c:=c) q (by omega) (by omega) y;rw[f]at A⊢;refine ck A ?_;rintro _ d ⟨r,t⟩;refine cq ⟨by omega,(),⟨rfl,rfl,rfl,rfl,rfl,rfl,trivial⟩,i.trans r (λ_ _ h=>h) λx _ (B:x=j)=>by omega,λh=>by omega,λ_=>⟨rfl,.inr ⟨j,c,p,by rw[g,f],t⟩⟩⟩;have b:¬20*k+20<=es.length:=by have:=dQ b;omega
 have C:∀{Q:QW} {D:L} {d:cd},cN (λx=>n0<=x) w d/\tR n0 d v (pq El.s es)->(∀l w',cN (λx=>n0<=x) w w'/\tR n0 w' v (pq El.s es)->Q .normal l w')->True:=λ_ _=>trivial;obtain rfl|rfl:k=0\/k=1:=by omega
 rcases z rfl with⟨rfl,a,c,rfl⟩|⟨j,c,p,rfl,q⟩;refine ck (rR _ 0 n (by omega)) ?_;rintro _ d rfl;refine dZ 0 (λk (_:Unit)=>[(1,.int .i64 0),(6,.int .i64 20)]) (λk _ w'=>w'=d) () ⟨⟨rfl,rfl,trivial⟩,rfl⟩ ?_;rintro k _ w' m rfl;exact cV (iG rfl ⟨_,rfl,i,.inl ⟨rfl,a,c,rfl⟩⟩);rcases nS es.length with f|f;obtain rfl:=l9 f;refine ck (rR _ 0 n (by omega)) ?_;rintro _ d rfl;refine dZ 0 (λk (_:Unit)=>[(1,.int .i64 0),(6,.int .i64 20)]) (λk _ w'=>w'=d) () ⟨⟨rfl,rfl,trivial⟩,rfl⟩ ?_;rintro k _ w' m rfl;exact cV (iG rfl ⟨_,rfl,i,.inl ⟨rfl,_,c,rfl⟩⟩);refine ck (B5 (c:=c) q f (by omega) y) ?_;rintro _ d ⟨r,t⟩;refine dZ 0 (λk (_:Unit)=>[(1,.int .i64 es.length),(6,.int .i64 20)]) (λk _ w'=>w'=d) () ⟨⟨rfl,rfl,trivial⟩,rfl⟩ ?_;rintro k _ w' m rfl;exact cV (iG (by simp;omega) ⟨_,rfl,i.trans r (λ_ _ h=>h) λx _ (B:x=j)=>by omega,.inr ⟨j,c,p,by rw[g],t⟩⟩);obtain⟨f,o⟩:=o rfl;rw[f];refine ck (rR _ 20 n (by omega)) ?_;rintro _ d rfl;refine dZ 0 (λk (_:Unit)=>[(1,.int .i64 20),(6,.int .i64 20)]) (λk _ w'=>w'=d) () ⟨⟨rfl,rfl,trivial⟩,rfl⟩ ?_;rintro k _ w' m rfl;exact cV (iG rfl ⟨_,rfl,i,o⟩)
def tR.v_{n0:Nat}{v:ce}{es:List El}{w:cd}(h:tR n0 w v es):∃a c,v=.slice a es.length c:=by rcases h with⟨rfl,a,c,rfl⟩|⟨b,c,_,rfl,_⟩;exact⟨a,c,rfl⟩;exact⟨_,c,rfl⟩
def Oo{n0:Nat}{v:ce}{es:List El}{w:cd}(h:tR n0 w v es)(b:es.length<=20)(d:∀e∈es,e.s<=1000000):
 Calls V.prog 156 #[v,H8] w (fy λ_ w'=>cN (λx=>n0<=x) w w'/\tR n0 w' v (pq El.s es)):=by
 obtain⟨a,c,rfl⟩:=h.v_;refine go V.func156 Tryz.ntmps156 ?_;refine cD (ck (H9 h b d) ?_);rintro _ g f;exact⟨_,rfl,f⟩
def Yh(x:Sx):ce:=.agg (kY x).toArray
def Ia{wp gp mk ms wb:Nat}{G:Gd}{xs:List Sx}{b:Int}{w:cd}(h:kU wp gp mk ms G xs b w)(f:w.heap[wb]? =some (.cells #[cK wp] 133))(x:Sx):Calls V.prog 160 #[Yh x,cK wb] w (fy λv w'=>v=.bool (!gA G.tries x)/\Ext w w'):=by obtain⟨o,p,i,q,r,s⟩:=h.at_;refine go V.func160 Tryz.ntmps160 ?_;refine fo λk l d m a=>?_;have a:k.heap[l]? =some (.cells (kY x).toArray 166):=a;refine cQ cO (cG (ci (d.at_ f) rfl) (cG (d.cell i) (dx (Yh x) (λe c=>dP (vs:=kY x) (λj v n=>by rw[cB];exact ci (c.at_ a) (by simpa using n)) ⟨rfl,Ext.refl _⟩) (je (.bool (gA G.tries x)) (λe c=>uL (h.g.ext (d.trans c)) x) (rE λe c=>⟨_,rfl,rfl,d.trans c⟩)))))
def qc(p:Sx->Bool):List Sx->Nat->Int
 |[],_=> -1
 |y::r,i=>if p y then i else qc p r (i+1)
def Gf(p:Sx->Bool)(l:List Sx)(k:Nat)(a:k<l.length):qc p (l.drop k) k=if p l[k]then(k:Int)else qc p (l.drop (k+1)) (k+1):=by rw[qH a];rfl
theorem Ac(p:Sx->Bool):∀(l:List Sx) (i:Nat),decide (0<=qc p l i)=l.any p
 |[],_=>rfl
 |y::r,i=>by
  simp only[qc,List.any_cons];by_cases h:p y=true;simp[h];have h:p y=false:=by simpa using h
  simpa[h]using Ac p r (i+1)
def Lh{wp gp mk ms wb:Nat}{G:Gd}{xs:List Sx}{d:Int}{w:cd}(h:kU wp gp mk ms G xs d w)(p:w.heap[wb]? =some (.cells #[cK wp] 133)){ys:List Sx}{a:Option Addr}{c:Nat}(q:tI w a ys)(l:ys.length<=100000):
 Calls V.prog 159 #[.slice a ys.length c,.func (.func 160) #[] #[cK wb]] w (fy λv w'=>v=.bool (ys.any λx=>!gA G.tries x)/\Ext w w'):=by
 have g:Calls V.prog 185 #[.slice a ys.length c,.func (.func 160) #[] #[cK wb]] w (fy λv w'=>v=.int .i64 (qc (λx=>!gA G.tries x) ys 0)/\Ext w w'):=by refine go V.func185 Tryz.ntmps185 ?_;refine cD (ei (n:=ys.length) (λk=>[(0,.slice a ys.length c),(1,.func (.func 160) #[] #[cK wb]),(7,.int .i64 ys.length),(8,.int .i64 k)]) (λk w'=>Ext w w'/\qc (λx=>!gA G.tries x) ys 0=qc (λx=>!gA G.tries x) (ys.drop k) k) ⟨⟨rfl,rfl,rfl,rfl,trivial⟩,Ext.refl _,rfl⟩ ?_ ?_ ?_);rintro k j i r;exact cV ⟨rfl,rfl,⟨rfl,rfl,rfl,rfl,trivial⟩,r⟩;rintro k j i ⟨e,f⟩;obtain⟨b,o,rfl,s⟩:=(q.ext e) k i;rw[Gf _ _ _ i]at f;refine fF k 8 i (dP (vs:=kY ys[k]) s (dq (v0:=.bool (!gA G.tries ys[k])) (Ia (h.ext e) (e.at_ p) ys[k]) λy m=>⟨λt=>?_,λu=>?_⟩));rw[cx t]at f;exact⟨_,rfl,by rw[f];rfl,e.trans m⟩;rw[cr (by rw[u];simp)]at f;exact cq ⟨⟨rfl,rfl,rfl,rfl,trivial⟩,e.trans m,f⟩;rintro j ⟨e,f⟩;exact⟨_,rfl,by rw[f];simp[qc],e⟩
 refine go V.func159 Tryz.ntmps159 ?_;exact dq g λj e=>n6 ⟨_,rfl,by rw[<-Ac _ ys 0];rfl,e⟩
def im(T:Int)(sh:Nat):List Sx->List Nat->Option (List Sx)
 |xs,[]=>some xs
 |xs,d::r=>if tH (xs.getD d oe) (sh/2)||gA T (xs.getD d oe)then none else im T sh (xs.set d (iJ (xs.getD d oe) sh false)) r
def Li(f:Nat->Int)(s:Nat)(v:Int):Nat->Int:=λx=>if x=s then v else f x
def iM(G:Gd)(canv:Int):List Sx->(Nat->Int)->List (Nat×List Nat)->Option (List Sx)
 |xs,_,[]=>some xs
 |xs,a,p::r=>if canv<a p.1+1\/G.minutes<dF G p.2 then none else match im G.tries p.1 xs p.2 with
  |none=>none
  |some xs'=>iM G canv xs' (Li a p.1 (a p.1+1)) r
def sq(G:Gd)(xs:List Sx)(canv:Int)(ps:List (Nat×List Nat)):Bool:=match iM G canv xs (λ_=>0) (pq Prod.fst ps)with
 |none=>false
 |some a=>!a.any λx=>!gA G.tries x
def xS(T:Int)(sh:Nat)(xs:List Sx)(l:List Nat)(k:Nat)(a:k<l.length):im T sh xs (l.drop k)=if tH (xs.getD l[k] oe) (sh/2)||gA T (xs.getD l[k] oe)then none else im T sh (xs.set l[k] (iJ (xs.getD l[k] oe) sh false)) (l.drop (k+1)):=by rw[qH a];rfl
def xT(G:Gd)(canv:Int)(xs:List Sx)(a:Nat->Int)(ps:List (Nat×List Nat))(k:Nat)(b:k<ps.length):iM G canv xs a (ps.drop k)=if canv<a ps[k].1+1\/G.minutes<dF G ps[k].2 then none else match im G.tries ps[k].1 xs ps[k].2 with
 |none=>none
 |some xs'=>iM G canv xs' (Li a ps[k].1 (a ps[k].1+1)) (ps.drop (k+1)):=by
 rw[qH b];rfl
def tZ.le{k m:Nat}{x:Sx}(h:tZ k x)(d:k<=m):tZ m x:=by obtain⟨a,b,c⟩:=h;refine⟨⟨a.1,by omega⟩,⟨b.1,by omega⟩,c.1,by omega⟩
theorem xr{α:Type}{P:Nat->α->Prop}:∀(n:Nat),(∀k,k<n->∃x,P k x)->∃l:List α,l.length=n/\∀k (h:k<l.length),P k l[k]
 |0,_=>⟨[],rfl,λk b=>by simp at b⟩
 |n+1,h=>by
  obtain⟨l,c,d⟩:=xr n λk b=>h k (by omega);obtain⟨x,e⟩:=h n (by omega);refine⟨l++[x],by simp[c],λk b=>?_⟩;rcases eA k l.length with a|f;rw[lI a];exact d k a;obtain rfl:k=n:=by simp at b;omega
  have:(l++[x])[k]=x:=by simp[c]
  rw[this];exact e
theorem wB:∀es:List El,(es.flatMap vF).length=es.length*2
 |[]=>rfl
 |x::r=>by have:=wB r;simp[vF,this];omega
theorem wC:∀(es:List El) (k:Nat) (a:k<es.length) (j:Nat) (v:ce),(vF es[k])[j]? =some v->(es.flatMap vF)[k*2+j]? =some v
 |x::r,0,_,j,v,h=>by have b:j<(vF x).length:=(gy.1 h).1;simp only[ky,Nat.zero_mul,cB];rw[kz b];exact h
 |x::r,k+1,a,j,v,h=>by have c:=wC r k (by simpa using a) j v (by simpa using h);have d:(vF x).length=2:=rfl;simp only[ky];rw[mQ (by omega),d,show(k+1)*2+j-2=k*2+j by omega];exact c
def Lj(e:El):Nat×List Nat:=(e.s,e.l)
def wA.Zz{w:cd}{a:Option Addr}{ps:List (Nat×List Nat)}(h:wA w a ps):∃es:List El,es.map Lj=ps/\(∀e∈es,eO w e.a e.l/\e.l.length<=e.c)/\jA w a (es.flatMap vF):=by
 obtain⟨es,y,m⟩:=xr (P:=λk (e:El)=>∃(f:k<ps.length),Lj e=ps[k]/\eO w e.a e.l/\e.l.length<=e.c/\∃b o,a=some ⟨b,o,none⟩/\∀j v,(vF e)[j]? =some v->w.cell? ⟨b,o+k*2+j,none⟩=some v) ps.length λk f=>by
  obtain⟨b,o,z,A,n,p,B,C,D⟩:=h k f;refine⟨⟨ps[k].1,z,A,ps[k].2⟩,f,rfl,C,D,b,o,n,λj v d=>?_⟩;match j,d with
  |0,d=>cases d;exact p
  |1,d=>cases d;exact B
 refine⟨es,?_,λe E=>?_,?_⟩;apply List.ext_getElem;simpa using y;intro i g q;rw[List.getElem_map];exact(m i (by simpa using g)).2.1;obtain⟨i,F,rfl⟩:=List.getElem_of_mem E;obtain⟨_,_,n,p,_⟩:=m i F;exact⟨n,p⟩;rcases es with _|⟨x,r⟩;exact .inl rfl;obtain⟨_,_,_,_,b,o,rfl,_⟩:=m 0 (by simp);refine .inr ⟨b,o,rfl,λj u d=>?_⟩;have G:j<(x::r).length*2:=by rw[<-wB];exact(gy.1 d).1
 have f:j/2<(x::r).length:=by omega
 obtain⟨_,_,_,_,H,I,e,J⟩:=m (j/2) f;obtain⟨rfl,rfl⟩:b=H/\o=I:=by injection e with e;injection e with K L;exact⟨K,L⟩
 have M:j%2<(vF (x::r)[j/2]).length:=by show j%2<2;omega
 have t:=ew M;have g:=wC (x::r) (j/2) f (j%2) _ t;have q:=J (j%2) _ t;have s:j/2*2+j%2=j:=by omega
 rw[s]at g;rw[d]at g;obtain rfl:=cE g;have:o+j/2*2+j%2=o+j:=by omega
 rw[this]at q;exact q
def wA.rI{w:cd}{ps:List (Nat×List Nat)}(h:wA w none ps):ps.length=0:=by rcases ps with _|⟨x,r⟩;rfl;obtain⟨b,o,_,_,e,_⟩:=h 0 (by simp);cases e
theorem wA.gi{n0:Nat}{w w':cd}{a:Option Addr}{ps:List (Nat×List Nat)}(h:wA w a ps)(e:iB n0 w w'):wA w' a ps:=λk c=>by obtain⟨b,o,d,f,g,i,j,l,m⟩:=h k c;exact⟨b,o,d,f,g,e.cell i,e.cell j,l.gi e,m⟩
def Gg{es:List El}{a:Option Addr}{c:Nat}{w:cd}(i:jA w a (es.flatMap vF))(l:a=none->es.length=0)(d:es.length<=1000000):Calls V.prog 155 #[.slice a es.length c] w (fy λv w'=>Ext w w'/\tR w.heap.size w' v es):=by refine(NF a es.length c (es.flatMap vF) w (wB es) l i (λu f=>?_) d).mono ?_;obtain⟨x,_,f⟩:=lJ.1 f;simp[vF]at f;rcases f with rfl|rfl<;>rfl;rintro e w' ⟨v,rfl,g,A,⟨m,rfl⟩|⟨b,n,o,p,rfl,q,r,s,B,t,C⟩⟩;exact⟨_,rfl,g,.inl ⟨l9 m,none,0,rfl⟩⟩;refine⟨_,rfl,g,.inr ⟨b,n,p,rfl,⟨o,q,?_,λk y j v z=>?_⟩⟩⟩;have:([.int .i64 0,.slice none 0 0]:List ce).length=2:=rfl;rw[this]at r;have:=oq 2 s;omega;have h:=wC es k y j v z;rw[t _ (gy.1 h).1];exact h
def QM(a:Nat)(f:Nat->Int)(w:cd):Prop:=w.heap[a]? =some (.cells #[.int .i64 (f 0),.int .i64 (f 1),.int .i64 (f 2),.int .i64 (f 3),.int .i64 (f 4),.int .i64 (f 5)] 178)
def QM.cell{a:Nat}{f:Nat->Int}{w:cd}(h:QM a f w){s:Nat}(b:s<6):w.cell? ⟨a,0+s,none⟩=some (.int .i64 (f s)):=by
 have:s=0\/s=1\/s=2\/s=3\/s=4\/s=5:=by omega
 rcases this with rfl|rfl|rfl|rfl|rfl|rfl<;>exact ci h rfl
def TB{w:cd}{k:cd->Prop}{a:Nat}{f:Nat->Int}(h:QM a f w)(s:Nat)(v:Int)(e:s<6)(b:∀w',cN (λx=>x=a) w w'->QM a (Li f s v) w'->k w'):DR V.prog (Instr.storeAt 3 (.pointer (some ⟨a,0+s,none⟩)) (.int .i64 v)) w k:=by
 have:s=0\/s=1\/s=2\/s=3\/s=4\/s=5:=by omega
 rcases this with rfl|rfl|rfl|rfl|rfl|rfl<;>exact cZ h λw' c d=>b w' c (by unfold QM;rw[d];rfl)
theorem tM.keep{n0:Nat}{w w':cd}{v:ce}{xs:List Sx}{F:Nat->Prop}(h:tM n0 w v xs)(k:cN F w w')(d:∀b,cw v b->¬F b):tM n0 w' v xs:=by rcases h with h|⟨a,c,e,rfl,f⟩;exact .inl h;exact .inr ⟨a,c,e,rfl,f.keep k (d a ⟨_,_,rfl⟩)⟩
theorem tR.keep{n0:Nat}{w w':cd}{v:ce}{es:List El}{F:Nat->Prop}(h:tR n0 w v es)(k:cN F w w')(d:∀b,cw v b->¬F b):tR n0 w' v es:=by rcases h with h|⟨a,c,e,rfl,f⟩;exact .inl h;exact .inr ⟨a,c,e,rfl,f.keep k (d a ⟨_,_,rfl⟩)⟩
def tM.v_{n0:Nat}{w:cd}{v:ce}{xs:List Sx}(h:tM n0 w v xs):∃a c,v=.slice a xs.length c:=by rcases h with⟨rfl,a,c,rfl⟩|⟨b,c,_,rfl,_⟩;exact⟨a,c,rfl⟩;exact⟨_,c,rfl⟩
def tM.WZ{n0:Nat}{w:cd}{v:ce}{xs:List Sx}(h:tM n0 w v xs):∃a c,v=.slice a xs.length c/\tI w a xs:=by rcases h with⟨rfl,a,c,rfl⟩|⟨e,c,_,rfl,b⟩;exact⟨a,c,rfl,λk d=>by simp at d⟩;exact⟨_,c,rfl,b.row⟩
def tM.blk{n0:Nat}{w:cd}{v:ce}{xs:List Sx}(h:tM n0 w v xs)(a:0<xs.length){b:Nat}(d:cw v b):n0<=b/\b<w.heap.size:=by rcases h with⟨rfl,_⟩|⟨g,c,e,rfl,f⟩;simp at a;obtain⟨i,q,_⟩:=f.out;have:=cF.lt_of_heap q;rw[mA (l':=0) (c':=0) d];exact⟨e,this⟩
def Lk{wp gp mk ms:Nat}{G:Gd}{xs:List Sx}{ah canv:Int}{w:cd}(h:kU wp gp mk ms G xs ah w)(a7:∀x∈xs,tZ 100000 x){ps:List (Nat×List Nat)}{pa:Option Addr}{pc:Nat}(hr:wA w pa ps)(bp:ps.length<=20)(aL:∀p∈ps,p.1<6/\p.2.length<=1000/\∀d∈p.2,d<xs.length):
 Calls V.prog 109 #[cK wp,.int .i64 canv,.slice pa ps.length pc] w (fy λv w'=>v=.bool (sq G xs canv ps)/\Ext w w'):=by
 have a8:=h.g.tY;have h5:=a8.many;have bt:=h.len;obtain⟨es,ai,a9,aj⟩:=hr.Zz;have W:es.length=ps.length:=by rw[<-ai];simp
 refine go V.func109 Tryz.ntmps109 ?_;refine fo λw1 wb e1 bu I=>?_;have I:w1.heap[wb]? =some (.cells #[cK wp] 133):=I;have bv:=cF.lt_of_heap I;obtain⟨sa,sc,g1,g2,g3,g4⟩:=h.at_;refine cu (ci I rfl) (cu (e1.cell g2) (ck (uP (g4.ext e1) (by omega)) ?_));rintro dv w2 ⟨e2,aB⟩;refine eF λw3 mb e3 bw au=>?_;have ba:QM mb (λ_=>0) w3:=au;have bx:=cF.lt_of_heap au;have s1:=e1.size;have s2:=e2.size;have aM:=(e1.trans e2).trans e3;have aN:=Gg (c:=pc) (w:=w3) (by rcases aj with H|⟨b,o,q1,q2⟩;exact .inl H;exact .inr ⟨b,o,q1,λj u hj=>aM.cell (q2 j u hj)⟩) (λe=>by subst e;rw[W];exact hr.rI) (by omega);rw[W]at aN;refine ck aN ?_;rintro ev w4 ⟨e4,bb⟩;have aO:∀e∈es,e.s<6:=λe he=>(aL (Lj e) (by rw[<-ai];exact List.mem_map_of_mem he)).1;refine ck (Oo bb (by omega) λe he=>by have:=aO e he;omega) ?_;rintro _ w5 ⟨k5,aC⟩;obtain⟨C,ak⟩:∃C,C=pq El.s es:=⟨_,rfl⟩;rw[<-ak]at aC;have bz:C.length=ps.length:=by rw[ak,<-W];exact qb _ _ _
 have bc:∀e∈C,e∈es:=λe he=>tQ _ _ _ _ (by rw[ak]at he;exact he);have bd:pq Prod.fst ps=C.map Lj:=by rw[ak,<-ai];exact Lg El.s Prod.fst Lj (λx=>rfl) es
 obtain⟨ea,ec,rfl⟩:=aC.v_;have al:Ext w3 w5:=e4.qu k5 λb hb=>hb;have E5:=aM.trans al;obtain⟨da,dc,rfl⟩:=aB.v_;have av:∀b,0<xs.length->cw (.slice da xs.length dc) b->w1.heap.size<=b/\b<w2.heap.size:=λb H hb=>aB.blk H hb
 have X:sq G xs canv ps=match iM G canv xs (λ_=>0) (C.map Lj)with
  |none=>false
  |some be=>!be.any λx=>!gA G.tries x:=by unfold sq;rw[bd]<;>rfl
 have s3:=e3.size;have s4:=e4.size;have s5:=k5.size;refine cD ?_
 refine gC (n:=C.length) (λk (st:List Sx×(Nat->Int))=>[(1,.int .i64 canv),(3,cK wb),(7,.slice da xs.length dc),(8,cK mb),(23,.slice ea C.length ec),(24,.int .i64 C.length),(25,.int .i64 k)])
  (λk st w'=>Ext w w'/\w5.heap.size<=w'.heap.size/\w'.heap[wb]? =some (.cells #[cK wp] 133)/\tM w1.heap.size w' (.slice da xs.length dc) st.1/\QM mb st.2 w'/\tR w3.heap.size w' (.slice ea C.length ec) C/\st.1.length=xs.length/\(∀x∈st.1,tZ (100000+1000*k) x)/\(∀s,0<=st.2 s/\st.2 s<=k)/\iM G canv xs (λ_=>0) (C.map Lj)=iM G canv st.1 st.2 ((C.map Lj).drop k))
  (xs,λ_=>0) ⟨⟨rfl,rfl,rfl,rfl,rfl,rfl,rfl,trivial⟩,E5,cz _,((e2.trans e3).trans al).at_ I,aB.keep ((e3.trans al).keep λ_=>False) (λ_ _ h=>h),al.at_ ba,aC,rfl,a7,λs=>by simp,rfl⟩ ?_ ?_ ?_
 rintro k st w6 hk hJ;exact cV ⟨rfl,rfl,⟨rfl,rfl,rfl,rfl,rfl,rfl,rfl,trivial⟩,hJ⟩;rintro k ⟨ys,t⟩ w6 hk ⟨E6,s6,Y,Z,aD,aP,P,aE,J,f⟩;simp only at Z aD P aE J f;rcases aP with⟨h0,_⟩|⟨eb,bA,bf,K,aF⟩;rw[h0]at hk;simp at hk;injection K with K _ aa;subst K;subst aa;obtain⟨e,he⟩:∃e,e=C[k]:=⟨_,rfl⟩;have L:e∈es:=bc e (by rw[he];exact dt _);have aQ:=aF.cell k hk;rw[<-he]at aQ;have z:=aO e L;obtain⟨aR,bB⟩:=a9 e L;obtain⟨_,aS,am⟩:=aL (Lj e) (by rw[<-ai];exact List.mem_map_of_mem L);have aS:e.l.length<=1000:=aS;have am:∀d∈e.l,d<xs.length:=am;have bg:k<(C.map Lj).length:=by simpa using hk
 rw[xT G canv ys t _ k bg]at f;have bh:(C.map Lj)[k]=(e.s,e.l):=by rw[List.getElem_map,<-he];rfl
 rw[bh]at f;simp only at f;refine fF k 2 hk (dP (vs:=vF e) aQ (eF λw7 xb e7 aT aU=>cZ aU λw8 k8 an=>?_));have an:w8.heap[xb]? =some (.cells #[.int .i64 e.s,.slice e.a e.l.length e.c] 29):=an;have Q:Ext w6 w8:=e7.cy k8 aT;have bC:eb<w6.heap.size:=by obtain⟨cs,q,_⟩:=aF.out;exact cF.lt_of_heap q
 have aV:QM mb t w8:=Q.at_ aD;refine cu (ci an rfl) (rC e.s 6 z (cu (aV.cell z) (cq (rC e.s 6 z (TB aV e.s (t e.s+1) z λw9 k9 aG=>?_)) (by have:=J e.s;omega))));have E9:Ext w w9:=(E6.trans Q).cy k9 (by omega);have ab:w9.heap[wb]? =some (.cells #[cK wp] 133):=k9.fg (Q.at_ Y) (by omega);have aH:w9.heap[xb]? =some (.cells #[.int .i64 e.s,.slice e.a e.l.length e.c] 29):=k9.fg an (by omega);have bi:∀b,0<xs.length->cw (.slice da xs.length dc) b->¬b=mb:=λb H hb=>by have:=av b H hb;omega
 have bj:tM w1.heap.size w9 (.slice da xs.length dc) ys:=by rcases nS xs.length with H|H;have hy:ys=[]:=l9 (P.trans H);rw[hy,H];exact .inl ⟨rfl,_,_,rfl⟩;exact(Z.keep (Q.keep λ_=>False) λ_ _ h=>h).keep k9 λb hb=>bi b H hb
 have bk:pr eb C w9:=(aF.ext Q).keep k9 (by omega);have aI:=h.ext E9;obtain⟨bD,bE,z1,z2,z3,z4⟩:=aI.at_;obtain⟨r,E⟩:∃r,r=Li t e.s (t e.s+1):=⟨_,rfl⟩;rw[<-E]at aG f;have bl:r e.s=t e.s+1:=by rw[E];unfold Li;rw[cx rfl]
 have aW:∀s,0<=r s/\r s<=(k+1:Nat):=λs=>by rw[E];unfold Li;have:=J s;have:=J e.s;split<;>omega
 have s9:=Q.size;have bF:=k9.size;have aX:∀w',Ext w9 w'->iM G canv xs (λ_=>0) (C.map Lj)=none->∃v,Ending.returned (one [.bool false])=.returned v/\v=.bool (sq G xs canv ps)/\Ext w w':=λw' e' hn=>⟨_,rfl,by rw[X,hn];rfl,E9.trans e'⟩;have aY:=aG.cell z;rw[bl]at aY;refine cQ cO (cG (ci aH rfl) (pM e.s 6 z (cG aY (FB ⟨λM=>?_,λM=>?_⟩))));have M:canv<t e.s+1:=cY M;exactλac y=>iR rfl (aX ac y (by rw[f,cx (.inl M)]));have M:¬canv<t e.s+1:=dQ M;refine cG (ci ab rfl) (cG z1 (cG (ci aH rfl) (je (.int .i64 (dF G e.l)) (λac y=>yf (aI.g.ext y) (λd hd=>by have:=am d hd;omega) (by omega) ((aR.ext E9).ext y)) (cG (ci ab rfl) (cG z1 (cG aI.g.c3 (FB λac y=>⟨λA=>?_,λA=>?_⟩)))))));have A:G.minutes<dF G e.l:=cY A;exact aX ac y (by rw[f,cx (.inr A)]);have A:¬G.minutes<dF G e.l:=dQ A;rw[cr (λH=>H.elim M A)]at f;have aw:=y.at_ aH;have bG:=y.size;refine cu (ci aw rfl) (cD ?_)
 refine gC (n:=e.l.length) (λj (m:List Sx)=>[(1,.int .i64 canv),(3,cK wb),(7,.slice da xs.length dc),(8,cK mb),(11,cK xb),(23,.slice (some ⟨eb,0,none⟩) C.length ec),(24,.int .i64 C.length),(25,.int .i64 k),(60,.slice e.a e.l.length e.c),(61,.int .i64 e.l.length),(62,.int .i64 j)])
  (λj m w'=>Ext w w'/\ac.heap.size<=w'.heap.size/\w'.heap[wb]? =some (.cells #[cK wp] 133)/\tM w1.heap.size w' (.slice da xs.length dc) m/\QM mb r w'/\pr eb C w'/\w'.heap[xb]? =some (.cells #[.int .i64 e.s,.slice e.a e.l.length e.c] 29)/\m.length=xs.length/\(∀x∈m,tZ (100000+1000*k+j) x)/\im G.tries e.s ys e.l=im G.tries e.s m (e.l.drop j)) ys ⟨⟨rfl,rfl,rfl,rfl,rfl,rfl,rfl,rfl,rfl,rfl,rfl,trivial⟩,E9.trans y,cz _,y.at_ ab,bj.keep (y.keep λ_=>False) (λ_ _ h=>h),y.at_ aG,bk.ext y,aw,P,aE,rfl⟩ ?_ ?_ ?_
 rintro j m ao hj hJ;exact cV ⟨rfl,rfl,⟨rfl,rfl,rfl,rfl,rfl,rfl,rfl,rfl,rfl,rfl,rfl,trivial⟩,hJ⟩;rintro j m ao hj ⟨R,bm,F,ad,ae,af,O,S,ap,B⟩;obtain⟨lb,lo,aZ,a0⟩:=(aR.ext R) j hj;obtain⟨d,hd⟩:∃d,d=e.l[j]:=⟨_,rfl⟩;rw[<-hd]at a0;have aq:d<xs.length:=by rw[hd];exact am _ (dt hj)
 rw[aZ];refine dI j hj (cu a0 ?_);rw[<-aZ];rcases ad with⟨h0,_⟩|⟨sb,c',a1,K,hS⟩;rw[h0]at S;simp at S;omega;injection K with K _ aa;subst K;subst aa;have ar:d<m.length:=by omega
 have bH:sb<w2.heap.size:=(av sb (by omega) ⟨_,_,rfl⟩).2;have bq:w1.heap.size<=sb:=a1;have ax:=h.ext R;obtain⟨br,bs,t1,t2,t3,t4⟩:=ax.at_;have B:=B;rw[xS _ _ _ _ j hj,<-hd,getD_eq ar]at B;have aJ:∀{w'},nD sb m w'->∀i v,(kY m[d])[i]? =some v->w'.cell? ⟨sb,0+d*8+i,none⟩=some v:=λhS i v hi=>by obtain⟨cs,y1,y2,y3⟩:=hS.out;exact ci y1 (by rw[cB];exact y3 d ar i v hi)
 have a2:ao.cell? ⟨sb,0+d*8+4+e.s/2,none⟩=some (.bool (tH m[d] (e.s/2))):=by
  have:(kY m[d])[4+e.s/2]? =some (.bool (tH m[d] (e.s/2))):=by
   obtain h0|h0|h0:e.s/2=0\/e.s/2=1\/e.s/2=2:=by omega
   all_goals rw[h0];rfl
  have:=aJ hS _ _ this;rwa[<-yz]at this
 have ay:∀w',Ext ao w'->im G.tries e.s ys e.l=none->∃v,Ending.returned (one [.bool false])=.returned v/\v=.bool (sq G xs canv ps)/\Ext w w':=λw' e' hn=>⟨_,rfl,by rw[hn]at f;rw[X,f];rfl,R.trans e'⟩;refine cQ cO (cG (ci O rfl) (dx (.int .i64 (e.s/2:Nat)) (λN _=>rG (n:=2) (by omega) (by omega) ⟨rfl,Ext.refl _⟩) (kK d 8 aq (dx (.pointer (some ⟨sb,0+d*8+4+e.s/2,none⟩)) (λN _=>yh 3 (by omega) ⟨rfl,Ext.refl _⟩) (cG a2 ⟨λh1=>?_,λh1=>?_⟩)))));exactλN D=>iR rfl (ay N D (by rw[B,cx (by rw[h1];rfl)]));refine cG (ci F rfl) (cG t1 (kK d 8 aq (dx (.agg (kY m[d]).toArray) (λN D=>dP (vs:=kY m[d]) (aJ (hS.ext D)) ⟨rfl,Ext.refl _⟩) (je (.bool (gA G.tries m[d])) (λN D=>uL (ax.g.ext D) m[d]) λN D=>⟨λh2=>?_,λh2=>?_⟩))));exact ay N D (by rw[B,cx (by rw[h2];simp)]);rw[cr (by rw[h1,h2];simp)]at B;have a3:=ap _ (dt ar);have bn:(0<=m[d].tries/\m[d].tries<=1000000)/\(0<=m[d].mornings/\m[d].mornings<=1000000)/\0<=m[d].evenings/\m[d].evenings<=1000000:=by obtain⟨z1,z2,z3⟩:=a3;omega
 have az:=hS.ext D;have a4:=D.at_ O;refine cQ cO (kK d 8 aq (dx (.agg (kY m[d]).toArray) (λaK ag=>dP (vs:=kY m[d]) (aJ (az.ext ag)) ⟨rfl,Ext.refl _⟩) (cG (ci a4 rfl) (je (.agg (kY (iJ m[d] e.s false)).toArray) (λaK ag=>BM m[d] e.s false aK z bn) (kK d 8 aq λaK ag=>?_)))));have T:=D.trans ag;refine NK (az.ext ag) d 0 ar (by omega) (iJ m[d] e.s false) (sO rfl) (λi u hi=>?_) λbI U a5=>?_;have bo:i<8:=(gy.1 hi).1;rw[cx ⟨fN _,bo⟩];exact hi;have bJ:=T.size;refine cq ⟨m.set d (iJ m[d] e.s false),⟨rfl,rfl,rfl,rfl,rfl,rfl,rfl,rfl,rfl,rfl,rfl,trivial⟩,(R.trans T).cy U (by omega),by have:=U.size;omega,U.fg (T.at_ F) (by omega),.inr ⟨sb,dc,a1,by rw[qJ,S],a5⟩,U.fg (T.at_ ae) (by omega),(af.ext T).keep U (by omega),U.fg (T.at_ O) (by omega),by simpa using S,λx H=>?_,B⟩;rcases oS H with H|rfl;exact(ap x H).le (by omega);exact(a3.RV e.s false).le (by omega);rintro m ao ⟨R,bm,F,ad,ae,af,O,S,ap,B⟩;have B:im G.tries e.s ys e.l=some m:=by rw[B];simp[im]
 rw[B]at f;simp only at f;refine cq ⟨(m,r),⟨rfl,rfl,rfl,rfl,rfl,rfl,rfl,trivial⟩,R,by omega,F,ad,ae,.inr ⟨eb,ec,bf,rfl,af⟩,S,λx H=>(ap x H).le (by omega),aW,f⟩;rintro⟨ys,t⟩ w6 ⟨E6,s6,Y,Z,aD,aP,P,aE,J,f⟩;simp only at Z P f;have f:iM G canv xs (λ_=>0) (C.map Lj)=some ys:=by rw[f,List.drop_of_length_le (by simp)];rfl
 obtain⟨a6,c6,q1,q2⟩:=Z.WZ;injection q1 with q1 _ q3;subst q1;subst q3;have aA:=Lh (h.ext E6) Y q2 (c:=dc) (by omega);rw[P]at aA;refine dq aA λw7 e7=>eu ⟨_,rfl,?_,E6.trans e7⟩;rw[X,f];rfl
def xO.U1{w w':cd}{gp mk ms:Nat}{G:Gd}(h:xO w gp mk ms G w'):ku (λ_=>False) mk ms G w':=
 ⟨⟨#[],0,h.sm,λe a=>by cases a⟩,⟨#[],0,h.km,λe a=>by cases a⟩,λh=>h,λh=>h⟩
def ee(G:Gd)(l:List Tq)(a canv:Int):Int:=if wn G l=0 then(if rH G (iK l) a=0 then(if jX canv 0 5 then 0 else 1)else rH G (iK l) a)else wn G l
def Oq(w:cd)(G:Gd)(l:List Tq)(e:Int)(v:ce)(w':cd):Prop:=
 (e≠0/\v=.tuple #[.pointer none,.int .i64 e])\/(e=0/\∃a b mk c,v=.tuple #[cK a,.int .i64 0]/\FV w a b mk c G (gO G l).2 (iK l) w'/\∀x∈(gO G l).2,tZ 100000 x)
section
variable{G:Gd}{da:Option Addr}{dc:Nat}{w:cd}{l:List Tq}{la:Option Addr}{lc:Nat}
def mB(m:gD w da G.doors)(f:G.doors.length<=100000)(n: -1000000<=G.streets/\G.streets<=1000000)(o:sI w la l)(g:l.length<=100000)(a canv:Int):
 Calls V.prog 105 #[gV G da dc,.slice la l.length lc,.int .i64 a,.int .i64 canv] w (fy λv w'=>Ext w w'/\Oq w G l (ee G l a canv) v w'):=by
 refine go V.func105 Tryz.ntmps105 ?_;refine fo λy z e p q=>di q (ck (wo (dc:=dc) (m.ext e) f n (o.ext e) g) ?_);rintro v A ⟨h,⟨c,rfl⟩|⟨c,r,s,mk,t,rfl,j,u⟩⟩;exact eG (iR (by simpa using c) ⟨_,rfl,e.trans h,.inl ⟨by unfold ee;rw[cr c];exact c,by unfold ee;rw[cr c];rfl⟩⟩);refine eG (iG (by simp) (cS (Qm j.k a) (eG ⟨λb=>?_,λb=>?_⟩)));have b:¬rH G (iK l) a=0:=cY b;exact⟨_,rfl,e.trans h,.inl ⟨by unfold ee;rw[cx c,cr b];exact b,by unfold ee;rw[cx c,cr b];rfl⟩⟩;have b:rH G (iK l) a=0:=by simpa using b
 refine cS (ej _ _ _ _) (eu ⟨λd=>?_,λd=>?_⟩);have d:jX canv 0 5=false:=by simpa using d
 exact⟨_,rfl,e.trans h,.inl ⟨by unfold ee;rw[cx c,cx b,d];decide,by unfold ee;rw[cx c,cx b,d];rfl⟩⟩;have d:jX canv 0 5=true:=by simpa using d
 exact⟨_,rfl,e.trans h,.inr ⟨by unfold ee;rw[cx c,cx b,d];rfl,r,s,mk,t,rfl,j.low e,λx i=>(u x i).le g⟩⟩
def lG{a canv:Int}(c:G.Ok)(h:ee G l a canv=0):∃f:Nat,a=f/\f<=fB G/\f<2*G.days:=by unfold ee at h;split at h;split at h;rename_i b;unfold rH at b;split at b;rename_i d;simp only[jX,ez,jk]at d;have:=c.days;exact⟨a.toNat,by omega,by unfold fB;omega,by omega⟩;omega;rename_i b;exact absurd h b;rename_i e;exact absurd h e
def Ot(n0:Nat)(o:Option (List (List Nat)))(v:ce)(w:cd):Prop:=match o with
 |none=>v=.tuple #[.slice none 0 0,.int .i64 11]
 |some a=>∃u,v=.tuple #[u,.int .i64 0]/\eW n0 w u a
def xt(y:gD w da G.doors)(k:G.doors.length<=100000)(F: -1000000<=G.streets/\G.streets<=1000000){ds:List Int}{a:Option Addr}{c:Nat}(D:ja w a ds)(m:ds.length<=100000)(H:ds.length<=c):
 Calls V.prog 69 #[gV G da dc,.slice a ds.length c] w (fy λv w'=>Ext w w'/\((kg G ds≠0/\v=.tuple #[.slice none 0 0,.int .i64 (kg G ds)])\/(kg G ds=0/\Ot w.heap.size (fJ G (dB (ds.map Int.toNat))) v w'))):=by
 refine go V.func69 Tryz.ntmps69 ?_;refine fo λT U i I z=>di z (ck (pT (dc:=dc) (y.ext i) k F (D.ext i) m H) ?_);rintro v J ⟨t,⟨n,rfl⟩|⟨n,W,mk,X,rfl,o⟩⟩;have e:kg G ds=eg G:=by simp[kg,n]
 exact eG (iR (by simpa using n) ⟨_,rfl,i.trans t,.inl ⟨by rw[e];exact n,by rw[e];rfl⟩⟩);have e:kg G ds=gx G.doors.length ds:=by simp[kg,n]
 refine eG ⟨λf=>?_,λf=>?_⟩;have f:¬gx G.doors.length ds=0:=cY f;exact⟨_,rfl,i.trans t,.inl ⟨by rw[e];exact f,by rw[e];rfl⟩⟩;have f:gx G.doors.length ds=0:=by simpa using f
 obtain⟨j,rfl,p⟩:=n9 f;have A:=o.g.tY;have K:=A.many;have L:(lU j).length=j.length:=by simp[lU]
 have q:(lU j).map Int.toNat=j:=by simp[lU,yw]
 have B:=(D.ext (i.trans t)).FI;rw[L]at m⊢;rw[q];have r:=lP.dB (G:=G) K (l:=j) p;refine cS (pj j a c J B (λd y=>by have:=p d y;omega) m) (ck (zM (n0:=w.heap.size) o.g (λb z=>z.elim) o.U1 (by have:=o.lo;have:=i.size;omega) (by have:=o.lo;have:=i.size;omega) r) ?_);rintro v E ⟨M,u,b,rfl,h⟩;have C:Ext w E:=M.1.from (i.trans t) (cz _);cases x:fJ G (dB j)with
 |none=>
  rw[x]at h;obtain⟨rfl,rfl⟩:=h;exact eu (iR rfl ⟨_,rfl,C,.inr ⟨by rw[e];exact f,rfl⟩⟩)
 |some N=>
  rw[x]at h;obtain⟨rfl,O,P,rfl,s,_⟩:=h;have Q:=pY x;refine eu (iG rfl (ck (HJ N O P E s.rows (by omega) λl m=>by have:=z9 x l m;omega) ?_));rintro v Y ⟨R,S⟩;exact⟨_,rfl,C.trans R,.inr ⟨by rw[e];exact f,_,rfl,S.low C.size⟩⟩
end
end Go.Proofs.W
