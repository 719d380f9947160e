/- Laws that the proof needs, part 24. Conditions: none. -/
import Derived.Test.YteeagjkaflglpaaGreatX23
set_option maxRecDepth 100000
set_option maxHeartbeats 8000000
set_option linter.all false
namespace Go.Proofs.W
open Go.RowKit
def Cz(D:cU)(ps:List Nat):Prop:=∀k (h:k<ps.length),ps[k]<(cJ D k).length
def GX(D:cU):Sp->Prop
 |none=>True
 |some (l,_,_)=>∃ps:List Nat,l=ps.map Int.ofNat/\ps.length=D.opn.length/\Cz D ps
theorem zF(b x:Sp):iM b x=x\/iM b x=b:=by
 unfold iM;split
 ·exact .inl rfl
 ·exact .inr rfl
theorem qZ(D:cU):∀(n:Nat) (ps:List Nat) (L:Nat->Nat) (b:Sp),ps.length+n=D.opn.length->Cz D ps->GX D b->GX D (cV D n ps L b)
 |0,ps,L,b,j,a,c=>by
  simp only[cV];rcases zF b (cZ D L ps)with h|h
  ·rw[h];unfold cZ;split
   ·trivial
   ·exact⟨ps,rfl,by omega,a⟩
  ·rw[h];exact c
 |n+1,ps,L,b,j,a,c=>by
  simp only[cV]
  have d:∀(g:List Nat) (b:Sp),(∀i∈g,i<(cJ D ps.length).length)->GX D b->GX D (g.foldl (λb i=>cV D n (ps++[i]) (gB (dI D ps.length) ((cJ D ps.length).getD i []) L) b) b):=by
   intro g;induction g with
   |nil=>intro b _ c;exact c
   |cons i r l=>
    intro b e c;rw[List.foldl_cons];refine l _ (λx m=>e x (List.mem_cons_of_mem _ m)) (qZ D n _ _ _ (by simp;omega) (λk o=>?_) c);rcases Nat.lt_or_ge k ps.length with f|p
    ·rw[List.getElem_append_left f];exact a k f
    ·obtain rfl:k=ps.length:=by simp at o;omega
     simp only[List.getElem_append_right (Nat.le_refl _),Nat.sub_self,List.getElem_cons_zero];exact e i List.mem_cons_self
  exact d _ b (λi q=>List.mem_range.1 q) c
theorem zH(D:cU):GX D (eE D):=qZ D _ [] L0 none (by simp) (λk a=>by simp at a) trivial
def iZ(D:cU)(ps:List Nat):Nat->Nat->Nat
 |0=>L0
 |k+1=>gB (dI D k) ((cJ D k).getD (ps.getD k 0) []) (iZ D ps k)
def oO(G:Gd)(L:Nat->Nat)(k:Nat):List (Nat×List Nat):=(List.range k).flatMap λs=>((eD G (L s)).getD []).map λl=>(s,l)
def tN(G:Gd)(D:cU):Option (List (Nat×List Nat)):=match eE D with
 |none=>none
 |some (l,_,_)=>some (oO G (iZ D (l.map Int.toNat) l.length) 6)
theorem re(G:Gd)(L:Nat->Nat)(k:Nat):oO G L (k+1)=oO G L k++((eD G (L k)).getD []).map λl=>(k,l):=by unfold oO;rw[List.range_succ,List.flatMap_append];simp
theorem tO{G:Gd}{L:Nat->Nat}:∀k,(oO G L k).length<=5*k
 |0=>Nat.le_refl _
 |k+1=>by
  rw[re,List.length_append,List.length_map];have:=tO (G:=G) (L:=L) k;have a:((eD G (L k)).getD []).length<=5:=by
   cases h:eD G (L k)with
   |none=>simp
   |some b=>exact mg h
  omega
theorem tP{G:Gd}{s:Nat}{a:List (List Nat)}(h:eD G s=some a):∀l∈a,l.length<=5:=λl b=>by
 unfold eD at h;split at h
 ·obtain rfl:=Option.some.inj h;cases b
 ·obtain⟨c,_,rfl⟩:=Option.map_eq_some_iff.1 h;obtain⟨g,_,rfl⟩:=List.mem_map.1 b;exact pF
def og:List (Nat×List Nat)->List Value->List Value
 |p::r,u::s=>.int .i64 p.1::u::og r s
 |_,_=>[]
theorem pM(p:Nat×List Nat)(u:Value):∀(ps:List (Nat×List Nat)) (a:List Value),a.length=ps.length->og (ps++[p]) (a++[u])=og ps a++[.int .i64 p.1,u]
 |[],[],_=>rfl
 |q::r,v::s,h=>by simp only[List.cons_append,og];rw[pM p u r s (by simpa using h)]
theorem vy:∀(ps:List (Nat×List Nat)) (a:List Value),a.length=ps.length->(og ps a).length=2*ps.length
 |[],[],_=>rfl
 |q::r,v::s,h=>by simp only[og,List.length_cons];rw[vy r s (by simpa using h)];omega
theorem vz:∀(ps:List (Nat×List Nat)) (a:List Value),a.length=ps.length->∀k (h:k<ps.length),(og ps a)[2*k]? =some (.int .i64 ps[k].1)/\(og ps a)[2*k+1]? =a[k]?
 |q::r,v::s,h,0,_=>⟨rfl,rfl⟩
 |q::r,v::s,h,k+1,b=>by have:=vz r s (by simpa using h) k (by simpa using b);rw[show 2*(k+1)=2*k+1+1 by omega];simp only[og,List.getElem?_cons_succ,List.getElem_cons_succ];exact this
def jX(n0:Nat)(w:World)(v:Value)(ps:List (Nat×List Nat)):Prop:=∃a:List Value,a.length=ps.length/\cC n0 29 [.int .i64 0,.slice none 0 0] w v ps.length (og ps a)/\∀k (h:k<ps.length),∃u,a[k]? =some u/\dN n0 w u ps[k].2
def qy(w:World)(a:Option Addr)(ps:List (Nat×List Nat)):Prop:=∀k (h:k<ps.length),∃b o c d,a=some ⟨b,o,none⟩/\w.cell? ⟨b,o+k*2,none⟩=some (.int .i64 ps[k].1)/\w.cell? ⟨b,o+k*2+1,none⟩=some (.slice c ps[k].2.length d)/\dV w c ps[k].2/\ps[k].2.length<=d
section
variable{n0:Nat}{w w':World}{v:Value}{ps:List (Nat×List Nat)}
theorem jX.nil(n0:Nat)(w:World):jX n0 w (.slice none 0 0) []:=⟨[],rfl,cC.nil _ _ _ _,λk a=>by simp at a⟩
theorem jX.eC{m:Nat}(h:jX n0 w v ps)(e:fA m w w'):jX n0 w' v ps:=by obtain⟨a,b,c,d⟩:=h;refine⟨a,b,c.eC e,λk f=>?_⟩;obtain⟨u,g,i⟩:=d k f;exact⟨u,g,cC.eC i e⟩
theorem jX.ext(h:jX n0 w v ps)(e:Ext w w'):jX n0 w' v ps:=h.eC (e.eC 0)
theorem jX.low{a:Nat}(h:jX n0 w v ps)(b:a<=n0):jX a w v ps:=by obtain⟨c,d,e,f⟩:=h;exact⟨c,d,e.low b,λk g=>by obtain⟨u,i,j⟩:=f k g;exact⟨u,i,j.low b⟩⟩
theorem jX.blk(h:jX n0 w v ps){b:Nat}(a:ce v b):n0<=b/\b<w.heap.size:=by obtain⟨d,_,c,_⟩:=h;exact c.blk a
theorem jX.row(h:jX n0 w v ps):∃a c,v=.slice a ps.length c/\qy w a ps/\ps.length<=c:=by
 obtain⟨e,f,⟨z,⟨j,rfl⟩|⟨b,c,A,B,rfl,g,C,l,D,i,E⟩⟩,m⟩:=h
 ·exact⟨none,0,by rw[j],λk d=>by omega,by omega⟩
 ·refine⟨_,c,rfl,λk d=>?_,l⟩;obtain⟨u,n,o⟩:=m k d;obtain⟨p,q,rfl,r,s⟩:=o.row;obtain⟨t,x⟩:=vz ps e f k d;have y:=vy ps e f;refine⟨b,0,p,q,rfl,cd g ?_,cd g ?_,r,s⟩
  ·rw[Nat.zero_add,Nat.mul_comm,i _ (by omega)];exact t
  ·rw[Nat.zero_add,Nat.mul_comm,i _ (by omega),x];exact n
theorem IW{k:Value->World->Prop}{t:TypeId}{r:Array Bool}(h:jX n0 w v ps)(m:n0<=w.heap.size){b c:Nat}{u:Value}{p:Nat×List Nat}(n:dN n0 w u p.2)(s:w.heap[b]? =some (.cells [Value.int .i64 p.1,u].toArray 29))(d:ps.length+1<=1000000) (y:∀e w',jX n0 w' e (ps++[p])->(∀W,Ext W w->W.heap.size<=n0->Ext W w')->cr (ce v) w w'->(∀b,ce e b->ce v b\/w.heap.size<=b)->k e w'):un V.prog (builtin .append #[26,26] t r #[v,.slice (some ⟨b,0,none⟩) 1 c]) w k:=by
 obtain⟨z,o,j,A⟩:=h;have f:u.oneCell'=true:=by obtain⟨a,c,rfl,_⟩:=dN.row n;rfl
 refine gC Lq j m s d (λe w' B l C=>y e w' ⟨z++[u],by simp[o],by rw[pM _ _ _ _ o];simpa using B,λi D=>?_⟩ (λW E F=>E.gN l j F) l C) rfl (by show oF [u]=true;simp[oF,f]);rcases Nat.lt_or_ge i ps.length with g|G
 ·obtain⟨x,H,q⟩:=A i g;refine⟨x,by rw[List.getElem?_append_left (by omega)];exact H,?_⟩;rw[List.getElem_append_left g];exact cC.keep q l (jp q j (by decide))
 ·obtain rfl:i=ps.length:=by simp at D;omega
  refine⟨u,by rw[List.getElem?_append_right (by omega)];simp[o],?_⟩;simp only[List.getElem_append_right (Nat.le_refl _),Nat.sub_self,List.getElem_cons_zero];exact cC.keep n l (jp n j (by decide))
end
def IX(a:Nat)(L:Nat->Nat)(w:World):Prop:=w.heap[a]? =some (.cells #[.int .u8 (L 0),.int .u8 (L 1),.int .u8 (L 2),.int .u8 (L 3),.int .u8 (L 4),.int .u8 (L 5)] 204)
theorem IX.cell{a:Nat}{L:Nat->Nat}{w:World}(h:IX a L w){s:Nat}(b:s<6):w.cell? ⟨a,s,none⟩=some (.int .u8 (L s)):=by
 have:s=0\/s=1\/s=2\/s=3\/s=4\/s=5:=by omega
 rcases this with rfl|rfl|rfl|rfl|rfl|rfl<;>exact cd h rfl
theorem LQ{w:World}{k:World->Prop}{a:Nat}{L:Nat->Nat}(h:IX a L w)(s v:Nat)(e:s<6)(b:∀w',cr (λx=>x=a) w w'->IX a (AJ L s v) w'->k w'):yF V.prog (Instr.storeAt 154 (.pointer (some ⟨a,0+s,none⟩)) (.int .u8 v)) w k:=by
 have:s=0\/s=1\/s=2\/s=3\/s=4\/s=5:=by omega
 rcases this with rfl|rfl|rfl|rfl|rfl|rfl<;>exact cK h λw' c d=>b w' c (by unfold IX;rw[d];rfl)
theorem IY{w:World}{k:Value->World->Prop}(L:Nat->Nat)(s:Nat)(a:s<6)(h:k (.int .u8 (L s)) w):fS V.prog (Instr.index 204 (.agg #[.int .u8 (L 0),.int .u8 (L 1),.int .u8 (L 2),.int .u8 (L 3),.int .u8 (L 4),.int .u8 (L 5)]) (.int .i64 s)) w k:=by
 have:s=0\/s=1\/s=2\/s=3\/s=4\/s=5:=by omega
 rcases this with rfl|rfl|rfl|rfl|rfl|rfl
 ·exact⟨_,w,yh _ _ _ _ _ _ w,h⟩
 ·exact⟨_,w,yi _ _ _ _ _ _ w,h⟩
 ·exact⟨_,w,yj _ _ _ _ _ _ w,h⟩
 ·exact⟨_,w,yn _ _ _ _ _ _ w,h⟩
 ·exact⟨_,w,yo _ _ _ _ _ _ w,h⟩
 ·exact⟨_,w,yp _ _ _ _ _ _ w,h⟩
theorem tQ{G:Gd}{D:cU}{ps:List Nat}(a:G.doors.length<=5)(b:∀d∈D.opn,d<G.doors.length):∀k,k<=D.opn.length->∀s,jW G (iZ D ps k s)
 |0,_,s=>jW.zero G
 |k+1,e,s=>by
  have c:=tQ (ps:=ps) a b k (by omega) s;simp only[iZ,gB];split
  ·exact c.mz (b _ (by unfold dI;rw[getD_eq (by omega)];exact List.getElem_mem _)) a
  ·exact c
theorem Dt.rows{A:Nat->Prop}{o:Option (List (List Nat))}{u:Value}{b:Bool}{w:World}(h:Dt A o u b w):∃a c,u=.slice a (o.getD []).length c/\ir A w a (o.getD []):=by
 cases o with
 |none=>exact⟨none,0,h.1,λk d=>by simp at d⟩
 |some g=>
  obtain⟨_,a,c,e,f,_⟩:=h;exact⟨a,c,e,f⟩
def Nv(n0:Nat)(o:Option (List (Nat×List Nat)))(v:Value)(w:World):Prop:=match o with
 |none=>v=.tuple #[.slice none 0 0,.bool false]
 |some a=>∃u,v=.tuple #[u,.bool true]/\jX n0 w u a
theorem IZ{wp gp mk ms n0:Nat}{G:Gd}{xs:List Sx}{U:Int}{w:World}{A:Nat->Prop}(h:io wp gp mk ms G xs U w)(hA:∀b,A b->b<w.heap.size)(hp:hH A mk ms G w)(ax:n0<=mk)(hn:n0<=ms)(aU:∀x∈xs,oS 100000 x){m:Nat}(hf:m<=ei G):
 Calls V.prog 117 #[cu wp,.int .i64 m] w (pJ λv w'=>MA n0 mk ms G A w w'/\Nv w.heap.size (tN G (fN G xs m)) v w'):=by
 have ay:=h.g.pw;have h5:=ay.many;have az:=h.len;refine go V.func117 Tryz.ntmps117 ?_;refine cf (tD h hA hp ax hn aU hf) ?_;rintro v w1 ⟨m1,pb,rfl,hP⟩;have hN:∀b,zv w.heap.size w1 b->b<w1.heap.size:=λb f=>by obtain⟨_,_,_,_,f⟩:=f;exact ck.lt_of_heap f
 refine gu (zB hP hN) (λw' h=>.inr ⟨rfl,h⟩) ?_;rintro v w2 ⟨e2,y,rfl,W⟩;have hD:∀d∈(fN G xs m).opn,d<G.doors.length:=λd hd=>by rw[<-az];exact iD hd
 have z:=zq ay az m;have aj:=zH (fN G xs m);unfold tN;obtain⟨D,aV⟩:∃D,D=fN G xs m:=⟨_,rfl⟩;rw[<-aV]at hP W hD z aj⊢;obtain⟨ya,yl,yc,ym,yk,yb⟩:=y;refine dS λw3 sb e3 aW aA=>cK aA λw4 k4 E=>?_;have E:w4.heap[sb]? =some (.cells #[.slice ya yl yc,.int .i64 ym,.int .i64 yk,.bool yb] 199):=E;have al:Ext w2 w4:=e3.cj k4 aW;have am:Ext w1 w4:=e2.trans al;have s2:=e2.size;have bm:=am.size;cases hq:eE D with
 |none=>
  rw[hq]at W;have W:(⟨ya,yl,yc,ym,yk,yb⟩:SV)=⟨none,0,0,0,0,false⟩:=W;injection W with _ _ _ _ _ W;subst W;exact cg (cd E rfl) (ek (je rfl (.inl ⟨_,rfl,(rA n0 mk ms G A).trans _ _ _ m1 (am.ma _ _ _ _ _),rfl⟩)))
 |some s=>
  obtain⟨l,mm,nn⟩:=s;rw[hq]at W aj;obtain⟨q,rfl,bn,aX⟩:=aj;obtain⟨y1,y2,y3,y4,y5⟩:=W;simp only at y1 y2 y3 y4 y5;subst y3;have y4:yl=q.length:=by rw[y4];simp
  subst y4
  have aY:∀i (T:i<q.length),∃b,ya=some ⟨b,0,none⟩/\w1.heap.size<=b/\w2.cell? ⟨b,i,none⟩=some (.int .i64 q[i]):=λi T=>by
   rcases y5 with⟨h0,_⟩|⟨_,b,g1,g2,g3,_,fz,_,g4⟩
   ·have:=congrArg List.length h0;simp at this;rw[this]at T;simp at T
   ·refine⟨b,g2,g1,?_⟩;simp only[World.cell?,g4];have:(dZ (q.map Int.ofNat) yc)[i]? =some (.int .i64 q[i]):=by
     unfold dZ;simp[List.getElem?_append,T]
    simpa using this
  clear y5;refine cg (cd E rfl) (ek (nh rfl (dS λw5 M e5 bo ad=>?_)));have aZ:IX M L0 w5:=ad;have aB:=am.trans e5;have a0:=al.trans e5;have bp:=ck.lt_of_heap ad;have a1:dA (zv w.heap.size w1) pb D w5:=hP.same λb f=>aB.block b (hN b f);obtain⟨wk,u1,u2,fz,_,ae,a2,aC⟩:=a1.at_;have F:∀{b:Nat},zv w.heap.size w1 b->¬b=M:=λf e=>by have:=hN _ f;omega
  have c1:∀{w'},cr (λx=>x=M) w5 w'->w'.cell? ⟨pb,1,none⟩=some u1:=λk=>k.dn (by simp only[World.cell?,ae];rfl) (F hP.lt);have c2:∀{w'},cr (λx=>x=M) w5 w'->w'.cell? ⟨pb,2,none⟩=some u2:=λk=>k.dn (by simp only[World.cell?,ae];rfl) (F hP.lt);have bq:=ck.lt_of_heap E;refine cg (cd (e5.at_ E) rfl) (cA ?_);refine dg (n:=q.length) (λi=>[(0,cu wp),(6,cu pb),(8,cu M),(29,.slice ya q.length yc),(30,.int .i64 q.length),(31,.int .i64 i)]) (λi w'=>cr (λx=>x=M) w5 w'/\IX M (iZ D q i) w') ⟨⟨rfl,rfl,rfl,rfl,rfl,rfl,trivial⟩,cr.refl _ _,aZ⟩ ?_ ?_ ?_
  ·rintro i w6 T hJ;exact cY ⟨rfl,rfl,⟨rfl,rfl,rfl,rfl,rfl,rfl,trivial⟩,hJ⟩
  ·rintro i w6 T ⟨k6,X⟩;have br:i<5:=by have:=z.five;omega
   obtain⟨an,rfl,bl,aD⟩:=aY i T;have af:w6.cell? ⟨an,i,none⟩=some (.int .i64 q[i]):=k6.dn (a0.cell aD) (λ(e:an=M)=>by have:=nu aD;have:=al.size;omega);obtain⟨n,aE⟩:∃n,n=q[i]:=⟨_,rfl⟩;have B:=aX i T;rw[<-aE]at af B;refine dT i T (cg (by rw[Nat.zero_add];exact af) ?_);have N:i<D.lists.length:=by rw[z.len];omega
   have Y:i<D.opn.length:=by omega
   obtain⟨b2,bs,ui,a3,aF,a4,a5⟩:=aC.at_ i N;have aG:cJ D i=D.lists[i]:=by unfold cJ;rw[getD_eq N]
   rw[aG]at B;obtain⟨b3,bt,bu,a6,aH,a7,O⟩:=a5.at_ n B;obtain⟨a8,a9,ao⟩:=O.len;obtain⟨r,C⟩:∃r,r=D.lists[i][n]:=⟨_,rfl⟩;rw[<-C]at O ao;have aI:∀s∈r,s<6:=by rw[C];exact z.shift _ (List.getElem_mem N) _ (List.getElem_mem B)
   have aJ:r.length<=65536:=by rw[C];exact z.long _ (List.getElem_mem N) _ (List.getElem_mem B)
   refine cg (c2 k6) ?_;rw[a3];refine dT i N (cg (by rw[Nat.zero_add];exact k6.dn a4 (F aF)) ?_);rw[a6];refine dT n B (cg (by rw[Nat.zero_add];exact k6.dn a7 (F aH)) ?_);rw[ao];have P:iZ D q (i+1)=gB (dI D i) r (iZ D q i):=by simp only[iZ];rw[aG,getD_eq T,<-aE,getD_eq B,C]
   obtain⟨d,hd⟩:∃d,d=dI D i:=⟨_,rfl⟩;have aK:d=D.opn[i]:=by rw[hd];unfold dI;rw[getD_eq Y]
   have ap:d<5:=by have:=hD d (by rw[aK];exact List.getElem_mem Y);omega
   rw[<-hd]at P;obtain⟨b4,bv,ud,ba,aL,bc,aq⟩:=a2.at_ i Y;have aq:ud=.int .i64 d:=by rw[aK];exact aq
   subst aq;have ag:∀s,s<6->iZ D q i s<32:=λs _=>(tQ h5 hD i (by omega) s).1;refine cA ?_;refine dg (n:=r.length) (λj=>[(0,cu wp),(6,cu pb),(8,cu M),(9,.int .i64 i),(29,.slice (some ⟨an,0,none⟩) q.length yc),(30,.int .i64 q.length),(31,.int .i64 i),(45,.slice a8 r.length a9),(46,.int .i64 r.length),(47,.int .i64 j)]) (λj w'=>cr (λx=>x=M) w5 w'/\IX M (gB d (r.take j) (iZ D q i)) w') ⟨⟨rfl,rfl,rfl,rfl,rfl,rfl,rfl,rfl,rfl,rfl,trivial⟩,k6,?_⟩ ?_ ?_ ?_
   ·have:gB d (r.take 0) (iZ D q i)=iZ D q i:=by
     funext s;simp[gB]
    rw[this];exact X
   ·rintro j w7 H hJ;exact cY ⟨rfl,rfl,⟨rfl,rfl,rfl,rfl,rfl,rfl,rfl,rfl,rfl,rfl,trivial⟩,hJ⟩
   ·rintro j w7 H ⟨k7,Q⟩;obtain⟨b5,bw,us,Z,aM,bd,ar⟩:=O.at_ j H;obtain⟨s,hs⟩:∃s,s=r[j]:=⟨_,rfl⟩;have ar:us=.int .i64 s:=by rw[hs];exact ar
    subst ar;have I:s<6:=by rw[hs];exact aI _ (List.getElem_mem H)
    rw[ao]at Z;injection Z with Z _ bx;subst Z;refine dT j H (cg (by rw[Nat.zero_add];exact k7.dn bd (F aM)) ?_);have aN:gB d (r.take j) (iZ D q i) s<32:=wn ap ag s I;refine cF cB (lX s 6 I (cn (by rw[Nat.zero_add];exact Q.cell I) (cn (c1 k7) ?_)));rw[ba];refine mA i Y (cn (by rw[Nat.zero_add];exact k7.dn bc (F aL)) (fc cB _ (λw8 e8=>rN _ d w8 aN ap) (lX s 6 I λw8 e8=>?_)));have be:IX M (gB d (r.take j) (iZ D q i)) w8:=e8.at_ Q;refine LQ be s _ I λw9 k9 bf=>cq ⟨⟨rfl,rfl,rfl,rfl,rfl,rfl,rfl,rfl,rfl,rfl,trivial⟩,(k7.trans (e8.keep λ_=>False) (λ_ _ h=>h) λ_ _ h=>h.elim).trans k9 (λ_ _ h=>h) λ_ _ h=>h,?_⟩;have:=uW (L:=iZ D q i) ap ag j H (by rw[<-hs];exact I);rw[<-hs]at this;rw[<-this];exact bf
   ·rintro w7 ⟨k7,Q⟩;rw[List.take_length,<-P]at Q;exact cq ⟨⟨rfl,rfl,rfl,rfl,rfl,rfl,trivial⟩,k7,Q⟩
  ·rintro w6 ⟨k6,X⟩;have aJ:(List.map Int.ofNat q).length=q.length:=by simp
   have aO:(List.map Int.ofNat q).map Int.toNat=q:=by simp[Function.comp_def]
   simp only[aJ,aO];obtain⟨t,aP⟩:∃t,t=iZ D q q.length:=⟨_,rfl⟩;rw[<-aP]at X⊢;have bg:∀s,jW G (t s):=λs=>by rw[aP];exact tQ h5 hD _ (by omega) s
   have bh:Ext w1 w6:=aB.cj k6 (by omega);have m6:MA n0 mk ms G A w w6:=(rA n0 mk ms G A).trans _ _ _ m1 (bh.ma _ _ _ _ _);refine dp (vs:=[.int .u8 (t 0),.int .u8 (t 1),.int .u8 (t 2),.int .u8 (t 3),.int .u8 (t 4),.int .u8 (t 5)]) (λj v H=>by rw[Nat.zero_add];exact cd X (by simpa using H)) ?_;have au:∀b,¬ce (.slice none 0 0) b:=λb f=>by obtain⟨_,_,f⟩:=f;cases f
   refine fw (n:=6) (λk v=>[(0,cu wp),(13,v),(66,.agg #[.int .u8 (t 0),.int .u8 (t 1),.int .u8 (t 2),.int .u8 (t 3),.int .u8 (t 4),.int .u8 (t 5)]),(67,.int .i64 k)]) (λk v w'=>fA n0 w w'/\hH (λx=>A x\/ce v x) mk ms G w'/\jX w.heap.size w' v (oO G t k)) (.slice none 0 0) ⟨⟨rfl,rfl,rfl,rfl,trivial⟩,m6.1,(m6.2 hp).more λb f=>f.elim .inl λf=>absurd f (au b),jX.nil _ _⟩ ?_ ?_ ?_
   ·rintro k v w7 hk hJ;exact cY ⟨rfl,rfl,⟨rfl,rfl,rfl,rfl,trivial⟩,hJ⟩
   ·rintro k v w7 hk ⟨m7,aa,ab⟩;have h7:=h.eC m7;have s7:=m7.size;obtain⟨sa,sc,g1,g2,g3,g4⟩:=h7.at_;refine IY t k hk (cg g1 (cf (tw h7.g (λb f=>f.elim (λf=>by have:=hA b f;omega) λf=>(ab.blk f).2) aa ax hn (bg k)) ?_));rintro v8 w8 ⟨m8,u,b,rfl,bi⟩;have M8:=m7.trans m8.1;obtain⟨a,c,rfl,ah⟩:=bi.rows;obtain⟨J,av⟩:∃J,J=(eD G (t k)).getD []:=⟨_,rfl⟩;rw[<-av]at ah⊢;have aQ:J.length<=5/\∀l∈J,l.length<=5:=by
     rw[av];cases hw:eD G (t k)with
     |none=>exact⟨by simp,λl hl=>by cases hl⟩
     |some bz=>exact⟨mg hw,tP hw⟩
    have bA:=tO (G:=G) (L:=t) k;refine cA (fw (n:=J.length) (λj v=>[(0,cu wp),(13,v),(14,.int .i64 k),(66,.agg #[.int .u8 (t 0),.int .u8 (t 1),.int .u8 (t 2),.int .u8 (t 3),.int .u8 (t 4),.int .u8 (t 5)]),(67,.int .i64 k),(80,.slice a J.length c),(81,.int .i64 J.length),(82,.int .i64 j)]) (λj v w'=>fA n0 w w'/\hH (λx=>A x\/ce v x) mk ms G w'/\jX w.heap.size w' v (oO G t k++(J.take j).map λl=>(k,l))/\ir (λx=>A x\/ce v x) w' a J) v ⟨⟨rfl,rfl,rfl,rfl,rfl,rfl,rfl,rfl,trivial⟩,M8,m8.2 aa,by simpa using ab.eC m8.1,ah⟩ ?_ ?_ ?_)
    ·rintro j v w9 H hJ;exact cY ⟨rfl,rfl,⟨rfl,rfl,rfl,rfl,rfl,rfl,rfl,rfl,trivial⟩,hJ⟩
    ·rintro j v w9 H ⟨m9,aw,ac,aR⟩;obtain⟨bb,oo,a',c',_,rfl,hc,bj,_⟩:=aR j H;refine dT j H (cg hc (cf (iC bj.n (by have:=aQ.2 _ (List.getElem_mem H);omega)) λu bB hu=>?_));obtain⟨R,hu⟩:=hu;obtain⟨ua,uc,rfl,_,_⟩:=hu.row;have s9:=m9.size;have bC:=R.size;refine c8 (.agg #[.int .i64 k,.slice ua J[j].length uc]) (dB [.int .i64 k,.slice ua J[j].length uc] 29 λaS nb K bD f=>?_);have bk:fA n0 w aS:=m9.trans ((R.trans K).eC n0);have ai:=(ac.ext R).ext K;have S:=(aw.ext R).ext K;have aT:ir (λx=>A x\/ce v x) aS (some ⟨bb,oo,none⟩) J:=aR.eC (n0:=0) ((R.trans K).eC 0);refine IW (p:=(k,J[j])) ai (by have:=K.size;omega) (cC.ext (hu.low (by omega)) K) f (by simp;omega) λv' bE g1 g2 g3 g4=>cq ⟨v',⟨rfl,rfl,rfl,rfl,rfl,rfl,rfl,rfl,trivial⟩,?_,?_,?_,?_⟩
     ·obtain⟨us,_,q2,_⟩:=ai;exact bk.gN g3 q2 (Nat.le_refl _)
     ·exact S.go (λb f=>f.elim (λf=>.inl (.inl f)) λf=>(g4 b f).imp .inr id) (λb o v f hc=>g3.dn hc λhf=>f (.inr hf)) λb o f ho=>g3.ef ho λhf=>by
       rcases f with rfl|rfl
       ·exact S.ak (.inr hf)
       ·exact S.asm (.inr hf)
     ·rw[List.take_succ_eq_append_getElem H,List.map_append,<-List.append_assoc];exact g1
     ·exact aT.go (λb f=>f.elim (λf=>.inl (.inl f)) λf=>(g4 b f).imp .inr id) λb o v f hc=>g3.dn hc λhf=>f (.inr hf)
    ·rintro v w9 ⟨m9,aw,ac,_⟩;rw[List.take_length]at ac;refine cq ⟨v,⟨rfl,rfl,rfl,rfl,trivial⟩,m9,aw,?_⟩;rw[re,<-av];exact ac
   ·rintro v w7 ⟨m7,aa,ab⟩;exact .inl ⟨_,rfl,⟨m7,λ_=>aa.fewer λb f=>.inl f⟩,_,rfl,ab⟩
def jS{α:Type}(a:α->Nat)(es:List α):Nat->List α
 |0=>es
 |j+1=>match es[j+1]?,es[j]? with
  |some x,some y=>if a x<a y then jS a ((es.set (j+1) y).set j x) j else es
  |_,_=>es
def iE{α:Type}(a:α->Nat)(es:List α):Nat->List α
 |0=>es
 |k+1=>jS a (iE a es k) (k+1)
def lE{α:Type}(a:α->Nat)(es:List α):List α:=iE a es (es.length-1)
theorem vA{α:Type}(a:α->Nat):∀(j:Nat) (es:List α),(jS a es j).length=es.length
 |0,es=>rfl
 |j+1,es=>by
  simp only[jS];split
  ·split
   ·rw[vA a j];simp
   ·rfl
  ·rfl
theorem mj{α:Type}(a:α->Nat)(es:List α):∀k,(iE a es k).length=es.length
 |0=>rfl
 |k+1=>by simp only[iE];rw[vA,mj a es k]
theorem vB{α:Type}(c:α->Nat):∀(j:Nat) (es:List α) (x:α),x∈jS c es j->x∈es
 |0,es,x,h=>h
 |j+1,es,x,h=>by
  simp only[jS]at h;split at h
  ·rename_i a b d e;split at h
   ·have:=vB c j _ x h;rcases List.mem_or_eq_of_mem_set this with h|rfl
    ·rcases List.mem_or_eq_of_mem_set h with h|rfl
     ·exact h
     ·exact List.mem_of_getElem? e
    ·exact List.mem_of_getElem? d
   ·exact h
  ·exact h
theorem oP{α:Type}(a:α->Nat)(es:List α):∀(k:Nat) (x:α),x∈iE a es k->x∈es
 |0,x,h=>h
 |k+1,x,h=>oP a es k x (vB a _ _ x h)
theorem vC{α c:Type}(b:α->Nat)(a:c->Nat)(f:α->c)(d:∀x,a (f x)=b x):∀(j:Nat) (es:List α),jS a (es.map f) j=(jS b es j).map f
 |0,es=>rfl
 |j+1,es=>by
  simp only[jS,List.getElem?_map];cases e:es[j+1]? with
  |none=>rfl
  |some x=>
   cases g:es[j]? with
   |none=>rfl
   |some y=>
    simp only[Option.map_some,d];split
    ·rw[<-vC b a f d j];simp
    ·rfl
theorem tR{α c:Type}(b:α->Nat)(a:c->Nat)(f:α->c)(d:∀x,a (f x)=b x)(es:List α):∀k,iE a (es.map f) k=(iE b es k).map f
 |0=>rfl
 |k+1=>by simp only[iE];rw[tR b a f d es k,vC b a f d]
theorem Ec{α c:Type}(b:α->Nat)(a:c->Nat)(f:α->c)(d:∀x,a (f x)=b x)(es:List α):lE a (es.map f)=(lE b es).map f:=by unfold lE;rw[List.length_map,tR b a f d]
structure El where
 s:Nat
 a:Option Addr
 c:Nat
 l:List Nat
def pR(e:El):List Value:=[.int .i64 e.s,.slice e.a e.l.length e.c]
structure lF(sb:Nat)(es:List El)(w:World):Prop where
 out:∃cs,w.heap[sb]? =some (.cells cs 29)/\es.length*2<=cs.size/\∀k (h:k<es.length) j v,(pR es[k])[j]? =some v->cs[k*2+j]? =some v
section
variable{w:World}{sb:Nat}{es:List El}
theorem lF.ext{w':World}(h:lF sb es w)(e:Ext w w'):lF sb es w':=by obtain⟨a,b,c⟩:=h.out;exact⟨a,e.at_ b,c⟩
theorem lF.keep{w':World}{F:Nat->Prop}(h:lF sb es w)(k:cr F w w')(a:¬F sb):lF sb es w':=by obtain⟨b,c,d⟩:=h.out;exact⟨b,k.ef c a,d⟩
theorem lF.cell(h:lF sb es w)(k:Nat)(a:k<es.length):∀j v,(pR es[k])[j]? =some v->w.cell? ⟨sb,0+k*2+j,none⟩=some v:=λj v b=>by obtain⟨e,c,f,d⟩:=h.out;exact cd c (by rw[Nat.zero_add];exact d k a j v b)
theorem Ko{s:World->Prop}(h:lF sb es w)(k:Nat)(y:k<es.length)(e:El)(m:∀w',cr (λx=>x=sb) w w'->lF sb (es.set k e) w'->s w'):yF V.prog (Instr.storeAt 29 (.pointer (some ⟨sb,0+k*2,none⟩)) (.agg (pR e).toArray)) w s:=by
 obtain⟨n,o,p,q⟩:=h.out;have z:k*2+2<=n.size:=by have:=Nat.mul_le_mul_right 2 (show k+1<=es.length by omega);omega
 refine fG o (by show 0+k*2+2<=_;omega) (λw' r b=>m w' r ⟨_,b,by rw[ko];simpa using p,λi t j u a=>?_⟩) (eu (l:=pR e) rfl);have v:j<2:=(List.getElem?_eq_some_iff.1 a).1;rw[jP _ _ _ _ (by show 0+k*2+2<=_;omega)];have c:(Value.agg (pR e).toArray).cells.toList=pR e:=rfl;rw[c];have d:(pR e).length=2:=rfl;rw[d];have f:i<es.length:=by simpa using t
 by_cases g:i=k
 ·subst g;rw[List.getElem_set_self]at a;rw[if_pos (by omega),show i*2+j-(0+i*2)=j by omega];exact a
 ·rw[List.getElem_set_ne (by omega)]at a;rw[if_neg (by omega)];exact q i f j u a
end
theorem I0(s t:Nat)(a b:Option Addr)(l l' c c':Nat)(w:World)(o:s<=1000000)(p:t<=1000000):Calls V.prog 157 #[.agg #[.int .i64 s,.slice a l c],.agg #[.int .i64 t,.slice b l' c']] w (eG λv w'=>v=.int .i64 ((s:Int)-t)/\Ext w w'):=by refine go V.func157 Tryz.ntmps157 ?_;refine eO λi j k m e=>eO λn f g h d=>?_;have e:i.heap[j]? =some (.cells #[.int .i64 s,.slice a l c] 29):=e;have d:n.heap[f]? =some (.cells #[.int .i64 t,.slice b l' c'] 29):=d;exact cg (cd (g.at_ e) rfl) (cg (cd d rfl) (fu ⟨_,rfl,rfl,k.trans g⟩))
def Bq:Value:=.func (.func 157) #[] #[]
theorem vD{f c:Nat}{es:List El}{w:World}(h:lF f es w)(hn:0<es.length)(Z:es.length<=1000)(hs:∀e∈es,e.s<=1000000):
 Calls V.prog 200 #[.slice (some ⟨f,0,none⟩) es.length c,.int .i64 0,.int .i64 es.length,Bq] w (eG λv w'=>cr (λx=>x=f) w w'/\lF f (lE El.s es) w'):=by
 refine go V.func200 Tryz.ntmps200 ?_;refine cq ?_;refine gq (es.length-1) (λk (_:Unit)=>[(0,.slice (some ⟨f,0,none⟩) es.length c),(1,.int .i64 0),(2,.int .i64 es.length),(3,Bq),(8,.int .i64 (k+1:Nat))]) (λk _ w'=>cr (λx=>x=f) w w'/\lF f (iE El.s es k) w') () ⟨⟨rfl,rfl,rfl,rfl,rfl,trivial⟩,cr.refl _ _,h⟩ ?_;rintro k _ w1 hk ⟨k1,P⟩;have J:(iE El.s es k).length=es.length:=mj _ _ _;refine cY ⟨λK=>?_,λu=>?_⟩
 ·have K:k+1<es.length:=by
   have:=of_decide_eq_true K;omega
  obtain⟨q,r⟩:∃q,q=iE El.s es k:=⟨_,rfl⟩;have A:∀x∈q,x.s<=1000000:=λx I=>hs x (by rw[r]at I;exact oP _ _ _ _ I);rw[<-r]at P J;refine gq (k+1) (λt (d:List El)=>[(0,.slice (some ⟨f,0,none⟩) es.length c),(1,.int .i64 0),(2,.int .i64 es.length),(3,Bq),(8,.int .i64 (k+1:Nat)),(9,.int .i64 (k+1-t:Nat))]) (λt d w'=>cr (λx=>x=f) w w'/\lF f d w'/\d.length=es.length/\(∀x∈d,x.s<=1000000)/\jS El.s d (k+1-t)=jS El.s q (k+1)) q ⟨⟨rfl,rfl,rfl,rfl,rfl,rfl,trivial⟩,k1,P,J,A,rfl⟩ ?_;rintro t d w2 ht ⟨k2,O,Q,B,C⟩;obtain⟨j,hj⟩:∃j,j=k+1-t:=⟨_,rfl⟩;rw[<-hj]at C⊢;have stop:∀n,Ext w2 n->jS El.s d j=d->cr (λx=>x=f) w n/\lF f (iE El.s es (k+1)) n:=λn l R=>by refine⟨k2.trans (l.keep λ_=>False) (λ_ _ h=>h) λ_ _ h=>h.elim,?_⟩;simp only[iE];rw[<-r,<-C,R];exact O.ext l
  refine cF cB (B9 ⟨λo=>?_,λo=>?_⟩)
  ·have o:0<j:=by
    have:=of_decide_eq_true o;omega
   obtain⟨i,rfl⟩:∃i,j=i+1:=⟨j-1,by omega⟩;have D:i+1<d.length:=by omega
   have E:i<d.length:=by omega
   obtain⟨x,I⟩:∃x,x=d[i+1]:=⟨_,rfl⟩;obtain⟨y,S⟩:∃y,y=d[i]:=⟨_,rfl⟩;have T:=O.cell (i+1) D;have U:=O.cell i E;rw[<-I]at T;rw[<-S]at U;have L:x.s<=1000000:=B x (by rw[I];exact List.getElem_mem _);have M:y.s<=1000000:=B y (by rw[S];exact List.getElem_mem _);have g:jS El.s d (i+1)=if x.s<y.s then jS El.s ((d.set (i+1) y).set i x) i else d:=by simp only[jS];rw[List.getElem?_eq_getElem D,List.getElem?_eq_getElem E,<-I,<-S]
   refine iU (i+1) 2 (by omega) (dx (.agg (pR x).toArray) (λn l=>dp (vs:=pR x) (λm v F=>l.cell (T m v F)) ⟨rfl,Ext.refl _⟩) (qh (iU i 2 (by omega) (dx (.agg (pR y).toArray) (λn l=>dp (vs:=pR y) (λm v F=>l.cell (U m v F)) ⟨rfl,Ext.refl _⟩) (jg (.int .i64 ((x.s:Int)-y.s)) (λn l=>I0 x.s y.s _ _ _ _ _ _ n L M) (J5 λn l=>⟨λG=>?_,λG=>?_⟩))) (by omega))))
   ·have G:x.s<y.s:=by
     have:=of_decide_eq_true G;omega
    rw[if_pos G]at g;have h3:=O.ext l;have k3:cr (λx=>x=f) w n:=k2.trans (l.keep λ_=>False) (λ_ _ h=>h) λ_ _ h=>h.elim;refine fa 15 cB (fg (λx=>x=f)) (λa b h=>h.keep _) ?_;refine .exact (.int .i64 ((i+1:Nat)-1)) (λp _=>fu ⟨rfl,Ext.refl _⟩) (.exact (.int .i64 ((i+1:Nat)-1)) (λp _=>fu ⟨rfl,Ext.refl _⟩) (.exact (.pointer (some ⟨f,0+i*2,none⟩)) (λp _=>fh i 2 (by omega) ⟨rfl,Ext.refl _⟩ (by omega)) ?_));refine .wu rfl (.agg (pR y).toArray) (λp H=>dp (vs:=pR y) (λm v F=>H.cell (l.cell (U m v F))) ⟨rfl,Ext.refl _⟩) (.exact (.pointer (some ⟨f,0+(i+1)*2,none⟩)) (λp _=>fh (i+1) 2 (by omega) ⟨rfl,Ext.refl _⟩) (.wu rfl (.agg (pR x).toArray) (λp H=>dp (vs:=pR x) (λm v F=>H.cell (l.cell (T m v F))) ⟨rfl,Ext.refl _⟩) (.exact (.pointer (some ⟨f,0+(i+1)*2,none⟩)) (λp _=>fh (i+1) 2 (by omega) ⟨rfl,Ext.refl _⟩) ?_)));refine .qN (λ_ p=>lF f (d.set (i+1) y) p) (λ_ a b h e=>h.ext e) (λp H=>Ko (h3.ext H) (i+1) D y λw5 W X=>⟨X,W⟩) ?_;refine .exact (.pointer (some ⟨f,0+i*2,none⟩)) (λp _=>fh i 2 (by omega) ⟨rfl,Ext.refl _⟩ (by omega)) ?_;intro p H Y;have Y:lF f (d.set (i+1) y) p:=Y;refine Ko Y i (by simpa using E) x λw5 W X=>fu ⟨by omega,(d.set (i+1) y).set i x,⟨rfl,rfl,rfl,rfl,rfl,?_,trivial⟩,(k3.trans H (λ_ _ h=>h) λ_ _ h=>h).trans W (λ_ _ h=>h) λ_ _ h=>h,X,by simpa using Q,λz N=>?_,?_⟩
    ·show some (Value.int .i64 (((i+1:Nat):Int)-1))=some (.int .i64 ((k+1-(t+1):Nat)));rw[show((i+1:Nat):Int)-1=((k+1-(t+1):Nat):Int) by omega]
    ·rcases List.mem_or_eq_of_mem_set N with N|rfl
     ·rcases List.mem_or_eq_of_mem_set N with N|rfl
      ·exact B z N
      ·exact M
     ·exact L
    ·rw[show k+1-(t+1)=i by omega,<-g,C]
   ·have G:¬x.s<y.s:=by
     have:=of_decide_eq_false G;omega
    rw[if_neg G]at g;exact cq ⟨by omega,(),⟨rfl,rfl,rfl,rfl,rfl,trivial⟩,stop n l g⟩
  ·have o:j=0:=by
    have:=of_decide_eq_false o;omega
   subst o;exactλn l=>nh rfl (cq ⟨by omega,(),⟨rfl,rfl,rfl,rfl,rfl,trivial⟩,stop n l rfl⟩)
 ·have u:k=es.length-1:=by
   have:=of_decide_eq_false u;omega
  subst u;exact⟨_,rfl,k1,P⟩
def oQ(n0:Nat)(w:World)(v:Value)(es:List El):Prop:=(es=[]/\∃a c,v=.slice a 0 c)\/∃b c,n0<=b/\v=.slice (some ⟨b,0,none⟩) es.length c/\lF b es w
theorem nC(v:Value)(a:Nat)(w:World)(b:a<=1000):Calls V.prog 200 #[v,.int .i64 a,.int .i64 a,Bq] w (eG λv w'=>w'=w):=by refine go V.func200 Tryz.ntmps200 ?_;refine cq ?_;refine gq 0 (λk (_:Unit)=>[(2,.int .i64 a),(8,.int .i64 ((a:Int)+1))]) (λk _ w'=>w'=w) () ⟨⟨rfl,rfl,trivial⟩,rfl⟩ ?_;rintro k _ w' c rfl;exact cY (nh (by simp;omega) ⟨_,rfl,rfl⟩)
theorem Br{n0:Nat}{v:Value}{es:List El}{w:World}(h:oQ n0 w v es)(u:es.length<=20)(y:∀e∈es,e.s<=1000000):
 Calls V.prog 184 #[v,.int .i64 es.length,Bq] w (eG λ_ w'=>cr (λx=>n0<=x) w w'/\oQ n0 w' v (lE El.s es)):=by
 refine go V.func184 Tryz.ntmps184 ?_;have g:(lE El.s es).length=es.length:=mj _ _ _;refine gq 1 (λk (_:Unit)=>[(0,v),(1,.int .i64 es.length),(2,Bq),(6,.int .i64 20),(7,.int .i64 (20*k:Nat)),(8,.int .i64 (20*k+20:Nat))]) (λk _ w'=>cr (λx=>n0<=x) w w'/\(k=0->oQ n0 w' v es)/\(k=1->es.length=20/\oQ n0 w' v (lE El.s es))) () ⟨⟨rfl,rfl,rfl,rfl,rfl,rfl,trivial⟩,cr.refl _ _,λ_=>h,λh=>by omega⟩ ?_;rintro k _ n m ⟨i,z,o⟩;refine u9 ⟨λb=>?_,λb=>?_⟩
 ·have b:20*k+20<=es.length:=by
   have:=of_decide_eq_true b;omega
  obtain rfl:k=0:=by omega
  rcases z rfl with⟨rfl,_⟩|⟨j,c,p,rfl,q⟩
  ·simp at b
  ·have f:es.length=20:=by omega
   have A:=vD (c:=c) q (by omega) (by omega) y;rw[f]at A⊢;refine cf A ?_;rintro _ d ⟨r,t⟩;refine cq ⟨by omega,(),⟨rfl,rfl,rfl,rfl,rfl,rfl,trivial⟩,i.trans r (λ_ _ h=>h) λx _ (B:x=j)=>by omega,λh=>by omega,λ_=>⟨rfl,.inr ⟨j,c,p,by rw[g,f],t⟩⟩⟩
 ·have b:¬20*k+20<=es.length:=by
   have:=of_decide_eq_false b;omega
  have C:∀{Q:QW} {D:L} {d:World},cr (λx=>n0<=x) w d/\oQ n0 d v (lE El.s es)->(∀l w',cr (λx=>n0<=x) w w'/\oQ n0 w' v (lE El.s es)->Q .normal l w')->True:=λ_ _=>trivial;obtain rfl|rfl:k=0\/k=1:=by omega
  ·rcases z rfl with⟨rfl,a,c,rfl⟩|⟨j,c,p,rfl,q⟩
   ·refine cf (nC _ 0 n (by omega)) ?_;rintro _ d rfl;refine gq 0 (λk (_:Unit)=>[(1,.int .i64 0),(6,.int .i64 20)]) (λk _ w'=>w'=d) () ⟨⟨rfl,rfl,trivial⟩,rfl⟩ ?_;rintro k _ w' m rfl;exact cY (nh rfl ⟨_,rfl,i,.inl ⟨rfl,a,c,rfl⟩⟩)
   ·rcases Nat.eq_zero_or_pos es.length with f|f
    ·obtain rfl:=List.eq_nil_of_length_eq_zero f;refine cf (nC _ 0 n (by omega)) ?_;rintro _ d rfl;refine gq 0 (λk (_:Unit)=>[(1,.int .i64 0),(6,.int .i64 20)]) (λk _ w'=>w'=d) () ⟨⟨rfl,rfl,trivial⟩,rfl⟩ ?_;rintro k _ w' m rfl;exact cY (nh rfl ⟨_,rfl,i,.inl ⟨rfl,_,c,rfl⟩⟩)
    ·refine cf (vD (c:=c) q f (by omega) y) ?_;rintro _ d ⟨r,t⟩;refine gq 0 (λk (_:Unit)=>[(1,.int .i64 es.length),(6,.int .i64 20)]) (λk _ w'=>w'=d) () ⟨⟨rfl,rfl,trivial⟩,rfl⟩ ?_;rintro k _ w' m rfl;exact cY (nh (by simp;omega) ⟨_,rfl,i.trans r (λ_ _ h=>h) λx _ (B:x=j)=>by omega,.inr ⟨j,c,p,by rw[g],t⟩⟩)
  ·obtain⟨f,o⟩:=o rfl;rw[f];refine cf (nC _ 20 n (by omega)) ?_;rintro _ d rfl;refine gq 0 (λk (_:Unit)=>[(1,.int .i64 20),(6,.int .i64 20)]) (λk _ w'=>w'=d) () ⟨⟨rfl,rfl,trivial⟩,rfl⟩ ?_;rintro k _ w' m rfl;exact cY (nh rfl ⟨_,rfl,i,o⟩)
theorem oQ.v_{n0:Nat}{v:Value}{es:List El}{w:World}(h:oQ n0 w v es):∃a c,v=.slice a es.length c:=by
 rcases h with⟨rfl,a,c,rfl⟩|⟨b,c,_,rfl,_⟩
 ·exact⟨a,c,rfl⟩
 ·exact⟨_,c,rfl⟩
theorem GY{n0:Nat}{v:Value}{es:List El}{w:World}(h:oQ n0 w v es)(b:es.length<=20)(d:∀e∈es,e.s<=1000000):
 Calls V.prog 156 #[v,Bq] w (eG λ_ w'=>cr (λx=>n0<=x) w w'/\oQ n0 w' v (lE El.s es)):=by
 obtain⟨a,c,rfl⟩:=h.v_;refine go V.func156 Tryz.ntmps156 ?_;refine cA (cf (Br h b d) ?_);rintro _ g f;exact⟨_,rfl,f⟩
def P2(x:Sx):Value:=.agg (iX x).toArray
theorem Bs{wp gp mk ms wb:Nat}{G:Gd}{xs:List Sx}{b:Int}{w:World}(h:io wp gp mk ms G xs b w)(f:w.heap[wb]? =some (.cells #[cu wp] 133))(x:Sx):Calls V.prog 160 #[P2 x,cu wb] w (eG λv w'=>v=.bool (!fE G.tries x)/\Ext w w'):=by obtain⟨o,p,i,q,r,s⟩:=h.at_;refine go V.func160 Tryz.ntmps160 ?_;refine eO λk l d m a=>?_;have a:k.heap[l]? =some (.cells (iX x).toArray 166):=a;refine cF cB (cn (cd (d.at_ f) rfl) (cn (d.cell i) (dx (P2 x) (λe c=>dp (vs:=iX x) (λj v n=>by rw[Nat.zero_add];exact cd (c.at_ a) (by simpa using n)) ⟨rfl,Ext.refl _⟩) (jg (.bool (fE G.tries x)) (λe c=>rO (h.g.ext (d.trans c)) x) (nj λe c=>⟨_,rfl,rfl,d.trans c⟩)))))
def ml(p:Sx->Bool):List Sx->Nat->Int
 |[],_=> -1
 |y::r,i=>if p y then i else ml p r (i+1)
theorem zI(p:Sx->Bool)(l:List Sx)(k:Nat)(a:k<l.length):ml p (l.drop k) k=if p l[k]then(k:Int)else ml p (l.drop (k+1)) (k+1):=by rw[List.drop_eq_getElem_cons a];rfl
theorem tS(p:Sx->Bool):∀(l:List Sx) (i:Nat),decide (0<=ml p l i)=l.any p
 |[],_=>rfl
 |y::r,i=>by
  simp only[ml,List.any_cons];by_cases h:p y=true
  ·simp[h]
  ·have h:p y=false:=by simpa using h
   simpa[h]using tS p r (i+1)
theorem Ed{wp gp mk ms wb:Nat}{G:Gd}{xs:List Sx}{d:Int}{w:World}(h:io wp gp mk ms G xs d w)(p:w.heap[wb]? =some (.cells #[cu wp] 133)){ys:List Sx}{a:Option Addr}{c:Nat}(q:oJ w a ys)(l:ys.length<=100000):
 Calls V.prog 159 #[.slice a ys.length c,.func (.func 160) #[] #[cu wb]] w (eG λv w'=>v=.bool (ys.any λx=>!fE G.tries x)/\Ext w w'):=by
 have g:Calls V.prog 185 #[.slice a ys.length c,.func (.func 160) #[] #[cu wb]] w (eG λv w'=>v=.int .i64 (ml (λx=>!fE G.tries x) ys 0)/\Ext w w'):=by
  refine go V.func185 Tryz.ntmps185 ?_;refine cA (dg (n:=ys.length) (λk=>[(0,.slice a ys.length c),(1,.func (.func 160) #[] #[cu wb]),(7,.int .i64 ys.length),(8,.int .i64 k)]) (λk w'=>Ext w w'/\ml (λx=>!fE G.tries x) ys 0=ml (λx=>!fE G.tries x) (ys.drop k) k) ⟨⟨rfl,rfl,rfl,rfl,trivial⟩,Ext.refl _,rfl⟩ ?_ ?_ ?_)
  ·rintro k j i r;exact cY ⟨rfl,rfl,⟨rfl,rfl,rfl,rfl,trivial⟩,r⟩
  ·rintro k j i ⟨e,f⟩;obtain⟨b,o,rfl,s⟩:=(q.ext e) k i;rw[zI _ _ _ i]at f;refine fh k 8 i (dp (vs:=iX ys[k]) s (dU (v0:=.bool (!fE G.tries ys[k])) (Bs (h.ext e) (e.at_ p) ys[k]) λy m=>⟨λt=>?_,λu=>?_⟩))
   ·rw[if_pos t]at f;exact⟨_,rfl,by rw[f];rfl,e.trans m⟩
   ·rw[if_neg (by rw[u];simp)]at f;exact cq ⟨⟨rfl,rfl,rfl,rfl,trivial⟩,e.trans m,f⟩
  ·rintro j ⟨e,f⟩;exact⟨_,rfl,by rw[f];simp[ml],e⟩
 refine go V.func159 Tryz.ntmps159 ?_;exact dU g λj e=>ve ⟨_,rfl,by rw[<-tS _ ys 0];rfl,e⟩
def fi(T:Int)(sh:Nat):List Sx->List Nat->Option (List Sx)
 |xs,[]=>some xs
 |xs,d::r=>if uu (xs.getD d pQ) (sh/2)||fE T (xs.getD d pQ)then none else fi T sh (xs.set d (gm (xs.getD d pQ) sh false)) r
def Ee(f:Nat->Int)(s:Nat)(v:Int):Nat->Int:=λx=>if x=s then v else f x
def fJ(G:Gd)(canv:Int):List Sx->(Nat->Int)->List (Nat×List Nat)->Option (List Sx)
 |xs,_,[]=>some xs
 |xs,a,p::r=>if canv<a p.1+1\/G.minutes<eI G p.2 then none else match fi G.tries p.1 xs p.2 with
  |none=>none
  |some xs'=>fJ G canv xs' (Ee a p.1 (a p.1+1)) r
def nS(G:Gd)(xs:List Sx)(canv:Int)(ps:List (Nat×List Nat)):Bool:=match fJ G canv xs (λ_=>0) (lE Prod.fst ps)with
 |none=>false
 |some a=>!a.any λx=>!fE G.tries x
theorem rD(T:Int)(sh:Nat)(xs:List Sx)(l:List Nat)(k:Nat)(a:k<l.length):fi T sh xs (l.drop k)=if uu (xs.getD l[k] pQ) (sh/2)||fE T (xs.getD l[k] pQ)then none else fi T sh (xs.set l[k] (gm (xs.getD l[k] pQ) sh false)) (l.drop (k+1)):=by rw[List.drop_eq_getElem_cons a];rfl
theorem rE(G:Gd)(canv:Int)(xs:List Sx)(a:Nat->Int)(ps:List (Nat×List Nat))(k:Nat)(b:k<ps.length):fJ G canv xs a (ps.drop k)=if canv<a ps[k].1+1\/G.minutes<eI G ps[k].2 then none else match fi G.tries ps[k].1 xs ps[k].2 with
 |none=>none
 |some xs'=>fJ G canv xs' (Ee a ps[k].1 (a ps[k].1+1)) (ps.drop (k+1)):=by
 rw[List.drop_eq_getElem_cons b];rfl
theorem oS.le{k m:Nat}{x:Sx}(h:oS k x)(d:k<=m):oS m x:=by obtain⟨a,b,c⟩:=h;refine⟨⟨a.1,by omega⟩,⟨b.1,by omega⟩,c.1,by omega⟩
theorem rf{α:Type}{P:Nat->α->Prop}:∀(n:Nat),(∀k,k<n->∃x,P k x)->∃l:List α,l.length=n/\∀k (h:k<l.length),P k l[k]
 |0,_=>⟨[],rfl,λk b=>by simp at b⟩
 |n+1,h=>by
  obtain⟨l,c,d⟩:=rf n λk b=>h k (by omega);obtain⟨x,e⟩:=h n (by omega);refine⟨l++[x],by simp[c],λk b=>?_⟩;rcases Nat.lt_or_ge k l.length with a|f
  ·rw[List.getElem_append_left a];exact d k a
  ·obtain rfl:k=n:=by simp at b;omega
   have:(l++[x])[k]=x:=by simp[c]
   rw[this];exact e
theorem qz:∀es:List El,(es.flatMap pR).length=es.length*2
 |[]=>rfl
 |x::r=>by have:=qz r;simp[pR,this];omega
theorem qA:∀(es:List El) (k:Nat) (a:k<es.length) (j:Nat) (v:Value),(pR es[k])[j]? =some v->(es.flatMap pR)[k*2+j]? =some v
 |x::r,0,_,j,v,h=>by have b:j<(pR x).length:=(List.getElem?_eq_some_iff.1 h).1;simp only[List.flatMap_cons,Nat.zero_mul,Nat.zero_add];rw[List.getElem?_append_left b];exact h
 |x::r,k+1,a,j,v,h=>by have c:=qA r k (by simpa using a) j v (by simpa using h);have d:(pR x).length=2:=rfl;simp only[List.flatMap_cons];rw[List.getElem?_append_right (by omega),d,show(k+1)*2+j-2=k*2+j by omega];exact c
def Ef(e:El):Nat×List Nat:=(e.s,e.l)
theorem qy.Q5{w:World}{a:Option Addr}{ps:List (Nat×List Nat)}(h:qy w a ps):∃es:List El,es.map Ef=ps/\(∀e∈es,dV w e.a e.l/\e.l.length<=e.c)/\gD w a (es.flatMap pR):=by
 obtain⟨es,y,m⟩:=rf (P:=λk (e:El)=>∃(f:k<ps.length),Ef e=ps[k]/\dV w e.a e.l/\e.l.length<=e.c/\∃b o,a=some ⟨b,o,none⟩/\∀j v,(pR e)[j]? =some v->w.cell? ⟨b,o+k*2+j,none⟩=some v) ps.length λk f=>by
  obtain⟨b,o,z,A,n,p,B,C,D⟩:=h k f;refine⟨⟨ps[k].1,z,A,ps[k].2⟩,f,rfl,C,D,b,o,n,λj v d=>?_⟩;match j,d with
  |0,d=>cases d;exact p
  |1,d=>cases d;exact B
 refine⟨es,?_,λe E=>?_,?_⟩
 ·apply List.ext_getElem
  ·simpa using y
  ·intro i g q;rw[List.getElem_map];exact(m i (by simpa using g)).2.1
 ·obtain⟨i,F,rfl⟩:=List.getElem_of_mem E;obtain⟨_,_,n,p,_⟩:=m i F;exact⟨n,p⟩
 ·rcases es with _|⟨x,r⟩
  ·exact .inl rfl
  ·obtain⟨_,_,_,_,b,o,rfl,_⟩:=m 0 (by simp);refine .inr ⟨b,o,rfl,λj u d=>?_⟩;have G:j<(x::r).length*2:=by rw[<-qz];exact(List.getElem?_eq_some_iff.1 d).1
   have f:j/2<(x::r).length:=by omega
   obtain⟨_,_,_,_,H,I,e,J⟩:=m (j/2) f;obtain⟨rfl,rfl⟩:b=H/\o=I:=by injection e with e;injection e with K L;exact⟨K,L⟩
   have M:j%2<(pR (x::r)[j/2]).length:=by show j%2<2;omega
   have t:=List.getElem?_eq_getElem M;have g:=qA (x::r) (j/2) f (j%2) _ t;have q:=J (j%2) _ t;have s:j/2*2+j%2=j:=by omega
   rw[s]at g;rw[d]at g;obtain rfl:=Option.some.inj g;have:o+j/2*2+j%2=o+j:=by omega
   rw[this]at q;exact q
theorem qy.nq{w:World}{ps:List (Nat×List Nat)}(h:qy w none ps):ps.length=0:=by
 rcases ps with _|⟨x,r⟩
 ·rfl
 ·obtain⟨b,o,_,_,e,_⟩:=h 0 (by simp);cases e
theorem qy.eC{n0:Nat}{w w':World}{a:Option Addr}{ps:List (Nat×List Nat)}(h:qy w a ps)(e:fA n0 w w'):qy w' a ps:=λk c=>by obtain⟨b,o,d,f,g,i,j,l,m⟩:=h k c;exact⟨b,o,d,f,g,e.cell i,e.cell j,l.eC e,m⟩
theorem zJ{es:List El}{a:Option Addr}{c:Nat}{w:World}(i:gD w a (es.flatMap pR))(l:a=none->es.length=0)(d:es.length<=1000000):Calls V.prog 155 #[.slice a es.length c] w (eG λv w'=>Ext w w'/\oQ w.heap.size w' v es):=by
 refine(Ge a es.length c (es.flatMap pR) w (qz es) l i (λu f=>?_) d).mono ?_
 ·obtain⟨x,_,f⟩:=List.mem_flatMap.1 f;simp[pR]at f;rcases f with rfl|rfl<;>rfl
 ·rintro e w' ⟨v,rfl,g,A,⟨m,rfl⟩|⟨b,n,o,p,rfl,q,r,s,B,t,C⟩⟩
  ·exact⟨_,rfl,g,.inl ⟨List.eq_nil_of_length_eq_zero m,none,0,rfl⟩⟩
  ·refine⟨_,rfl,g,.inr ⟨b,n,p,rfl,⟨o,q,?_,λk y j v z=>?_⟩⟩⟩
   ·have:([.int .i64 0,.slice none 0 0]:List Value).length=2:=rfl;rw[this]at r;have:=Nat.mul_le_mul_right 2 s;omega
   ·have h:=qA es k y j v z;rw[t _ (List.getElem?_eq_some_iff.1 h).1];exact h
def I1(a:Nat)(f:Nat->Int)(w:World):Prop:=w.heap[a]? =some (.cells #[.int .i64 (f 0),.int .i64 (f 1),.int .i64 (f 2),.int .i64 (f 3),.int .i64 (f 4),.int .i64 (f 5)] 178)
theorem I1.cell{a:Nat}{f:Nat->Int}{w:World}(h:I1 a f w){s:Nat}(b:s<6):w.cell? ⟨a,0+s,none⟩=some (.int .i64 (f s)):=by
 have:s=0\/s=1\/s=2\/s=3\/s=4\/s=5:=by omega
 rcases this with rfl|rfl|rfl|rfl|rfl|rfl<;>exact cd h rfl
theorem LR{w:World}{k:World->Prop}{a:Nat}{f:Nat->Int}(h:I1 a f w)(s:Nat)(v:Int)(e:s<6)(b:∀w',cr (λx=>x=a) w w'->I1 a (Ee f s v) w'->k w'):yF V.prog (Instr.storeAt 3 (.pointer (some ⟨a,0+s,none⟩)) (.int .i64 v)) w k:=by
 have:s=0\/s=1\/s=2\/s=3\/s=4\/s=5:=by omega
 rcases this with rfl|rfl|rfl|rfl|rfl|rfl<;>exact cK h λw' c d=>b w' c (by unfold I1;rw[d];rfl)
theorem oL.keep{n0:Nat}{w w':World}{v:Value}{xs:List Sx}{F:Nat->Prop}(h:oL n0 w v xs)(k:cr F w w')(d:∀b,ce v b->¬F b):oL n0 w' v xs:=by
 rcases h with h|⟨a,c,e,rfl,f⟩
 ·exact .inl h
 ·exact .inr ⟨a,c,e,rfl,f.keep k (d a ⟨_,_,rfl⟩)⟩
theorem oQ.keep{n0:Nat}{w w':World}{v:Value}{es:List El}{F:Nat->Prop}(h:oQ n0 w v es)(k:cr F w w')(d:∀b,ce v b->¬F b):oQ n0 w' v es:=by
 rcases h with h|⟨a,c,e,rfl,f⟩
 ·exact .inl h
 ·exact .inr ⟨a,c,e,rfl,f.keep k (d a ⟨_,_,rfl⟩)⟩
theorem oL.v_{n0:Nat}{w:World}{v:Value}{xs:List Sx}(h:oL n0 w v xs):∃a c,v=.slice a xs.length c:=by
 rcases h with⟨rfl,a,c,rfl⟩|⟨b,c,_,rfl,_⟩
 ·exact⟨a,c,rfl⟩
 ·exact⟨_,c,rfl⟩
theorem oL.O4{n0:Nat}{w:World}{v:Value}{xs:List Sx}(h:oL n0 w v xs):∃a c,v=.slice a xs.length c/\oJ w a xs:=by
 rcases h with⟨rfl,a,c,rfl⟩|⟨e,c,_,rfl,b⟩
 ·exact⟨a,c,rfl,λk d=>by simp at d⟩
 ·exact⟨_,c,rfl,b.row⟩
theorem oL.blk{n0:Nat}{w:World}{v:Value}{xs:List Sx}(h:oL n0 w v xs)(a:0<xs.length){b:Nat}(d:ce v b):n0<=b/\b<w.heap.size:=by
 rcases h with⟨rfl,_⟩|⟨g,c,e,rfl,f⟩
 ·simp at a
 ·obtain⟨i,q,_⟩:=f.out;have:=ck.lt_of_heap q;rw[jj (l':=0) (c':=0) d];exact⟨e,this⟩
theorem Eg{wp gp mk ms:Nat}{G:Gd}{xs:List Sx}{ah canv:Int}{w:World}(h:io wp gp mk ms G xs ah w)(a7:∀x∈xs,oS 100000 x){ps:List (Nat×List Nat)}{pa:Option Addr}{pc:Nat}(hr:qy w pa ps)(bp:ps.length<=20)(aL:∀p∈ps,p.1<6/\p.2.length<=1000/\∀d∈p.2,d<xs.length):
 Calls V.prog 109 #[cu wp,.int .i64 canv,.slice pa ps.length pc] w (eG λv w'=>v=.bool (nS G xs canv ps)/\Ext w w'):=by
 have a8:=h.g.pw;have h5:=a8.many;have bt:=h.len;obtain⟨es,ai,a9,aj⟩:=hr.Q5;have W:es.length=ps.length:=by rw[<-ai];simp
 refine go V.func109 Tryz.ntmps109 ?_;refine eO λw1 wb e1 bu I=>?_;have I:w1.heap[wb]? =some (.cells #[cu wp] 133):=I;have bv:=ck.lt_of_heap I;obtain⟨sa,sc,g1,g2,g3,g4⟩:=h.at_;refine cg (cd I rfl) (cg (e1.cell g2) (cf (pC (g4.ext e1) (by omega)) ?_));rintro dv w2 ⟨e2,aB⟩;refine dS λw3 mb e3 bw au=>?_;have ba:I1 mb (λ_=>0) w3:=au;have bx:=ck.lt_of_heap au;have s1:=e1.size;have s2:=e2.size;have aM:=(e1.trans e2).trans e3;have aN:=zJ (c:=pc) (w:=w3) (by
  rcases aj with H|⟨b,o,q1,q2⟩
  ·exact .inl H
  ·exact .inr ⟨b,o,q1,λj u hj=>aM.cell (q2 j u hj)⟩) (λe=>by subst e;rw[W];exact hr.nq) (by omega)
 rw[W]at aN;refine cf aN ?_;rintro ev w4 ⟨e4,bb⟩;have aO:∀e∈es,e.s<6:=λe he=>(aL (Ef e) (by rw[<-ai];exact List.mem_map_of_mem he)).1;refine cf (GY bb (by omega) λe he=>by have:=aO e he;omega) ?_;rintro _ w5 ⟨k5,aC⟩;obtain⟨C,ak⟩:∃C,C=lE El.s es:=⟨_,rfl⟩;rw[<-ak]at aC;have bz:C.length=ps.length:=by rw[ak,<-W];exact mj _ _ _
 have bc:∀e∈C,e∈es:=λe he=>oP _ _ _ _ (by rw[ak]at he;exact he);have bd:lE Prod.fst ps=C.map Ef:=by rw[ak,<-ai];exact Ec El.s Prod.fst Ef (λx=>rfl) es
 obtain⟨ea,ec,rfl⟩:=aC.v_;have al:Ext w3 w5:=e4.Cq k5 λb hb=>hb;have E5:=aM.trans al;obtain⟨da,dc,rfl⟩:=aB.v_;have av:∀b,0<xs.length->ce (.slice da xs.length dc) b->w1.heap.size<=b/\b<w2.heap.size:=λb H hb=>aB.blk H hb
 have X:nS G xs canv ps=match fJ G canv xs (λ_=>0) (C.map Ef)with
  |none=>false
  |some be=>!be.any λx=>!fE G.tries x:=by unfold nS;rw[bd]<;>rfl
 have s3:=e3.size;have s4:=e4.size;have s5:=k5.size;refine cA ?_
 refine fw (n:=C.length) (λk (st:List Sx×(Nat->Int))=>[(1,.int .i64 canv),(3,cu wb),(7,.slice da xs.length dc),(8,cu mb),(23,.slice ea C.length ec),(24,.int .i64 C.length),(25,.int .i64 k)])
  (λk st w'=>Ext w w'/\w5.heap.size<=w'.heap.size/\w'.heap[wb]? =some (.cells #[cu wp] 133)/\oL w1.heap.size w' (.slice da xs.length dc) st.1/\I1 mb st.2 w'/\oQ w3.heap.size w' (.slice ea C.length ec) C/\st.1.length=xs.length/\(∀x∈st.1,oS (100000+1000*k) x)/\(∀s,0<=st.2 s/\st.2 s<=k)/\fJ G canv xs (λ_=>0) (C.map Ef)=fJ G canv st.1 st.2 ((C.map Ef).drop k))
  (xs,λ_=>0) ⟨⟨rfl,rfl,rfl,rfl,rfl,rfl,rfl,trivial⟩,E5,Nat.le_refl _,((e2.trans e3).trans al).at_ I,aB.keep ((e3.trans al).keep λ_=>False) (λ_ _ h=>h),al.at_ ba,aC,rfl,a7,λs=>by simp,rfl⟩ ?_ ?_ ?_
 ·rintro k st w6 hk hJ;exact cY ⟨rfl,rfl,⟨rfl,rfl,rfl,rfl,rfl,rfl,rfl,trivial⟩,hJ⟩
 ·rintro k ⟨ys,t⟩ w6 hk ⟨E6,s6,Y,Z,aD,aP,P,aE,J,f⟩;simp only at Z aD P aE J f;rcases aP with⟨h0,_⟩|⟨eb,bA,bf,K,aF⟩
  ·rw[h0]at hk;simp at hk
  injection K with K _ aa;subst K;subst aa;obtain⟨e,he⟩:∃e,e=C[k]:=⟨_,rfl⟩;have L:e∈es:=bc e (by rw[he];exact List.getElem_mem _);have aQ:=aF.cell k hk;rw[<-he]at aQ;have z:=aO e L;obtain⟨aR,bB⟩:=a9 e L;obtain⟨_,aS,am⟩:=aL (Ef e) (by rw[<-ai];exact List.mem_map_of_mem L);have aS:e.l.length<=1000:=aS;have am:∀d∈e.l,d<xs.length:=am;have bg:k<(C.map Ef).length:=by simpa using hk
  rw[rE G canv ys t _ k bg]at f;have bh:(C.map Ef)[k]=(e.s,e.l):=by rw[List.getElem_map,<-he];rfl
  rw[bh]at f;simp only at f;refine fh k 2 hk (dp (vs:=pR e) aQ (dS λw7 xb e7 aT aU=>cK aU λw8 k8 an=>?_));have an:w8.heap[xb]? =some (.cells #[.int .i64 e.s,.slice e.a e.l.length e.c] 29):=an;have Q:Ext w6 w8:=e7.cj k8 aT;have bC:eb<w6.heap.size:=by obtain⟨cs,q,_⟩:=aF.out;exact ck.lt_of_heap q
  have aV:I1 mb t w8:=Q.at_ aD;refine cg (cd an rfl) (oG e.s 6 z (cg (aV.cell z) (cq (oG e.s 6 z (LR aV e.s (t e.s+1) z λw9 k9 aG=>?_)) (by have:=J e.s;omega))));have E9:Ext w w9:=(E6.trans Q).cj k9 (by omega);have ab:w9.heap[wb]? =some (.cells #[cu wp] 133):=k9.ef (Q.at_ Y) (by omega);have aH:w9.heap[xb]? =some (.cells #[.int .i64 e.s,.slice e.a e.l.length e.c] 29):=k9.ef an (by omega);have bi:∀b,0<xs.length->ce (.slice da xs.length dc) b->¬b=mb:=λb H hb=>by have:=av b H hb;omega
  have bj:oL w1.heap.size w9 (.slice da xs.length dc) ys:=by
   rcases Nat.eq_zero_or_pos xs.length with H|H
   ·have hy:ys=[]:=List.eq_nil_of_length_eq_zero (P.trans H);rw[hy,H];exact .inl ⟨rfl,_,_,rfl⟩
   ·exact(Z.keep (Q.keep λ_=>False) λ_ _ h=>h).keep k9 λb hb=>bi b H hb
  have bk:lF eb C w9:=(aF.ext Q).keep k9 (by omega);have aI:=h.ext E9;obtain⟨bD,bE,z1,z2,z3,z4⟩:=aI.at_;obtain⟨r,E⟩:∃r,r=Ee t e.s (t e.s+1):=⟨_,rfl⟩;rw[<-E]at aG f;have bl:r e.s=t e.s+1:=by rw[E];unfold Ee;rw[if_pos rfl]
  have aW:∀s,0<=r s/\r s<=(k+1:Nat):=λs=>by rw[E];unfold Ee;have:=J s;have:=J e.s;split<;>omega
  have s9:=Q.size;have bF:=k9.size;have aX:∀w',Ext w9 w'->fJ G canv xs (λ_=>0) (C.map Ef)=none->∃v,Ending.returned (one [.bool false])=.returned v/\v=.bool (nS G xs canv ps)/\Ext w w':=λw' e' hn=>⟨_,rfl,by rw[X,hn];rfl,E9.trans e'⟩;have aY:=aG.cell z;rw[bl]at aY;refine cF cB (cn (cd aH rfl) (lX e.s 6 z (cn aY (B9 ⟨λM=>?_,λM=>?_⟩))))
  ·have M:canv<t e.s+1:=of_decide_eq_true M;exactλac y=>je rfl (aX ac y (by rw[f,if_pos (.inl M)]))
  have M:¬canv<t e.s+1:=of_decide_eq_false M;refine cn (cd ab rfl) (cn z1 (cn (cd aH rfl) (jg (.int .i64 (eI G e.l)) (λac y=>wB (aI.g.ext y) (λd hd=>by have:=am d hd;omega) (by omega) ((aR.ext E9).ext y)) (cn (cd ab rfl) (cn z1 (cn aI.g.c3 (B9 λac y=>⟨λA=>?_,λA=>?_⟩)))))))
  ·have A:G.minutes<eI G e.l:=of_decide_eq_true A;exact aX ac y (by rw[f,if_pos (.inr A)])
  have A:¬G.minutes<eI G e.l:=of_decide_eq_false A;rw[if_neg (λH=>H.elim M A)]at f;have aw:=y.at_ aH;have bG:=y.size;refine cg (cd aw rfl) (cA ?_)
  refine fw (n:=e.l.length) (λj (m:List Sx)=>[(1,.int .i64 canv),(3,cu wb),(7,.slice da xs.length dc),(8,cu mb),(11,cu xb),(23,.slice (some ⟨eb,0,none⟩) C.length ec),(24,.int .i64 C.length),(25,.int .i64 k),(60,.slice e.a e.l.length e.c),(61,.int .i64 e.l.length),(62,.int .i64 j)])
   (λj m w'=>Ext w w'/\ac.heap.size<=w'.heap.size/\w'.heap[wb]? =some (.cells #[cu wp] 133)/\oL w1.heap.size w' (.slice da xs.length dc) m/\I1 mb r w'/\lF eb C w'/\w'.heap[xb]? =some (.cells #[.int .i64 e.s,.slice e.a e.l.length e.c] 29)/\m.length=xs.length/\(∀x∈m,oS (100000+1000*k+j) x)/\fi G.tries e.s ys e.l=fi G.tries e.s m (e.l.drop j)) ys ⟨⟨rfl,rfl,rfl,rfl,rfl,rfl,rfl,rfl,rfl,rfl,rfl,trivial⟩,E9.trans y,Nat.le_refl _,y.at_ ab,bj.keep (y.keep λ_=>False) (λ_ _ h=>h),y.at_ aG,bk.ext y,aw,P,aE,rfl⟩ ?_ ?_ ?_
  ·rintro j m ao hj hJ;exact cY ⟨rfl,rfl,⟨rfl,rfl,rfl,rfl,rfl,rfl,rfl,rfl,rfl,rfl,rfl,trivial⟩,hJ⟩
  ·rintro j m ao hj ⟨R,bm,F,ad,ae,af,O,S,ap,B⟩;obtain⟨lb,lo,aZ,a0⟩:=(aR.ext R) j hj;obtain⟨d,hd⟩:∃d,d=e.l[j]:=⟨_,rfl⟩;rw[<-hd]at a0;have aq:d<xs.length:=by rw[hd];exact am _ (List.getElem_mem hj)
   rw[aZ];refine dT j hj (cg a0 ?_);rw[<-aZ];rcases ad with⟨h0,_⟩|⟨sb,c',a1,K,hS⟩
   ·rw[h0]at S;simp at S;omega
   injection K with K _ aa;subst K;subst aa;have ar:d<m.length:=by omega
   have bH:sb<w2.heap.size:=(av sb (by omega) ⟨_,_,rfl⟩).2;have bq:w1.heap.size<=sb:=a1;have ax:=h.ext R;obtain⟨br,bs,t1,t2,t3,t4⟩:=ax.at_;have B:=B;rw[rD _ _ _ _ j hj,<-hd,getD_eq ar]at B;have aJ:∀{w'},jQ sb m w'->∀i v,(iX m[d])[i]? =some v->w'.cell? ⟨sb,0+d*8+i,none⟩=some v:=λhS i v hi=>by obtain⟨cs,y1,y2,y3⟩:=hS.out;exact cd y1 (by rw[Nat.zero_add];exact y3 d ar i v hi)
   have a2:ao.cell? ⟨sb,0+d*8+4+e.s/2,none⟩=some (.bool (uu m[d] (e.s/2))):=by
    have:(iX m[d])[4+e.s/2]? =some (.bool (uu m[d] (e.s/2))):=by
     obtain h0|h0|h0:e.s/2=0\/e.s/2=1\/e.s/2=2:=by omega
     all_goals rw[h0];rfl
    have:=aJ hS _ _ this;rwa[<-Nat.add_assoc]at this
   have ay:∀w',Ext ao w'->fi G.tries e.s ys e.l=none->∃v,Ending.returned (one [.bool false])=.returned v/\v=.bool (nS G xs canv ps)/\Ext w w':=λw' e' hn=>⟨_,rfl,by rw[hn]at f;rw[X,f];rfl,R.trans e'⟩;refine cF cB (cn (cd O rfl) (dx (.int .i64 (e.s/2:Nat)) (λN _=>qj (n:=2) (by omega) (by omega) ⟨rfl,Ext.refl _⟩) (iU d 8 aq (dx (.pointer (some ⟨sb,0+d*8+4+e.s/2,none⟩)) (λN _=>rP 3 (by omega) ⟨rfl,Ext.refl _⟩) (cn a2 ⟨λh1=>?_,λh1=>?_⟩)))))
   ·exactλN D=>je rfl (ay N D (by rw[B,if_pos (by rw[h1];rfl)]))
   refine cn (cd F rfl) (cn t1 (iU d 8 aq (dx (.agg (iX m[d]).toArray) (λN D=>dp (vs:=iX m[d]) (aJ (hS.ext D)) ⟨rfl,Ext.refl _⟩) (jg (.bool (fE G.tries m[d])) (λN D=>rO (ax.g.ext D) m[d]) λN D=>⟨λh2=>?_,λh2=>?_⟩))))
   ·exact ay N D (by rw[B,if_pos (by rw[h2];simp)])
   rw[if_neg (by rw[h1,h2];simp)]at B;have a3:=ap _ (List.getElem_mem ar);have bn:(0<=m[d].tries/\m[d].tries<=1000000)/\(0<=m[d].mornings/\m[d].mornings<=1000000)/\0<=m[d].evenings/\m[d].evenings<=1000000:=by obtain⟨z1,z2,z3⟩:=a3;omega
   have az:=hS.ext D;have a4:=D.at_ O;refine cF cB (iU d 8 aq (dx (.agg (iX m[d]).toArray) (λaK ag=>dp (vs:=iX m[d]) (aJ (az.ext ag)) ⟨rfl,Ext.refl _⟩) (cn (cd a4 rfl) (jg (.agg (iX (gm m[d] e.s false)).toArray) (λaK ag=>vh m[d] e.s false aK z bn) (iU d 8 aq λaK ag=>?_)))));have T:=D.trans ag;refine Gk (az.ext ag) d 0 ar (by omega) (gm m[d] e.s false) (Nat.le_of_ble_eq_true rfl) (λi u hi=>?_) λbI U a5=>?_
   ·have bo:i<8:=(List.getElem?_eq_some_iff.1 hi).1;rw[if_pos ⟨Nat.zero_le _,bo⟩];exact hi
   have bJ:=T.size;refine cq ⟨m.set d (gm m[d] e.s false),⟨rfl,rfl,rfl,rfl,rfl,rfl,rfl,rfl,rfl,rfl,rfl,trivial⟩,(R.trans T).cj U (by omega),by have:=U.size;omega,U.ef (T.at_ F) (by omega),.inr ⟨sb,dc,a1,by rw[List.length_set,S],a5⟩,U.ef (T.at_ ae) (by omega),(af.ext T).keep U (by omega),U.ef (T.at_ O) (by omega),by simpa using S,λx H=>?_,B⟩;rcases List.mem_or_eq_of_mem_set H with H|rfl
   ·exact(ap x H).le (by omega)
   ·exact(a3.Kf e.s false).le (by omega)
  ·rintro m ao ⟨R,bm,F,ad,ae,af,O,S,ap,B⟩;have B:fi G.tries e.s ys e.l=some m:=by rw[B];simp[fi]
   rw[B]at f;simp only at f;refine cq ⟨(m,r),⟨rfl,rfl,rfl,rfl,rfl,rfl,rfl,trivial⟩,R,by omega,F,ad,ae,.inr ⟨eb,ec,bf,rfl,af⟩,S,λx H=>(ap x H).le (by omega),aW,f⟩
 ·rintro⟨ys,t⟩ w6 ⟨E6,s6,Y,Z,aD,aP,P,aE,J,f⟩;simp only at Z P f;have f:fJ G canv xs (λ_=>0) (C.map Ef)=some ys:=by rw[f,List.drop_of_length_le (by simp)];rfl
  obtain⟨a6,c6,q1,q2⟩:=Z.O4;injection q1 with q1 _ q3;subst q1;subst q3;have aA:=Ed (h.ext E6) Y q2 (c:=dc) (by omega);rw[P]at aA;refine dU aA λw7 e7=>ek ⟨_,rfl,?_,E6.trans e7⟩;rw[X,f];rfl
theorem rz.N4{w w':World}{gp mk ms:Nat}{G:Gd}(h:rz w gp mk ms G w'):hH (λ_=>False) mk ms G w':=
 ⟨⟨#[],0,h.sm,λe a=>by cases a⟩,⟨#[],0,h.km,λe a=>by cases a⟩,λh=>h,λh=>h⟩
def dm(G:Gd)(l:List Tq)(a canv:Int):Int:=if wN G l=0 then(if pz G (gQ l) a=0 then(if lH canv 0 5 then 0 else 1)else pz G (gQ l) a)else wN G l
def GZ(w:World)(G:Gd)(l:List Tq)(e:Int)(v:Value)(w':World):Prop:=
 (e≠0/\v=.tuple #[.pointer none,.int .i64 e])\/(e=0/\∃a b mk c,v=.tuple #[cu a,.int .i64 0]/\zn w a b mk c G (gF G l).2 (gQ l) w'/\∀x∈(gF G l).2,oS 100000 x)
section
variable{G:Gd}{da:Option Addr}{dc:Nat}{w:World}{l:List Tq}{la:Option Addr}{lc:Nat}
theorem jk(m:fZ w da G.doors)(f:G.doors.length<=100000)(n: -1000000<=G.streets/\G.streets<=1000000)(o:qq w la l)(g:l.length<=100000)(a canv:Int):
 Calls V.prog 105 #[gV G da dc,.slice la l.length lc,.int .i64 a,.int .i64 canv] w (eG λv w'=>Ext w w'/\GZ w G l (dm G l a canv) v w'):=by
 refine go V.func105 Tryz.ntmps105 ?_;refine eO λy z e p q=>fW q (cf (DC (dc:=dc) (m.ext e) f n (o.ext e) g) ?_);rintro v A ⟨h,⟨c,rfl⟩|⟨c,r,s,mk,t,rfl,j,u⟩⟩
 ·exact eP (je (by simpa using c) ⟨_,rfl,e.trans h,.inl ⟨by unfold dm;rw[if_neg c];exact c,by unfold dm;rw[if_neg c];rfl⟩⟩)
 refine eP (nh (by simp) (cL (Iz j.k a) (eP ⟨λb=>?_,λb=>?_⟩)))
 ·have b:¬pz G (gQ l) a=0:=of_decide_eq_true b;exact⟨_,rfl,e.trans h,.inl ⟨by unfold dm;rw[if_pos c,if_neg b];exact b,by unfold dm;rw[if_pos c,if_neg b];rfl⟩⟩
 ·have b:pz G (gQ l) a=0:=by simpa using b
  refine cL (du _ _ _ _) (ek ⟨λd=>?_,λd=>?_⟩)
  ·have d:lH canv 0 5=false:=by simpa using d
   exact⟨_,rfl,e.trans h,.inl ⟨by unfold dm;rw[if_pos c,if_pos b,d];decide,by unfold dm;rw[if_pos c,if_pos b,d];rfl⟩⟩
  ·have d:lH canv 0 5=true:=by simpa using d
   exact⟨_,rfl,e.trans h,.inr ⟨by unfold dm;rw[if_pos c,if_pos b,d];rfl,r,s,mk,t,rfl,j.low e,λx i=>(u x i).le g⟩⟩
theorem iJ{a canv:Int}(c:G.Ok)(h:dm G l a canv=0):∃f:Nat,a=f/\f<=ei G/\f<2*G.days:=by
 unfold dm at h;split at h
 ·split at h
  ·rename_i b;unfold pz at b;split at b
   ·rename_i d;simp only[lH,Bool.and_eq_true,decide_eq_true_eq]at d;have:=c.days;exact⟨a.toNat,by omega,by unfold ei;omega,by omega⟩
   ·omega
  ·rename_i b;exact absurd h b
 ·rename_i e;exact absurd h e
def LU(n0:Nat)(o:Option (List (List Nat)))(v:Value)(w:World):Prop:=match o with
 |none=>v=.tuple #[.slice none 0 0,.int .i64 11]
 |some a=>∃u,v=.tuple #[u,.int .i64 0]/\gd n0 w u a
theorem zK(y:fZ w da G.doors)(k:G.doors.length<=100000)(F: -1000000<=G.streets/\G.streets<=1000000){ds:List Int}{a:Option Addr}{c:Nat}(D:gM w a ds)(m:ds.length<=100000)(H:ds.length<=c):
 Calls V.prog 69 #[gV G da dc,.slice a ds.length c] w (eG λv w'=>Ext w w'/\((iq G ds≠0/\v=.tuple #[.slice none 0 0,.int .i64 (iq G ds)])\/(iq G ds=0/\LU w.heap.size (eD G (fy (ds.map Int.toNat))) v w'))):=by
 refine go V.func69 Tryz.ntmps69 ?_;refine eO λT U i I z=>fW z (cf (tl (dc:=dc) (y.ext i) k F (D.ext i) m H) ?_);rintro v J ⟨t,⟨n,rfl⟩|⟨n,W,mk,X,rfl,o⟩⟩
 ·have e:iq G ds=ed G:=by simp[iq,n]
  exact eP (je (by simpa using n) ⟨_,rfl,i.trans t,.inl ⟨by rw[e];exact n,by rw[e];rfl⟩⟩)
 have e:iq G ds=eH G.doors.length ds:=by simp[iq,n]
 refine eP ⟨λf=>?_,λf=>?_⟩
 ·have f:¬eH G.doors.length ds=0:=of_decide_eq_true f;exact⟨_,rfl,i.trans t,.inl ⟨by rw[e];exact f,by rw[e];rfl⟩⟩
 have f:eH G.doors.length ds=0:=by simpa using f
 obtain⟨j,rfl,p⟩:=ky f;have A:=o.g.pw;have K:=A.many;have L:(kT j).length=j.length:=by simp[kT]
 have q:(kT j).map Int.toNat=j:=by simp[kT,Function.comp_def]
 have B:=(D.ext (i.trans t)).yZ;rw[L]at m⊢;rw[q];have r:=jW.fy (G:=G) K (l:=j) p;refine cL (nO j a c J B (λd y=>by have:=p d y;omega) m) (cf (tw (n0:=w.heap.size) o.g (λb z=>z.elim) o.N4 (by have:=o.lo;have:=i.size;omega) (by have:=o.lo;have:=i.size;omega) r) ?_);rintro v E ⟨M,u,b,rfl,h⟩;have C:Ext w E:=M.1.from (i.trans t) (Nat.le_refl _);cases x:eD G (fy j)with
 |none=>
  rw[x]at h;obtain⟨rfl,rfl⟩:=h;exact ek (je rfl ⟨_,rfl,C,.inr ⟨by rw[e];exact f,rfl⟩⟩)
 |some N=>
  rw[x]at h;obtain⟨rfl,O,P,rfl,s,_⟩:=h;have Q:=mg x;refine ek (nh rfl (cf (A5 N O P E s.rows (by omega) λl m=>by have:=tP x l m;omega) ?_));rintro v Y ⟨R,S⟩;exact⟨_,rfl,C.trans R,.inr ⟨by rw[e];exact f,_,rfl,S.low C.size⟩⟩
end
end Go.Proofs.W
