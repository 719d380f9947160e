/- RoundFewest holds: the number of Fewest is the least that any schedule of tries of the open doors has at a time, and Plan is a schedule with so many and no fewer walks than any of these, for every list of numbers. Conditions: none. -/
import Derived.Conc.CrowdTrace
import Derived.Below
import Derived.Conc.LeavingOf
import Derived.Carry
import Derived.ChangeSlices
import Derived.WideShapes
import Derived.Test.YteeagjkaflglpaaGreatX05
set_option maxRecDepth 100000
set_option maxHeartbeats 8000000
set_option linter.all false
variable{m k i j o p s d:Nat}{w t e:er}{x y z:eu}{A B C:Nat->Prop}{R:Go.eV.fj}{l f:List Nat}{T U:eD}{a:Option Go.Addr}{H N:Go.Proofs.W.Gd}{W X:Array eu}{M Y:List eu}{I J:Int}{K:fG}{P:eE}
namespace Go.Proofs.W
open Go.RowKit
def M6{x:oz}{F:Array Bool}(c:fD)(p:w.heap[k]? =some (.cells c.toArray 3))(G:c.length<=1000)(q:m<=k)(H:i=l.length)(r:iM w a l)(y:l.length<=100000) (A:∀B s,fc m 3 [.int .i64 0] s B (c.length+l.length) (c++gU l)->Ext w s->x B s):zw V.prog (builtin .append #[27,27] T F #[.slice (some ⟨k,0,none⟩) c.length c.length,.slice a i j]) w x:=by
 subst H;obtain I|O:=ri l.length;obtain rfl:l=[]:=nC I;exact zQ vk (eF _) (A _ _ ⟨by simp[gU],.inr ⟨k,c.length,_,q,rfl,p,by simp,eF _,by omega,λh _=>by simp[gU],λh e g=>by simp[gU]at e g;omega⟩⟩ (Ext.refl _));obtain J|⟨b,o,rfl,K⟩:=r.cells;have:(gU l).length=0:=by rw[J];rfl
 have C:(gU l).length=l.length:=by simp[gU]
 omega;obtain⟨L,D,z,C,M,E,n,N,Q⟩:=vk;have f:z.cells.size=1:=by rw[E];rfl
 have n:D.size=1:=n;have d:(gU l).length=l.length:=by simp[gU]
 have r:=run_append_grow (P:=V.prog) w 27 T 3 D z L C M (eQ k 0) c.length c.length c (by rw[n,nZ]) (λh u e=>by rw[je,eJ];exact eB p (by simpa using e)) (eQ b o) l.length j (gU l) (by rw[n,d,nZ]) (λh u e=>by rw[je];exact K h u e) (by omega) (by omega) (growslice_fits (by omega) (ff (Nat.mul_le_mul (show c.length+l.length<=1000000 by omega) N) (by decide)));have t:=grownCap_ge w (c.length+l.length) c.length 3;have v:=grownCap_le_maxLen w (c.length+l.length) c.length 3 (by simp only[maxLen];omega);simp only[maxLen]at v;refine⟨_,_,(by unfold builtin;simp only[Sem.run_bind,r,Result.andThen_ok,Sem.run_pure];rfl),A _ _ ⟨by simp[d],.inr ⟨w.heap.size,grownCap w (c.length+l.length) c.length 3,_,by have:=eV.lt_of_heap p;omega,rfl,io w.drew _,?_,t,by omega,λh e=>?_,λh e g=>?_⟩⟩ ((Ext.drew w).trans (Ext.alloc _ _))⟩;simp only[vo,jw,size_zeroCells,f,d,jR,gf,il];omega;rw[wA (by simpa using e)];simp;simp only[jR,d]at e;rw[zn (by simp[d];omega)];simp only[vo,jw,size_zeroCells,f,d,jR]at g⊢;rw[om _ _ _ (by omega) (by rw[f];omega),f,E];simp[Nat.mod_one]
def Jy{f:oz}{h:Array Bool}{n0 c:Nat}(i:w.heap[c]? =some (.cells [x].toArray 3))(p:x.oneCell'=true)(d:n0<=c)(j:m=l.length)(n:iM w a l)(b:l.length<=100000) (o:∀g e,fc n0 3 [.int .i64 0] e g (1+l.length) (x::gU l)->Ext w e->f g e):zw V.prog (builtin .append #[27,27] T h #[.slice (some ⟨c,0,none⟩) 1 1,.slice a m k]) w f:=M6 [x] i (by simp) d j n b o
def Hx{r:oz}{u:Array Bool}{b:List ew}(h:iW m w x b)(j:m<=w.heap.size)(n:jq m w y l)(v:w.heap[k]? =some (.cells [y].toArray 27))(c:b.length+1<=1000000) (z:∀d e,iW m e d (b++[l])->eY (eG x) w e->(∀k,eG d k->eG x k\/w.heap.size<=k)->r d e):zw V.prog (builtin .append #[66,66] T u #[x,.slice (some ⟨k,0,none⟩) 1 i]) w r:=by
 obtain⟨A,o,s,B⟩:=h;have f:y.oneCell'=true:=by obtain⟨a,i,rfl,_⟩:=n.row;rfl
 refine kP OK o j v c (λd e C p D=>z d e ⟨A++[y],by simpa using C,by simp[s],λq E=>?_⟩ p D) rfl (by simp[tg,f]);obtain g|F:=gQ q b.length;obtain⟨G,H,t⟩:=B q g;refine⟨G,by rw[oR (by omega)];exact H,?_⟩;rw[nE g];exact t.keep p (nw t o (by decide));obtain rfl:q=b.length:=by simp at E;omega
 refine⟨y,by rw[ow (by omega)];simp[s],?_⟩;simp only[sO (eF _),mj,oy];exact n.keep p (nw n o (by decide))
theorem iW.blk{a:List ew}(h:iW m w x a){b:Nat}(c:eG x b):m<=b/\b<w.heap.size:=by obtain⟨e,d,_⟩:=h;exact d.blk c
def iW.PZ{e:List ew}(h:iW m w x e)(k:eY A w t)(f:∀b,m<=b->b<w.heap.size->¬A b):iW m t x e:=by obtain⟨g,c,j,l⟩:=h;refine⟨g,fc.keep c k λb a=>f b (c.blk a).1 (c.blk a).2,j,λi n=>?_⟩;obtain⟨u,o,d⟩:=l i n;exact⟨u,o,fc.keep d k λb a=>f b (fc.blk d a).1 (fc.blk d a).2⟩
def tf(l:List Ty):Nat:=match l.getLast? with
 |some t=>t.shift
 |none=>0
def Jz{l:List Ty}(f:yr w a l)(d:l.length<=100000):Calls V.prog 31 #[.slice a l.length m] w (jy λv g=>v=.int .i64 (tf l)/\g=w):=by
 refine jT Tryz.func31 Tryz.ntmps31 ?_;refine fe (iL ⟨λh=>?_,λh=>?_⟩);have h:l.jK=0:=Int.ofNat.inj (fQ h);obtain rfl:l=[]:=nC h;exact⟨_,rfl,rfl,rfl⟩;have h:¬l.jK=0:=λe=>gJ h (eX Int.ofNat e);have c:l.jK-1<l.jK:=by omega
 obtain⟨b,o,rfl,i⟩:=f _ c;have j:tf l=l[l.jK-1].shift:=by unfold tf;rw[List.getLast?_eq_getElem?,gC c]
 rw[j];refine fe (jP ?_);rw[show((l.jK:Int)-1)=((l.jK-1:Nat):Int) by omega];exact iV (l.jK-1) 3 c (eH (i 1 _ rfl) ⟨_,rfl,rfl,rfl⟩)
theorem BJ:∀{b:Nat} {t:ew},t∈l5 m b->t.length=b/\∀x∈t,x<m
 |0,t,h=>by obtain rfl:t=[]:=by simpa[l5]using h
            exact⟨rfl,λx a=>by cases a⟩
 |b+1,t,h=>by simp only[l5,mH,fT,iX]at h;obtain⟨i,c,y,d,rfl⟩:=h;have:=BJ d;refine⟨by rw[gf,this.1],λx a=>?_⟩;obtain rfl|a:=gI.1 a;exact c;exact this.2 x a
def JA(m i:Nat):List ew:=(List.range i).flatMap λi=>(l5 3 m).map (i::·)
def Dn(m i:Nat):JA m (i+1)=JA m i++(l5 3 m).map (i::·):=by simp only[JA,nF,List.flatMap_append,sN,List.flatMap_nil,List.append_nil]
def xp:∀m,m<=3->(l5 3 m).length<=27/\∀i,i<=3->(JA (m-1) i).length<=81:=by
 intro m a;obtain rfl|rfl|rfl|rfl:m=0\/m=1\/m=2\/m=3:=by omega
 all_goals refine⟨by decide,λi b=>?_⟩
 all_goals obtain rfl|rfl|rfl|rfl:i=0\/i=1\/i=2\/i=3:=by omega
 all_goals decide
theorem BK:∀(m:Nat) (w:er),m<=3->Calls V.prog 118 #[.int .i64 3,.int .i64 m] w (jy λv f=>Ext w f/\iW w.heap.size f v (l5 3 m))
 |0,w,_=>by
  refine jT Tryz.func118 Tryz.ntmps118 ?_;refine iL (lq (by simp) (ie [ig] 27 λn J x g p=>⟨_,rfl,x,[ig],⟨rfl,.inr ⟨J,1,_,g,rfl,p,rfl,eF _,by decide,λj _=>by simp,λj R A=>by simp at R A;omega⟩⟩,rfl,λk y=>?_⟩));obtain rfl:k=0:=by simpa[l5]using y
  exact⟨_,rfl,fc.nil _ _ _ _⟩
 |m+1,w,S=>by
  refine jT Tryz.func118 Tryz.ntmps118 ?_;refine iL (nU (jj (by omega)) (jP ?_));rw[show(((m+1:Nat):Int)-1)=(m:Int) by omega];refine eL (BK m w (by omega)) ?_;rintro _ n ⟨x,T⟩;obtain⟨K,L,rfl,B,U⟩:=T.row;have M:=(xp m (by omega)).1;have a:=(xp (m+1) S).2;simp only[Nat.add_sub_cancel]at a;refine jr 3 (λi (v:eu)=>[(0,i64 3),(5,v),(6,.slice K (l5 3 m).length L),(7,i64 i)]) (λi v f=>Ext n f/\iW n.heap.size f v (JA m i)) (ig) ⟨by trivial,Ext.refl _,[],fc.nil _ _ _ _,rfl,λk y=>by simp[JA]at y⟩ ?_;rintro i v w2 hi ⟨N,O⟩;refine fO ⟨λC=>?_,λD=>?_⟩;have E:i<3:=by have:=fQ C;omega
  have F:=a (i+1) (by omega);rw[Dn,jR,jU]at F;refine jr (l5 3 m).length (λk (q:eu)=>[(0,i64 3),(5,q),(6,.slice K (l5 3 m).length L),(7,i64 i),(8,i64 k)]) (λk q f=>Ext n f/\iW n.heap.size f q (JA m i++((l5 3 m).take k).map (i::·))) v ⟨by trivial,N,by simpa using O⟩ ?_;rintro k q w3 y ⟨o,d⟩;refine fe (fO ⟨λr=>?_,λs=>?_⟩);have c:k<(l5 3 m).length:=by simpa using r
  obtain⟨b5,o5,a7,c7,rfl,t,G,W⟩:=B k c;have X:=(BJ (ft c)).1;refine ie [i64 i] 3 λw4 J H g p=>gN k c (eH (H.cell (o.cell t)) (Jy p rfl (ff o.size g) rfl (G.ext (o.trans H)) (by omega) λu Y e Z=>?_));have e:jq n.heap.size Y u (i::(l5 3 m)[k]):=by have h:=e;rw[Nat.add_comm]at h;exact h
  obtain⟨a8,c8,rfl,_,_⟩:=e.row;have l:=H.trans Z;refine ie [.slice a8 (i::(l5 3 m)[k]).length c8] 27 λw6 aa z P I=>Hx ((d.ext l).ext z) ((o.trans l).trans z).size (fc.ext e z) I (by simp;omega) λv7 w7 Q g2 _=>eK ⟨c,v7,by trivial,((o.trans l).trans z).xg g2 λb p=>(d.blk p).1,?_⟩;rw[List.append_assoc]at Q;rw[kM c,nS];exact Q;obtain rfl:k=(l5 3 m).length:=by simp at s;omega
  rw[mI,<-Dn]at d;exact eK ⟨E,q,by trivial,o,d⟩;obtain rfl:i=3:=by have:=gJ D;omega
  exact⟨v,rfl,x.trans N,O.low x.size⟩
def qo(a b:Sp):Prop:=match b with
 |none=>True
 |some (_,c,d)=>match a with
  |none=>False
  |some (_,m,k)=>m<c\/m=c/\k<=d
def qo.refl(a:Sp):qo a a:=by obtain _|⟨l,m,k⟩:=a;trivial;exact .inr ⟨rfl,Int.le_refl _⟩
def qo.trans{a b c:Sp}(h:qo a b)(k:qo b c):qo a c:=by obtain _|⟨d,e,f⟩:=c;trivial;obtain _|⟨g,i,j⟩:=b;exact k.elim;obtain _|⟨l,m,n⟩:=a;exact h.elim;simp only[qo]at h k⊢;omega
def Hy(a b:Sp):qo (nq a b) a/\qo (nq a b) b:=by obtain _|⟨l,m,k⟩:=a;rw[n8];exact⟨trivial,qo.refl _⟩;obtain _|⟨c,d,e⟩:=b;exact⟨qo.refl _,trivial⟩;simp only[nq,mD,lU];split;rename_i h;refine⟨?_,qo.refl _⟩;simp only[qo];omega;rename_i h;refine⟨qo.refl _,?_⟩;simp only[qo];omega
def fU(D:fW):Nat->ew->(Nat->Nat)->Nat->Nat
 |_,[],L=>L
 |k,p::a,L=>fU D (k+1) a (j9 (gh D k) ((fh D k).getD p []) L)
theorem zg(D:fW):∀(n:Nat) (a:ew) (L:Nat->Nat) (b:Sp),qo (fJ D n a L b) b/\∀c:ew,c.length=n->(∀k (h:k<c.length),c[k]<(fh D (a.length+k)).length)->qo (fJ D n a L b) (fA D (fU D a.length c L) (a++c))
 |0,a,L,b=>by simp only[fJ];refine⟨(Hy _ _).1,λc d _=>?_⟩;obtain rfl:=nC d;rw[List.append_nil];exact(Hy _ _).2
 |n+1,a,L,b=>by
  simp only[fJ]
  have f:∀(g:ew) (b:Sp),qo (g.foldl (λb i=>fJ D n (a++[i]) (j9 (gh D a.jK) ((fh D a.jK).getD i []) L) b) b) b/\∀i∈g,∀c:ew,c.jK=n->(∀k (h:k<c.jK),c[k]<(fh D (a.jK+1+k)).jK)->qo (g.foldl (λb i=>fJ D n (a++[i]) (j9 (gh D a.jK) ((fh D a.jK).getD i []) L) b) b) (fA D (fU D a.jK (i::c) L) (a++i::c)):=by
   intro g;induction g with
   |nil=>exactλb=>⟨qo.refl _,λi j=>by cases j⟩
   |cons x r o=>
    intro b;rw[nD];obtain⟨p,s⟩:=zg D n (a++[x]) (j9 (gh D a.jK) ((fh D a.jK).getD x []) L) b;obtain⟨l,m⟩:=o (fJ D n (a++[x]) (j9 (gh D a.jK) ((fh D a.jK).getD x []) L) b);refine⟨l.trans p,λi j c d e=>?_⟩;obtain rfl|j:=gI.1 j;have:=s c d λk h=>by have:=e k h;simpa[sR]using this
    rw[jR,List.append_assoc]at this;exact l.trans this;exact m i j c d e
  obtain⟨l,m⟩:=f (List.range (fh D a.jK).jK) b;refine⟨l,λc d e=>?_⟩;match c,d,e with
  |q::c,d,e=>
   refine m q (fT.2 (e 0 (by simp))) c (by simpa using d) λk h=>?_;have:=e (k+1) (by simpa using h);simpa[sR,Nat.add_comm 1 k]using this
def Hz(D:fW){qs:ew}(a:qs.length=D.opn.length)(b:xj D qs):qo (fL D) (fA D (fU D 0 qs L0) qs):=by
 have:=(zg D D.opn.jK [] L0 none).2 qs a λk h=>by simpa using b k h
 unfold fL;simpa using this
def xq(D:fW):Sp->Prop
 |none=>True
 |some (l,m,k)=>∃a:ew,a.length=D.opn.length/\xj D a/\fA D (fU D 0 a L0) a=some (l,m,k)
theorem sE(D:fW):∀(a:ew) (k:Nat) (L:Nat->Nat) (q:Nat),fU D k (a++[q]) L=j9 (gh D (k+a.length)) ((fh D (k+a.length)).getD q []) (fU D k a L)
 |[],k,L,q=>rfl
 |x::r,k,L,q=>by simp only[qp,fU,gf];rw[sE D r (k+1),show k+1+r.jK=k+(r.jK+1) by omega]
theorem zh(D:fW):∀(n:Nat) (a:ew) (b:Sp),a.length+n=D.opn.length->xj D a->xq D b->xq D (fJ D n a (fU D 0 a L0) b)
 |0,a,b,o,c,d=>by
  simp only[fJ];obtain h|h:=yY b (fA D (fU D 0 a L0) a);rw[h];cases p:fA D (fU D 0 a L0) a with
  |none=>trivial
  |some x=>
   obtain⟨l,m,k⟩:=x;exact⟨a,by omega,c,p⟩
  rw[h];exact d
 |n+1,a,b,o,c,d=>by
  simp only[fJ]
  have e:∀(j:ew) (b:Sp),(∀i∈j,i<(fh D a.length).length)->xq D b->xq D (j.foldl (λb i=>fJ D n (a++[i]) (j9 (gh D a.length) ((fh D a.length).getD i []) (fU D 0 a L0)) b) b):=by
   intro j;induction j with
   |nil=>intro b _ d;exact d
   |cons i r q=>
    intro b f d;rw[nD];refine q _ (λx s=>f x (gG _ s)) ?_
    have:=zh D n (a++[i]) b (by simp;omega) (λk t=>by
     obtain g|u:=gQ k a.length;rw[nE g];exact c k g;obtain rfl:k=a.length:=by simp at t;omega
     simp only[sO (eF _),mj,oy];exact f i gD) d
    rw[sE,eJ]at this;exact this
  exact e _ b (λi v=>fT.1 v) d
def uD(D:fW):xq D (fL D):=zh D _ [] none (by simp) (λk a=>by simp at a) trivial
theorem wl:∀{l:ew} {i:Nat} (a:i<l.length),(l[i]::l.eraseIdx i).Perm l
 |x::r,0,_=>List.Perm.refl _
 |x::r,i+1,a=>by
  have b:i<r.jK:=by simpa using a
  exact(List.Perm.swap x r[i] _).trans ((wl b).cons x)
theorem vC:∀(n:Nat) (l:ew),l.length=n->∀r∈te n l,r.Perm l
 |0,l,h,r,a=>by obtain rfl:=nC h;rw[show r=[] by simpa[te]using a]
 |n+1,l,h,r,a=>by simp only[te,mH,fT,iX]at a;obtain⟨i,b,y,c,rfl⟩:=a;have d:=vC n _ (by rw[List.length_eraseIdx_of_lt b];omega) y c;rw[getD_eq b];exact(d.cons _).trans (wl b)
theorem vD:∀(n:Nat) (l:ew),l.length=n->∀r,r.Perm l->r∈te n l
 |0,l,h,r,a=>by obtain rfl:=nC h;rw[a.eq_nil];simp[te]
 |n+1,l,h,r,a=>by
  have b:=a.length_eq;match r,a,b with
  |[],_,b=>rw[h]at b;cases b
  |x::r,a,_=>
   obtain⟨i,c,rfl⟩:=List.getElem_of_mem (a.mem_iff.1 gD);have d:=List.Perm.cons_inv (a.trans (wl c).symm);simp only[te,mH,fT,iX];exact⟨i,c,r,vD n _ (by rw[List.length_eraseIdx_of_lt c];omega) r d,by rw[getD_eq c]⟩
def wm(h:l.length<=5)(r:ew):r∈pi l↔r.Perm l:=by rw[<-ES h];exact⟨vC _ _ rfl r,vD _ _ rfl r⟩
theorem zi{W:Nat->Nat->Int}(b:∀i j,0<=W i j):∀(l:ew) (a z:Nat),0<=uA W a l z
 |[],a,z=>b a z
 |d::r,a,z=>by have:=zi b r (d+1) z;have:=b a (d+1);simp only[uA];omega
def zj(h:H.Ok)(l:ew):0<=th H l:=by unfold th;rw[uB];exact zi (λi j=>(uS h i j).1) l 0 0
theorem wn(G:Gd)(g:G.Ok):∀(rows:List ew) (a:ew×Int),0<=a.2->a.2=th G a.1->((rows.foldl (iH G) a).1=a.1\/(rows.foldl (iH G) a).1∈rows)/\(rows.foldl (iH G) a).2=th G (rows.foldl (iH G) a).1/\(rows.foldl (iH G) a).2<=a.2/\∀r∈rows,(rows.foldl (iH G) a).2<=th G r
 |[],a,m,h=>⟨.inl rfl,h,Int.le_refl _,λr c=>by cases c⟩
 |x::rows,a,m,h=>by have n:=zj g x;simp only[nD];obtain⟨d,b⟩:∃d,d=iH G a x:=⟨_,rfl⟩;rw[<-b];unfold iH at b;split at b;rename_i i;subst b;obtain⟨j,k,f,l⟩:=wn G g rows (x,th G x) n rfl;refine⟨.inr (j.elim (λe=>by rw[e];exact gD) (gG _)),k,?_,λr c=>?_⟩;simp only at f;omega;obtain rfl|c:=gI.1 c;exact f;exact l r c;rename_i i;subst b;obtain⟨j,k,f,l⟩:=wn G g rows d m h;refine⟨j.imp id (gG _),k,f,λr c=>?_⟩;obtain rfl|c:=gI.1 c;omega;exact l r c
def po(g:H.Ok)(s:Nat):(fy H s).Perm (fx s)/\∀r,r.Perm (fx s)->th H (fy H s)<=th H r:=by
 have f:=uU s;have b:fx s∈pi (fx s):=(wm f _).2 (List.Perm.refl _);obtain⟨rows,a⟩:∃rows,rows=pi (fx s):=⟨_,rfl⟩;have c:(kG H rows).1∈rows/\∀r∈rows,th H (kG H rows).1<=th H r:=by
  rw[<-a]at b;match rows,b with
  |x::rows,_=>
   have h:=zj g x;have e:kG H (x::rows)=rows.foldl (iH H) (x,th H x):=by unfold kG;rw[nD];congr 1
   obtain⟨i,j,k,l⟩:=wn H g rows (x,th H x) h rfl;rw[e];refine⟨i.elim (λq=>by rw[q];exact gD) (gG _),λr d=>?_⟩;rw[<-j];obtain rfl|d:=gI.1 d;exact k;exact l r d
 unfold fy;rw[<-a];refine⟨(wm f _).1 (by rw[<-a];exact c.1),λr d=>c.2 r ?_⟩;rw[a];exact(wm f _).2 d
def JB(G:Gd)(h:l.Perm f):l9 G l=l9 G f:=by
 induction h with
 |nil=>rfl
 | @cons x e g _ i=>
  have a:=mF G [x] e;have b:=mF G [x] g;simp only[List.singleton_append]at a b;omega
 |swap x y l=>
  have a:=mF G [y] (x::l);have b:=mF G [x] (y::l);have c:=mF G [x] l;have d:=mF G [y] l;simp only[List.singleton_append]at a b c d;omega
 |trans _ _ a b=>exact a.trans b
def JC(h:l.Perm f)(a:th H l<=th H f):jX H l<=jX H f:=by have b:=JB H h;have c:=h.length_eq;unfold th at a;unfold jX mL AZ;rw[b,c];omega
theorem sF(a:H.Ok)(q:Nat->Bool):∀(y x:ew),(∀d∈y,d<H.doors.length)->jX H (x++y.filter q)<=jX H (x++y)
 |[],x,_=>Int.le_refl _
 |d::y,x,h=>by have c:=h d gD;have b:∀d∈y,d<H.doors.jK:=λe f=>h e (gG _ f);rw[List.filter_cons];split;have:=sF a q y (x++[d]) b;simpa using this;exact Int.le_trans (sF a q y x b) (Jw a c x y)
def P0(a:H.Ok)(h:l.Perm (fx s)):jX H (fy H s)<=jX H l:=
 JC ((po a s).1.trans h.symm) ((po a s).2 l h)
def HB(h:∀d,d<5->s.testBit d=true->m.testBit d=true):(fx m).filter (s.testBit ·)=fx s:=by unfold fx ot;rw[List.filter_filter];refine List.filter_congr λd a=>?_;have:=h d (fT.1 a);cases b:s.testBit d<;>simp_all
def M9(a:H.Ok)(c:∀d∈fx m,d<H.doors.length)(h:∀d,d<5->s.testBit d=true->m.testBit d=true):jX H (fy H s)<=jX H (fy H m):=by
 have b:=(po a m).1;have e:((fy H m).filter (s.testBit ·)).Perm (fx s):=by rw[<-HB h];exact b.filter _
 have f:=sF a (s.testBit ·) (fy H m) [] λd g=>c d (b.mem_iff.1 g);exact Int.le_trans (P0 a e) (by simpa using f)
def u6(b:H.Ok)(c:∀d∈fx m,d<H.doors.length)(h:∀d,d<5->s.testBit d=true->m.testBit d=true)(a:nx H m=true):nx H s=true:=by unfold nx at a⊢;have:=fQ a;exact decide_eq_true (Int.le_trans (M9 b c h) this)
def lz(a:List ew)(d i:Nat):List ew:=if i<a.length then a.set i (a.getD i []++[d])else a++[[d]]
def kh:ew->List ew->List (List ew)
 |[],a=>[a]
 |d::r,a=>(List.range (a.length+1)).flatMap λi=>kh r (lz a d i)
def BL(G:Gd)(g:ew):Bool:=nx G (gF g)
def qd(G:Gd)(D:List ew):Bool:=D.all (BL G)
theorem xr(d:Nat):∀(l:ew) (s:Nat),setFrom s (l++[d])=pP (setFrom s l) d
 |[],s=>rfl
 |x::r,s=>xr d r (pP s x)
def Do(g:ew)(d:Nat):gF (g++[d])=pP (gF g) d:=xr d g 0
def Sf:∀s:Nat,s<32->∀d:Nat,d<5->∀x:Nat,x<5->s.testBit x=true->(pP s d).testBit x=true:=by decide+kernel
def Sb(a b:ew):Prop:=∀x,x<5->(gF a).testBit x=true->(gF b).testBit x=true
def Sh(h:∀d∈l,d<5):gF l<32:=pV l 0 (by omega) h
def Sb.snoc(h:∀x∈l,x<5)(a:d<5):Sb l (l++[d]):=λx b c=>by rw[Do];exact Sf _ (Sh h) d a x b c
def yw(a:List ew)(d i:Nat):(lz a d i).length=if i<a.length then a.length else a.length+1:=by unfold lz;split<;>simp
def u9{c:List ew}(h:∀g∈c,∀x∈g,x<m)(e:d<m):∀g∈lz c d i,∀x∈g,x<m:=by unfold lz;split;rename_i f;intro g b x a;obtain b|rfl:=sP b;exact h g b x a;rw[getD_eq f]at a;obtain a|a:=ja.1 a;exact h _ (ft f) x a;rw[gW.1 a];exact e;intro g b x a;obtain b|b:=ja.1 b;exact h g b x a;rw[gW.1 b]at a;rw[gW.1 a];exact e
theorem px(n:m<=5):∀(l:ew) (a:List ew),(∀d∈l,d<m)->(∀g∈a,∀x∈g,x<m)->∀D∈kh l a,a.length<=D.length/\(∀g∈D,∀x∈g,x<m)/\∀i (b:i<a.length),∃h:i<D.length,Sb a[i] D[i]
 |[],a,_,k,D,c=>by
  obtain rfl:D=a:=by simpa[kh]using c
  exact⟨eF _,k,λi b=>⟨b,λx _ h=>h⟩⟩
 |d::r,a,s,k,D,c=>by
  simp only[kh,mH,fT]at c;obtain⟨j,C,c⟩:=c;have t:=s d gD;obtain⟨u,v,w⟩:=px n r (lz a d j) (λx f=>s x (gG _ f)) (u9 k t) D c;have y:=yw a d j;have o:a.length<=(lz a d j).length:=by rw[y];split<;>omega
  refine⟨ff o u,v,λi b=>?_⟩;obtain⟨z,A⟩:=w i (by omega);refine⟨z,λx f p=>A x f ?_⟩;have q:=k _ (ft b);simp only[lz];split;rename_i B;rw[List.getElem_set];split;rename_i e;subst e;rw[getD_eq b];exact Sb.snoc (λx f=>by have:=q x f;omega) (by omega) x f p;exact p;rw[nE b];exact p
def oH{D:List ew}:qd H D=true↔∀g∈D,BL H g=true:=mO
def py{a:Type}{p:a->Bool}{l:List a}(h:∀x∈l,p x=false):l.find? p=none:=by rw[List.find?_eq_none];intro x b;rw[h x b];decide
def qG(G:Gd)(most:Nat)(D:List ew):Bool:=decide (D.length<=most)&&qd G D
def Dp(b:H.Ok){most:Nat}{a:List ew}(j:∀d∈l,d<H.doors.length)(k:∀g∈a,∀x∈g,x<H.doors.length)(m:i<a.length)(h:BL H a[i]=false):(kh l a).find? (qG H most)=none:=by
 refine py λD n=>?_;obtain⟨s,o,p⟩:=px b.many l a j k D n;obtain⟨c,q⟩:=p i m;cases e:qd H D with
 |false=>unfold qG;rw[e,Bool.and_false]
 |true=>
  have r:=oH.1 e _ (ft c);have f:=u6 b (lF.gF b.many (o _ (ft c))).2 q r;unfold BL at h;rw[h]at f;cases f
def Na{a:List ew}(h:qd H a=true)(e:i<a.length)(c:BL H (a[i]++[d])=true):qd H (a.set i (a[i]++[d]))=true:=oH.2 λg b=>by obtain b|rfl:=sP b;exact oH.1 h g b;exact c
theorem qe{a b:Type}{f g:a->Option b}:∀{l:List a},(∀x∈l,f x=g x)->l.findSome? f=l.findSome? g
 |[],_=>rfl
 |x::r,h=>by simp only[List.findSome?_cons,h x gD,qe λy c=>h y (gG _ c)]
theorem zk(o:H.Ok)(most:Nat):∀(l:ew) (a:List ew),(∀d∈l,d<H.doors.length)->(∀g∈a,∀x∈g,x<H.doors.length)->qd H a=true->a.length<=most->hZ H most l (a.map gF)=((kh l a).find? (qG H most)).map (·.map gF)
 |[],a,_,_,f,p=>by simp only[hZ,kh,List.find?_cons,qG,decide_eq_true p,f,Bool.true_and,kT]
 |d::r,a,s,t,f,p=>by
  have u:=s d gD;have m:∀x∈r,x<H.doors.length:=λx y=>s x (gG _ y);have v:=zk o most r
  have z:((List.range a.length).findSome? λi=>if nx H (pP ((a.map gF).getD i 0) d)then hZ H most r ((a.map gF).set i (pP ((a.map gF).getD i 0) d))else none)=((List.range a.length).findSome? λi=>(kh r (lz a d i)).find? (qG H most)).map (·.map gF):=by
   rw[List.map_findSome?];refine qe λi j=>?_;have j:=fT.1 j;have e:(a.map gF).getD i 0=gF a[i]:=by rw[kL,ng,gC j];rfl
   have n:lz a d i=a.set i (a[i]++[d]):=by rw[lz,eC j,getD_eq j]
   have b:∀g∈a.set i (a[i]++[d]),∀x∈g,x<H.doors.length:=by rw[<-n];exact u9 t u
   simp only[Function.comp];rw[e,<-Do,<-List.map_set,n];split;rename_i k;exact v _ m b (Na f j k) (by rw[oS];exact p);rename_i k;rw[Dp o m b (i:=i) (by rw[oS];exact j) (by rw[List.getElem_set_self];unfold BL;simpa using k)];rfl
  have w:(if(a.map gF).length<most/\nx H (gF [d])=true then hZ H most r (a.map gF++[gF [d]])else none)=((kh r (lz a d a.length)).find? (qG H most)).map (·.map gF):=by
   have n:lz a d a.length=a++[[d]]:=by rw[lz,ez (by omega)]
   have b:∀g∈a++[[d]],∀x∈g,x<H.doors.length:=by rw[<-n];exact u9 t u
   rw[n,jU];split;rename_i k;have:=v (a++[[d]]) m b (oH.2 λg c=>by obtain c|c:=ja.1 c;exact oH.1 f g c;rw[gW.1 c];exact k.2) (by simp;omega);rw[<-this];simp;rename_i k;by_cases q:a.length<most
   rw[Dp o m b (i:=a.length) (by simp) (by simp only[sO (eF _),mj,oy];unfold BL;cases h:nx H (gF [d])with
    |false=>rfl
    |true=>exact absurd ⟨q,h⟩ k)]
   rfl;rw[py λD A=>?_];rfl;have:=(px o.many r _ m b D A).1;simp only[jR,gf,il]at this;unfold qG;rw[jj (by omega),Bool.false_and]
  simp only[hZ,kh];rw[jU]at w⊢;rw[z,w,List.find?_flatMap,nF,List.findSome?_append];cases((List.range a.length).findSome? λi=>(kh r (lz a d i)).find? (qG H most))with
  |some x=>rfl
  |none=>simp
def HE(p:List ew->Bool)(a:Option (List ew))(D:List ew):Option (List ew):=match a with
 |some b=>if b.length<=D.length then some b else if p D then some D else some b
 |none=>if p D then some D else none
def xt(p:List ew->Bool)(a:List (List ew)):Option (List ew):=a.foldl (HE p) none
def JD(p:List ew->Bool)(a:List (List ew))(D:List ew):xt p (a++[D])=HE p (xt p a) D:=by simp only[xt,re,nD,List.foldl_nil]
def yx{a:Type}(p:a->Bool)(l:List a)(x:a):(l++[x]).find? p=(l.find? p).or (if p x then some x else none):=by rw[List.find?_append];congr 1;simp only[List.find?_cons,List.find?_nil];cases p x<;>rfl
def P1(p:List ew->Bool)(a:List (List ew)):Option (List ew)->Prop
 |none=>∀D∈a,p D=false
 |some b=>b∈a/\(∀D∈a,p D=true->b.length<=D.length)/\a.find? (λD=>decide (D.length<=b.length)&&p D)=some b
theorem uE(p:List ew->Bool)(d:List (List ew)):∀k,k<=d.length->P1 p (d.take k) (xt p (d.take k))
 |0,_=>λD h=>by simp at h
 |k+1,u=>by
  have e:=uE p d k (by omega);obtain⟨D,h⟩:∃D,D=d[k]:=⟨_,rfl⟩;rw[kM (by omega),<-h,JD];obtain⟨l,q⟩:∃l,l=d.take k:=⟨_,rfl⟩;rw[<-q]at e⊢;cases o:xt p l with
  |none=>
   rw[o]at e;have e:∀D∈l,p D=false:=e;cases f:p D with
   |false=>
    simp only[HE,f,jE,gy];intro E a;obtain a|a:=ja.1 a;exact e E a;rw[gW.1 a];exact f
   |true=>
    simp only[HE,f,fF];refine⟨by simp,λE a c=>?_,?_⟩;obtain a|a:=ja.1 a;rw[e E a]at c;cases c;rw[gW.1 a];exact eF _;rw[yx,py λx i=>by rw[e x i,Bool.and_false]];simp[f]
  |some b=>
   rw[o]at e;obtain⟨r,j,s⟩:b∈l/\(∀D∈l,p D=true->b.length<=D.length)/\l.find? (λD=>decide (D.length<=b.length)&&p D)=some b:=e;have stay:(b.length<=D.length\/p D=false)->P1 p (l++[D]) (some b):=λg=>by refine⟨List.mem_append_left _ r,λE a c=>?_,?_⟩;obtain a|a:=ja.1 a;exact j E a c;rw[gW.1 a]at c⊢;obtain g|g:=g;exact g;rw[g]at c;cases c;rw[yx,s];rfl
   simp only[HE];split;rename_i m;exact stay (.inl m);rename_i t;cases f:p D with
   |false=>simpa using stay (.inr f)
   |true=>
    simp only[fF];refine⟨by simp,λE a c=>?_,?_⟩;obtain a|a:=ja.1 a;have:=j E a c;omega;rw[gW.1 a];exact eF _;rw[yx,py λx i=>?_];simp[f];cases n:p x with
    |false=>rw[Bool.and_false]
    |true=>
     have:=j x i n;rw[jj (by omega),Bool.false_and]
theorem HF:∀(l:ew) (a:List ew),∀D∈kh l a,D.length<=a.length+l.length
 |[],a,D,b=>by
  obtain rfl:D=a:=by simpa[kh]using b
  exact eF _
 |d::r,a,D,b=>by simp only[kh,mH,fT]at b;obtain⟨j,e,b⟩:=b;have f:=HF r _ D b;have c:=yw a d j;rw[gf];split at c<;>omega
def P2:∀s:Nat,s<32->s≠0->0<(fx s).length:=by decide+kernel
def wo(v:H.Ok)(w:lF H s):iw H s=(xt (qd H) (kh (fx s) [])).map λD=>D.map λg=>fy H (gF g):=by
 have z:=v.many;unfold iw;split;rename_i h;subst h;rfl;rename_i h;obtain⟨l,n⟩:∃l,l=fx s:=⟨_,rfl⟩;have o:0<l.length:=by rw[n];exact P2 s w.1 h
 have a:∀d∈l,d<H.doors.length:=by rw[n];exact w.2
 rw[<-n];have A:((List.range l.length).findSome? λm=>hZ H (m+1) l [])=(List.range l.length).findSome? λm=>((kh l []).find? (qG H (m+1))).map (·.map gF):=qe λm _=>zk v (m+1) l [] a (λg p=>by cases p) rfl (iQ _);rw[A];have f:∀D∈kh l [],1<=D.length:=by
  match l,o,a with
  |d::r,_,a=>
   intro D c;simp only[kh,mH,fT]at c;obtain⟨j,G,c⟩:=c;have q:=(px z r (lz [] d j) (λx B=>a x (gG _ B)) (u9 (λg p=>by cases p) (a d gD)) D c).1;have t:=yw [] d j;simp at t;omega
 have e:=uE (qd H) (kh l []) _ (eF _);rw[mI]at e;cases y:xt (qd H) (kh l [])with
 |none=>
  rw[y]at e;have e:∀D∈kh l [],qd H D=false:=e;have:((List.range l.length).findSome? λm=>((kh l []).find? (qG H (m+1))).map (·.map gF))=none:=by rw[List.findSome?_eq_none_iff];intro m _;rw[py λD c=>by unfold qG;rw[e D c,Bool.and_false]];rfl
  rw[this];rfl
 |some b=>
  rw[y]at e;obtain⟨q,t,C⟩:b∈kh l []/\(∀D∈kh l [],qd H D=true->b.length<=D.length)/\(kh l []).find? (λD=>decide (D.length<=b.length)&&qd H D)=some b:=e;have u:=HF l [] b q;have E:=f b q;simp only[il,eJ]at u
  have:((List.range l.length).findSome? λm=>((kh l []).find? (qG H (m+1))).map (·.map gF))=some (b.map gF):=by
   refine un (k:=b.length-1) (by omega) (λi I=>?_) ?_;rw[py λD c=>?_];rfl;unfold qG;cases F:qd H D with
   |false=>rw[Bool.and_false]
   |true=>
    have:=t D c F;rw[jj (by omega),Bool.false_and]
   rw[show b.length-1+1=b.length by omega,show qG H b.length=λD=>decide (D.length<=b.length)&&qd H D from rfl,C];rfl
  rw[this];simp[wC]
def nW(G:Gd)(s:Nat):Int:=match iw G s with
 |some a=>(a.length:Int)
 |none=> -1
def K5:∀s:Nat,s<32->∀d:Nat,d<5->∀x:Nat,x<5->(pP s d).testBit x=(s.testBit x||decide (x=d)):=by decide+kernel
theorem zl{x:Nat}:∀(l:ew) (s:Nat),s<32->(∀d∈l,d<5)->x<5->((setFrom s l).testBit x=true↔s.testBit x=true\/x∈l)
 |[],s,_,_,_=>by simp[setFrom]
 |d::r,s,a,h,b=>by have c:=h d gD;have:=zl (x:=x) r (pP s d) (AA s a d c) (λy e=>h y (gG _ e)) b;show(setFrom (pP s d) r).testBit x=true↔_;rw[this,K5 s a d c x b,tn,decide_eq_true_iff,gI,or_assoc]
def oI(h:∀d∈l,d<5)(a:m<5):(gF l).testBit m=true↔m∈l:=by have:=zl l 0 (by omega) h a;unfold gF;rw[this];simp
def kq:m∈fx s↔m<5/\s.testBit m=true:=by unfold fx ot;rw[ku,fT]
theorem BM:∀(l:ew) (b:List ew),∀D∈kh l b,∀x,(x∈l\/∃g∈b,x∈g)->∃g∈D,x∈g
 |[],b,D,c,x,h=>by
  obtain rfl:D=b:=by simpa[kh]using c
  obtain h|h:=h;cases h;exact h
 |d::r,b,D,c,x,h=>by
  simp only[kh,mH,fT]at c;obtain⟨j,o,c⟩:=c;refine BM r _ D c x ?_;have m:∀g∈b,x∈g->∃g∈lz b d j,x∈g:=λg k e=>by obtain⟨i,n,rfl⟩:=List.getElem_of_mem k;unfold lz;split;rename_i a;by_cases f:j=i;subst f;exact⟨_,List.mem_set a _,by rw[getD_eq a];exact List.mem_append_left _ e⟩;exact⟨b[i],List.mem_iff_getElem.2 ⟨i,by simpa using n,by rw[List.getElem_set_ne f]⟩,e⟩;exact⟨_,List.mem_append_left _ k,e⟩
  obtain h|⟨g,k,e⟩:=h;obtain rfl|h:=gI.1 h;refine .inr ?_;unfold lz;split;rename_i a;exact⟨_,List.mem_set a _,by simp⟩;exact⟨[x],by simp,by simp⟩;exact .inl h;exact .inr (m g k e)
def Si:((List.range 6).all λn=>(List.range 32).all λs=>!((List.range 5).all λx=>!s.testBit x||decide (x<n))||decide (s<2^n))=true:=by decide+kernel
def Uu{n s:Nat}(a:n<6)(b:s<32)(h:∀x,x<5->s.testBit x=true->x<n):s<2^n:=by
 have:=mO.1 (mO.1 Si n (fT.2 a)) s (fT.2 b)
 have c:((List.range 5).all λx=>!s.testBit x||decide (x<n))=true:=mO.2 λx d=>by
  cases e:s.testBit x with
  |false=>rfl
  |true=>simp[h x (fT.1 d) e]
 rw[c]at this;exact fQ (by simpa using this)
def Nb(T:Int)(a:List Sx):(eO T a).Pairwise (·<·):=(List.pairwise_lt_range).filter _
def JE{a:List Sx}(j:a.length<=5)(f:Nat)(k:s<32)(h:∀x,x<5->s.testBit x=true->x∈eO H.tries a):(fi H a f).counts.getD s 0=nW H s:=by
 have e:∀d∈eO H.tries a,d<5:=λd l=>by have:=jH l;omega
 have b:Pd s (gF (eO H.tries a))=true:=mO.2 λx c=>by
  cases g:s.testBit x with
  |false=>rfl
  |true=>rw[(oI e (fT.1 c)).2 (h x (fT.1 c) g)];rfl
 have i:=Uu (n:=a.length) (by omega) k λx j g=>jH (h x j g);show(jN H _ _).getD s 0=_;unfold jN;rw[kL,ng,List.getElem?_range k];show(if s<2^a.length then pZ H (gF (eO H.tries a)) s else 0)=_;rw[eC i,pZ,eC b];rfl
theorem Dq(D:fW)(g:∀k,gh D k<5):∀(c:ew) (k:Nat) (L:Nat->Nat),(∀s,L s<32)->∀s,fU D k c L s<32/\∀x,x<5->((fU D k c L s).testBit x=true↔(L s).testBit x=true\/∃j,∃h:j<c.length,gh D (k+j)=x/\s∈(fh D (k+j)).getD c[j] [])
 |[],k,L,e,s=>⟨e s,λx i=>by simp[fU]⟩
 |q::c,k,L,e,s=>by
  have f:∀s,j9 (gh D k) ((fh D k).getD q []) L s<32:=λs=>by unfold j9;split;exact AA _ (e s) _ (g k);exact e s
  obtain⟨m,n⟩:=Dq D g c (k+1) _ f s;refine⟨m,λx i=>?_⟩;simp only[fU];rw[n x i];have o:(j9 (gh D k) ((fh D k).getD q []) L s).testBit x=true↔(L s).testBit x=true\/(gh D k=x/\s∈(fh D k).getD q []):=by unfold j9;split;rename_i l;rw[K5 _ (e s) _ (g k) x i,tn,decide_eq_true_iff];exact or_congr nR ⟨λh=>⟨h.symm,l⟩,λh=>h.1.symm⟩;rename_i l;exact⟨.inl,λh=>h.elim id λh=>absurd h.2 l⟩
  rw[o,or_assoc];refine or_congr nR ⟨?_,?_⟩;rintro(⟨a,b⟩|⟨j,d,a,b⟩);exact⟨0,by simp,by simpa using a,by simpa using b⟩;exact⟨j+1,by simpa using d,by rw[show k+(j+1)=k+1+j by omega];exact a,by rw[show k+(j+1)=k+1+j by omega];simpa using b⟩;rintro⟨j,d,a,b⟩;match j,d,a,b with
  |0,d,a,b=>exact .inl ⟨by simpa using a,by simpa using b⟩
  |j+1,d,a,b=>
   rw[show k+(j+1)=k+1+j by omega]at a b;exact .inr ⟨j,by simpa using d,a,by simpa using b⟩
section
variable{G:Gd}{xs:List Sx}
def wq(f k:Nat):gh (fi G xs f) k=(eO G.tries xs).getD k 0:=rfl
def qf(f:Nat)(a:k<(eO G.tries xs).length):fh (fi G xs f) k=gi G (xs.getD (eO G.tries xs)[k] nP) f:=by show((eO G.tries xs).map λd=>gi G (xs.getD d nP) f).getD k []=_;rw[kL,ng,gC a];rfl
def HG(h:d∈eO G.tries xs):∃b:d<xs.length,gP G.tries xs[d]=false/\xs.getD d nP=xs[d]:=by have a:=jH h;refine⟨a,?_,getD_eq a⟩;have:=(ku.1 h).2;rw[gC a]at this;simpa using this
def xv(i:xs.length<=5){f:Nat}{b:ew}(p:b.length=(eO G.tries xs).length)(s:Nat):fU (fi G xs f) 0 b L0 s<32/\∀x,x<5->((fU (fi G xs f) 0 b L0 s).testBit x=true↔∃j,∃h:j<b.length,∃q:j<(eO G.tries xs).length,(eO G.tries xs)[j]=x/\s∈(gi G (xs.getD (eO G.tries xs)[j] nP) f).getD b[j] []):=by
 have e:∀k,gh (fi G xs f) k<5:=λk=>by rw[wq];by_cases l:k<(eO G.tries xs).length;rw[getD_eq l];have:=jH (ft l);omega;rw[kL,Cm (by omega)];decide
 obtain⟨m,n⟩:=Dq (fi G xs f) e b 0 L0 (λ_=>by show 0<32;decide) s;refine⟨m,λx i=>?_⟩;rw[n x i];have o:¬(L0 s).testBit x=true:=by simp[L0]
 constructor;rintro(h|⟨j,g,c,d⟩);exact absurd h o;rw[eJ]at c d;have a:j<(eO G.tries xs).length:=by omega
 rw[wq,getD_eq a]at c;rw[qf f a]at d;exact⟨j,g,a,c,d⟩;rintro⟨j,g,a,c,d⟩;refine .inr ⟨j,g,?_,?_⟩;rw[eJ,wq,getD_eq a];exact c;rw[eJ,qf f a];exact d
def zY(b:xs.length<=5){f:Nat}{qs:ew}(c:qs.length=(eO G.tries xs).length):jO (fi G xs f) (fU (fi G xs f) 0 qs L0)=(List.range 6).map λs=>nW G (fU (fi G xs f) 0 qs L0 s):=by show((List.range 6).map (fU (fi G xs f) 0 qs L0)).map _=_;rw[List.map_map];refine List.map_congr_left λs _=>?_;simp only[Function.comp];obtain⟨d,e⟩:=xv (G:=G) b (f:=f) c s;exact JE b f d λx a g=>by obtain⟨j,_,h,i,_⟩:=(e x a).1 g;rw[<-i];exact ft h
end
theorem qg:∀(n:Nat) (l:ew),l.Nodup->(∀x∈l,x<n)->l.length<=n
 |0,l,_,h=>by
  match l,h with
  |[],_=>exact eF _
  |x::r,h=>exact absurd (h x gD) (Nat.not_lt_zero _)
 |n+1,l,a,h=>by
  have b:=qg n (l.erase n) (a.erase n) λx d=>by have:=(a.mem_erase_iff).1 d;have:=h x this.2;omega
  by_cases c:n∈l;rw[List.length_erase_of_mem c]at b;omega;rw[List.erase_of_not_mem c]at b;omega
def Sj(s:Nat)(c:Nat->Nat)(j:Nat):Nat:=gF ((fx s).filter λd=>c d==j)
def Vs(G:Gd)(s n:Nat)(c:Nat->Nat):Prop:=(∀d∈fx s,c d<n)/\∀j,j<n->nx G (Sj s c j)=true
def BN{c:Nat->Nat}(a:m<5):(Sj s c j).testBit m=true↔s.testBit m=true/\c m=j:=by unfold Sj;rw[oI (λd b=>(kq.1 (ku.1 b).1).1) a,ku,kq];simp[a]
def K6(a:H.Ok)(b:lF H s)(c:Nat->Nat)(j:Nat):lF H (Sj s c j):=lF.gF a.many λd e=>b.2 d (ku.1 e).1
def Xc(c:Nat->Nat)(P:eN)(a:List ew)(b:ew):Prop:=a.length=b.length/\∀i (h:i<a.length) (d:i<b.length),∀x∈a[i],c x=b[i]/\P x
theorem ET{n:Nat}{c:Nat->Nat}{P:eN}:∀(l:ew) (m:List ew) (g:ew),Xc c P m g->g.Nodup->(∀k∈g,k<n)->(∀d∈l,c d<n/\P d)->∃D∈kh l m,∃g:ew,Xc c P D g/\g.Nodup/\∀k∈g,k<n
 |[],m,g,h,t,u,_=>⟨m,by simp[kh],g,h,t,u⟩
 |d::r,m,g,h,t,u,A=>by
  have B:∀d∈r,c d<n/\P d:=λx f=>A x (gG _ f);have v:=A d gD;by_cases C:c d∈g;obtain⟨j,E,F⟩:=List.getElem_of_mem C;have w:j<m.length:=by rw[h.1];exact E
  obtain⟨D,y,z⟩:=ET r (lz m d j) g (by unfold lz;rw[eC w];refine⟨by rw[oS];exact h.1,λi s q x f=>?_⟩;rw[oS]at s;rw[List.getElem_set]at f;split at f;rename_i e;subst e;rw[getD_eq s]at f;obtain f|f:=ja.1 f;exact h.2 _ s q x f;rw[gW.1 f];exact⟨F.symm,v.2⟩;exact h.2 i s q x f) t u B
  exact⟨D,by simp only[kh,mH,fT];exact⟨j,by omega,y⟩,z⟩;obtain⟨D,y,z⟩:=ET r (lz m d m.length) (g++[c d]) (by
   unfold lz;rw[ez (by omega)];refine⟨by simp[h.1],λi s q x f=>?_⟩;by_cases p:i<m.length;rw[nE p]at f;have:=h.2 i p (by rw[<-h.1];exact p) x f;rw[nE (by rw[<-h.1];exact p)];exact this;obtain rfl:i=m.length:=by simp at s;omega
   simp only[sO (eF _),mj,oy,gW]at f;subst f;refine⟨?_,v.2⟩;rw[sO (by rw[h.1];exact eF _)];simp) (List.nodup_append.2 ⟨t,by simp,λa G b H=>by rw[gW.1 H];exactλe=>C (e▸G)⟩) (λk o=>by
   obtain o|o:=ja.1 o;exact u k o;rw[gW.1 o];exact v.1) B
  exact⟨D,by simp only[kh,mH,fT];exact⟨m.length,by omega,y⟩,z⟩
def Ts(m:H.Ok){s n:Nat}{c:Nat->Nat}(u:lF H s)(h:Vs H s n c):0<=nW H s/\nW H s<=n:=by
 have E:=m.many;obtain⟨D,v,o,r,A,w⟩:=ET (n:=n) (c:=c) (P:=λx=>x∈fx s) (fx s) [] [] ⟨rfl,λi p=>by simp at p⟩ List.nodup_nil (λk B=>by cases B) λd q=>⟨h.1 d q,q⟩;have y:=qg n o A w
 have a:qd H D=true:=oH.2 λg C=>by
  obtain⟨i,p,rfl⟩:=List.getElem_of_mem C;have l:i<o.length:=by rw[<-r.1];exact p
  have e:=r.2 i p l;have t:∀d∈D[i],d<5:=λd q=>(kq.1 (e d q).2).1;refine u6 m (K6 m u c o[i]).2 (λx z j=>?_) (h.2 o[i] (w _ (ft l)));rw[oI t z]at j;rw[BN z];exact⟨(kq.1 (e x j).2).2,(e x j).1⟩
 have f:=uE (qd H) (kh (fx s) []) _ (eF _);rw[mI]at f;unfold nW;rw[wo m u];cases j:xt (qd H) (kh (fx s) [])with
 |none=>
  rw[j]at f;have f:∀D∈kh (fx s) [],qd H D=false:=f;rw[f D v]at a;cases a
 |some b=>
  rw[j]at f;have:=f.2.1 D v a;have:=r.1;simp only[kT,jU];omega
def Sk(n:H.Ok)(v:lF H s)(h:nW H s=m):∃c,Vs H s m c:=by
 have y:=n.many;have o:=uE (qd H) (kh (fx s) []) _ (eF _);rw[mI]at o;unfold nW at h;rw[wo n v]at h;cases z:xt (qd H) (kh (fx s) [])with
 |none=>
  rw[z]at h;simp only[Option.map_none]at h;omega
 |some b=>
  rw[z]at h o;simp only[kT,jU]at h;obtain⟨A,F,B⟩:=o;have e:qd H b=true:=by have:=List.find?_some B;rw[fE]at this;exact this.2
  have p:b.length=m:=by omega
  have q:=(px y (fx s) [] v.2 (λg a=>by cases a) b A).2.1;have f:∀d∈fx s,∃h:b.findIdx (λg=>g.contains d)<b.length,d∈b[b.findIdx (λg=>g.contains d)]:=λd i=>by obtain⟨g,a,r⟩:=BM _ _ b A d (.inl i);have k:b.findIdx (λg=>g.contains d)<b.length:=List.findIdx_lt_length_of_exists ⟨g,a,by simpa using r⟩;refine⟨k,?_⟩;have:=List.findIdx_getElem (w:=k);simpa using this
  refine⟨λd=>b.findIdx λg=>g.contains d,λd i=>by rw[<-p];exact(f d i).1,λj t=>?_⟩;have t:j<b.length:=by omega
  have a:=q _ (ft t);refine u6 n (lF.gF y a).2 (λx u l=>?_) (oH.1 e _ (ft t));rw[BN u]at l;obtain⟨C,D⟩:=l;obtain⟨G,E⟩:=f x (kq.2 ⟨u,C⟩);rw[oI (λd i=>by have:=a d i;omega) u];subst D;exact E
def Sm(a:H.Ok)(k:lF H s)(e:lF H m)(h:∀x,x<5->s.testBit x=true->m.testBit x=true)(t:0<=nW H m):0<=nW H s/\nW H s<=nW H m:=by obtain⟨n,f⟩:∃n:Nat,nW H m=n:=⟨(nW H m).toNat,by omega⟩;obtain⟨c,l,o⟩:=Sk a e f;rw[f];refine Ts a k (c:=c) ⟨λd p=>?_,λj q=>?_⟩;obtain⟨g,r⟩:=kq.1 p;exact l d (kq.2 ⟨g,h d g r⟩);refine u6 a (K6 a e c j).2 (λx i b=>?_) (o j q);rw[BN i]at b⊢;exact⟨h x i b.1,b.2⟩
section
variable{G H:Gd}{σ τ:Nat->Nat}
end
def P3{xs:List Sx}{d:Nat}:d∈eO I xs↔∃x,xs[d]? =some x/\gP I x=false:=by unfold eO qQ;rw[ku,fT];constructor;rintro⟨a,b⟩;rw[gC a]at b⊢;exact⟨_,rfl,by simpa using b⟩;rintro⟨x,a,b⟩;obtain⟨c,_⟩:=kS.1 a;refine⟨c,?_⟩;rw[a];simp[b]
def BO(T:Int)(xs:List Sx):(eO T xs).Nodup:=(Nb T xs).imp λh=>Nat.ne_of_lt h
def K8{G:Gd}(c:G.Ok){xs:List Sx}(e:xs.length=G.doors.length)(f:Nat){b:ew}(g:b.length=(eO G.tries xs).length)(s:Nat):lF G (fU (fi G xs f) 0 b L0 s):=by have o:=c.many;obtain⟨h,i⟩:=xv (G:=G) (xs:=xs) (f:=f) (by omega) g s;refine⟨h,λd k=>?_⟩;obtain⟨a,l⟩:=kq.1 k;obtain⟨j,_,m,n,_⟩:=(i d a).1 l;rw[<-n,<-e];exact jH (ft m)
section
variable{G H:Gd}{σ τ:Nat->Nat}{xs ys:List Sx}
theorem wu(D:fW)(a:ew):∀k,k<=a.length->mU D a k=fU D 0 (a.take k) L0
 |0,_=>rfl
 |k+1,b=>by rw[kM (by omega),sE,tp,Nat.min_eq_left (by omega),eJ,<-wu D a k (by omega)];have e:a.getD k 0=a[k]:=getD_eq (by omega);simp only[mU];rw[e]
theorem xw{G:Gd}{L:Nat->Nat}:∀k,(∀s,s<k->0<=nW G (L s))->((li G L k).length:Int)=((List.range k).map λs=>nW G (L s)).sum
 |0,_=>rfl
 |k+1,h=>by
  rw[qE,jR,jU,nF,nS,List.sum_append,<-xw k λs c=>h s (by omega)];have:=h k (by omega);have b:nW G (L k)=(((iw G (L k)).getD []).length:Nat):=by unfold nW at this⊢;split;rename_i a;rw[a];rfl;rename_i a;rw[a]at this;exact absurd this (by decide)
  rw[lK,rf,List.sum_cons,List.sum_nil,b];omega
def Wr:Sp->Int
 |none=>0
 |some (_,_,k)=>k
def P4(i:xs.length<=5)(f:Nat):match ny G (fi G xs f)with
 |none=>fL (fi G xs f)=none
 |some j=>(j.length:Int)=Wr (fL (fi G xs f))/\(fL (fi G xs f)).isSome=true:=by
 have b:=uD (fi G xs f);unfold ny;cases n:fL (fi G xs f)with
 |none=>rfl
 |some x=>
  obtain⟨l,m,k⟩:=x;rw[n]at b;obtain⟨d,g,t,a⟩:=b;have g:d.length=(eO G.tries xs).length:=g;refine⟨?_,rfl⟩;unfold fA at a;rw[zY i g]at a;split at a;cases a;rename_i o;injection a with a;injection a with h a;injection a with u p;have e:mU (fi G xs f) (l.map Int.toNat) l.length=fU (fi G xs f) 0 d L0:=by
   have:l.map Int.toNat=d:=by rw[<-h,List.map_map];simp[wC]
   have q:l.length=d.length:=by rw[<-h,jU]
   rw[this,q,wu _ _ _ (eF _),mI]
  rw[e,xw 6 λs r=>Int.not_lt.1 λc=>o (List.any_eq_true.2 ⟨_,iX.2 ⟨s,fT.2 r,rfl⟩,decide_eq_true c⟩),p];rfl
end
def BP(x:Sx)(t:ew):Sx:=t.foldl (λx s=>iE x s false) x
def lP(t:ew)(h:Nat):Nat:=(t.filter λs=>decide (s%2=h)).length
theorem uF:∀(t:ew) (x:Sx),(BP x t).tries=x.tries+t.length/\(BP x t).mornings=x.mornings+lP t 0/\(BP x t).evenings=x.evenings+lP t 1/\(BP x t).opened=x.opened/\(BP x t).left=x.left
 |[],x=>by simp[BP,lP]
 |s::r,x=>by
  obtain⟨a,b,c,d,f⟩:=uF r (iE x s false);have e:BP x (s::r)=BP (iE x s false) r:=rfl;rw[e,a,b,c,d,f];have h:s%2=0\/s%2=1:=by omega
  unfold lP;rw[List.filter_cons,List.filter_cons];refine⟨?_,?_,?_,?_,rfl⟩;simp only[iE,gf];omega;obtain h|h:=h<;>simp[iE,h]<;>omega;obtain h|h:=h<;>simp[iE,h]<;>omega;simp[iE]
theorem yy:∀t:ew,lP t 0+lP t 1=t.length
 |[]=>rfl
 |s::r=>by
  have a:=yy r;unfold lP at a⊢;rw[List.filter_cons,List.filter_cons];have h:s%2=0\/s%2=1:=by omega
  obtain h|h:=h<;>simp[h]<;>omega
def ve:0<lP l m↔l.any (λs=>decide (s%2=m))=true:=by unfold lP;rw[List.length_pos_iff_exists_mem,List.any_eq_true];constructor;rintro⟨s,a⟩;exact⟨s,(ku.1 a).1,(ku.1 a).2⟩;rintro⟨s,b,c⟩;exact⟨s,ku.2 ⟨b,c⟩⟩
def P5{x:Sx}(l:0<=x.mornings/\0<=x.evenings)(h:gP H.tries x=false){t:ew}(a:gP H.tries (BP x t)=true):(ju H x).tries<=t.length:=by
 obtain⟨f,g,i,j,k⟩:=uF t x;have m:=yy t;unfold gP at h a;rw[f,g,i,j,k]at a;rw[Bool.or_eq_false_iff]at h;rw[h.1,Bool.false_or,fE,decide_eq_true_iff,tn,fE,decide_eq_true_iff,decide_eq_true_iff,decide_eq_true_iff]at a;simp only[ju,Ca,pk,qm];have d:∀b:Bool,vz b<=1:=λb=>by cases b<;>decide
 have n:∀b:Bool,0<=vz b:=λb=>by cases b<;>decide
 have o:=d (decide (2<=H.tries)&&decide (x.mornings=0));have p:=d (decide (2<=H.tries)&&decide (x.evenings=0));obtain q|⟨r,s⟩:=a.2;have e:decide (2<=H.tries)=false:=jj (by omega);rw[e,Bool.false_and,Bool.false_and];have:vz false=0:=rfl;omega;have u:vz (decide (2<=H.tries)&&decide (x.mornings=0))<=lP t 0:=by by_cases c:x.mornings=0;omega;rw[jj c,Bool.and_false];show(0:Int)<=_;omega
 have v:vz (decide (2<=H.tries)&&decide (x.evenings=0))<=lP t 1:=by by_cases c:x.evenings=0;omega;rw[jj c,Bool.and_false];show(0:Int)<=_;omega
 omega
def HH{x:Sx}(k:0<=x.mornings/\0<=x.evenings)(b:(l.length:Int)=(ju H x).tries)(a:rD (ju H x) l=true):gP H.tries (BP x l)=true:=by
 obtain⟨c,d,f,g,i⟩:=uF l x;unfold rD at a;simp only[ju,Ca,pk,qm,fE,tn]at b a;rw[<-ve,<-ve]at a;unfold gP;rw[c,d,f,g,i];simp only[tn,fE,decide_eq_true_iff];refine .inr ⟨by omega,?_⟩;by_cases j:H.tries<2;exact .inl j;have e:decide (2<=H.tries)=true:=decide_eq_true (by omega);rw[e,Bool.true_and,Bool.true_and]at a;refine .inr ⟨?_,?_⟩;obtain h|h:=a.1;omega;have:x.mornings≠0:=by simpa using h
 omega;obtain h|h:=a.2;omega;have:x.evenings≠0:=by simpa using h
 omega
structure JF(G:Gd)(x:Sx)(f:Nat)(t:List Nat):Prop where
 up:t.Pairwise λa b=>a/2<b/2
 free:∀s∈t,uj x (s/2)=false/\f<=s/\s<fS G
theorem Ds{x:Sx}{u:Du}:∀{n:Nat} {l t:ew} {a:Nat},JF H x m l->(∀s∈l,s<a)->m<=a->t∈mz (fS H) x u n l a->JF H x m t/\(t.length:Int)=u.tries/\rD u t=true
 |0,l,t,a,_,_,_,h=>by cases h
 |n+1,l,t,a,o,r,E,h=>by
  simp only[mz]at h;split at h;rename_i f;split at h;rename_i g;rw[gW.1 h];exact⟨o,f,g⟩;cases h;obtain⟨i,w,h⟩:=mH.1 h;have w:=fT.1 w;split at h;cases h;rename_i e;have e:qC x l (a+i)=false:=by simpa using e
  unfold qC at e;rw[Bool.or_eq_false_iff]at e;refine Ds ⟨List.pairwise_append.2 ⟨o.up,List.pairwise_singleton _ _,λp c q A=>?_⟩,λs b=>?_⟩ (λs b=>?_) (by omega) h;rw[gW.1 A];have B:=r p c;have d:∃z,l.getLast?=some z/\p/2<=z/2:=by
   obtain⟨z,j⟩:∃z,l.getLast?=some z:=by
    cases y:l.getLast? with
    |none=>rw[List.getLast?_eq_none_iff]at y;rw[y]at c;cases c
    |some z=>exact⟨z,rfl⟩
   refine⟨z,j,?_⟩;obtain⟨F,rfl⟩:=List.getLast?_eq_some_iff.1 j;obtain c|c:=ja.1 c;exact Nat.le_of_lt ((List.pairwise_append.1 o.up).2.2 p c z (by simp));rw[gW.1 c];exact eF _
  obtain⟨z,j,C⟩:=d;have D:=r z (List.mem_of_getLast? j);have v:=e.2;have k:0<l.jK:=List.length_pos_iff_exists_mem.2 ⟨p,c⟩;rw[j,decide_eq_true k,Bool.true_and,decide_eq_false_iff_not]at v;have v:¬z/2=(a+i)/2:=v;omega;obtain b|b:=ja.1 b;exact o.free s b;rw[gW.1 b];exact⟨e.1,by omega,by omega⟩;obtain b|b:=ja.1 b;have:=r s b;omega;rw[gW.1 b];omega
def pz{x:Sx}(h:l∈gi H x m):JF H x m l/\(l.length:Int)=(ju H x).tries/\rD (ju H x) l=true:=Ds ⟨List.Pairwise.nil,λs a=>by cases a⟩ (λs a=>by cases a) (eF m) h
theorem K9:∀(t:ew) (x:Sx) (d:Nat),d<3->(∀s∈t,s<6)->uj (BP x t) d=(uj x d||t.any λs=>decide (s/2=d))
 |[],x,d,_,_=>by simp[BP]
 |s::r,x,d,b,h=>by
  have c:=K9 r (iE x s false) d b λy f=>h y (gG _ f);have e:BP x (s::r)=BP (iE x s false) r:=rfl;rw[e,c,List.any_cons,<-Bool.or_assoc];congr 1;have i:=h s gD;obtain rfl|rfl|rfl:d=0\/d=1\/d=2:=by omega
  all_goals
   simp only[uj,iE];by_cases g:s/2=0;simp[g];by_cases a:s/2=1;simp[a];have:s/2=2:=by omega
   simp[this]
def uG(s:Nat):(fx s).Nodup:=(List.pairwise_lt_range.filter _).imp λh=>Nat.ne_of_lt h
theorem HI(d:Nat):∀(a:List ew) (i:Nat) (h:i<a.length),(a.set i (a[i]++[d])).flatten.Perm (a.flatten++[d])
 |g::r,0,_=>by simp only[List.set_cons_zero,oy,List.flatten_cons,List.append_assoc];exact List.Perm.append_left g List.perm_append_comm
 |g::r,i+1,h=>by simp only[List.set_cons_succ,Fh,List.flatten_cons,List.append_assoc];exact List.Perm.append_left g (HI d r i (by simpa using h))
def Nc(a:List ew)(d i:Nat):(lz a d i).flatten.Perm (a.flatten++[d]):=by unfold lz;split;rename_i h;rw[getD_eq h];exact HI d a i h;rw[List.flatten_append];simp
theorem Dt:∀(l:ew) (a:List ew),∀D∈kh l a,D.flatten.Perm (a.flatten++l)
 |[],a,D,b=>by
  obtain rfl:D=a:=by simpa[kh]using b
  rw[List.append_nil]
 |d::r,a,D,b=>by simp only[kh,mH,fT]at b;obtain⟨j,f,b⟩:=b;have c:=Dt r _ D b;have e:=(Nc a d j).append_right r;have:=c.trans e;simpa using this
theorem La:∀(l:ew) (c:List ew),(∀g∈c,g≠[])->∀D∈kh l c,∀g∈D,g≠[]
 |[],c,h,D,b=>by
  obtain rfl:D=c:=by simpa[kh]using b
  exact h
 |d::r,c,h,D,b=>by simp only[kh,mH,fT]at b;obtain⟨j,e,b⟩:=b;refine La r _ (λg a=>?_) D b;unfold lz at a;split at a;obtain a|rfl:=sP a;exact h g a;simp;obtain a|a:=ja.1 a;exact h g a;rw[gW.1 a];simp
def BQ(i:H.Ok)(q:lF H s){j:List ew}(h:iw H s=some j):j.flatten.Perm (fx s)/\∀l∈j,l≠[]/\jX H l<=H.minutes:=by
 have w:=i.many;rw[wo i q]at h;obtain⟨D,y,rfl⟩:=jo.1 h;have t:=uE (qd H) (kh (fx s) []) _ (eF _);rw[mI,y]at t;obtain⟨k,F,z⟩:=t;have m:qd H D=true:=by have:=List.find?_some z;rw[fE]at this;exact this.2
 have n:=(px w (fx s) [] q.2 (λg a=>by cases a) D k).2.1;have b:D.flatten.Perm (fx s):=by simpa using Dt (fx s) [] D k
 have o:=uG s;have p:∀g∈D,g.Nodup:=λg a=>(List.sublist_flatten_of_mem a).nodup (b.nodup_iff.2 o)
 have u:∀g∈D,(fy H (gF g)).Perm g:=λg a=>by
  have c:∀d∈g,d<5:=λd A=>by have:=n g a d A;omega
  refine(po i (gF g)).1.trans ((List.perm_ext_iff_of_nodup (uG _) (p g a)).2 λx=>?_);rw[kq];constructor;rintro⟨f,B⟩;exact(oI c f).1 B;intro f;exact⟨c x f,(oI c (c x f)).2 f⟩
 refine⟨?_,λl C=>?_⟩
 have:∀D:List ew,(∀g∈D,(fy H (gF g)).Perm g)->(D.map λg=>fy H (gF g)).flatten.Perm D.flatten:=λD=>by
  induction D with
  |nil=>exactλ_=>.refl _
  |cons g r E=>exactλh=>(h g gD).append (E λx f=>h x (gG _ f))
 exact(this D u).trans b;obtain⟨g,a,rfl⟩:=iX.1 C;refine⟨λe=>?_,?_⟩;have v:=u g a;rw[e]at v;exact La _ _ (λg a=>by cases a) D k g a (List.nil_perm.1 v);have:=oH.1 m g a;exact fQ this
def sG(d:Nat)(W:List (Nat×ew)):ew:=(W.filter λp=>decide (d∈p.2)).map (·.1)
def sH(s:Nat)(W:List (Nat×ew)):Nat:=(W.filter λp=>decide (p.1=s)).length
def EU(d:Nat)(A B:List (Nat×ew)):sG d (A++B)=sG d A++sG d B:=by unfold sG;rw[List.filter_append,nS]
theorem Lb(d s:Nat):∀c:List ew,c.flatten.Nodup->sG d (c.map λl=>(s,l))=if d∈c.flatten then [s]else []
 |[],_=>rfl
 |l::r,h=>by
  rw[List.flatten_cons]at h;obtain⟨j,f,g⟩:=List.nodup_append.1 h;have i:=Lb d s r f;rw[lK,List.flatten_cons];have e:sG d ((s,l)::r.map λl=>(s,l))=(if d∈l then [s]else [])++sG d (r.map λl=>(s,l)):=by unfold sG;rw[List.filter_cons];by_cases a:d∈l;rw[eC (decide_eq_true a),eC a];rfl;rw[ez (by simpa using a),ez a];rfl
  rw[e,i];by_cases a:d∈l;have:d∉r.flatten:=λb=>g d a d b rfl;rw[eC a,ez this,eC (List.mem_append_left _ a)];rfl;rw[ez a,sQ];by_cases b:d∈r.flatten;rw[eC b,eC (List.mem_append_right _ b)];rw[ez b,ez (λh=>(ja.1 h).elim a b)]
def P6(s:Nat)(A B:List (Nat×ew)):sH s (A++B)=sH s A+sH s B:=by unfold sH;rw[List.filter_append,jR]
def P7(s x:Nat)(a:List ew):sH x (a.map λl=>(s,l))=if s=x then a.length else 0:=by unfold sH;rw[List.filter_map,jU];by_cases h:s=x;rw[eC h,List.filter_eq_self.2 λl _=>by simp[h]];rw[ez h,Fg.2 λl _=>by simp[h]];rfl
section
variable{G:Gd}{L:Nat->Nat}
def yz(G:Gd)(L:Nat->Nat):Prop:=∀s,s<6->lF G (L s)/\0<=nW G (L s)
def yz.Vt(d:G.Ok)(h:yz G L){s:Nat}(e:s<6):∃a,iw G (L s)=some a/\nW G (L s)=a.length/\a.flatten.Perm (fx (L s))/\∀l∈a,l≠[]/\jX G l<=G.minutes:=by
 obtain⟨f,b⟩:=h s e;cases c:iw G (L s)with
 |none=>
  unfold nW at b;rw[c]at b;exact absurd b (by decide)
 |some a=>
  obtain⟨g,i⟩:=BQ d f c;refine⟨a,rfl,?_,g,i⟩;unfold nW;rw[c]
theorem sI(n:G.Ok)(h:yz G L):∀k,k<=6->((li G L k).Pairwise λa b=>a.1<=b.1)/\(∀p∈li G L k,p.1<k/\p.2≠[]/\p.2.Nodup/\jX G p.2<=G.minutes/\∀d∈p.2,d∈fx (L p.1))/\(∀d,sG d (li G L k)=(List.range k).filter λs=>decide (d∈fx (L s)))/\∀s,(sH s (li G L k):Int)=if s<k then nW G (L s)else 0
 |0,_=>⟨List.Pairwise.nil,λp f=>(by cases f),λd=>rfl,λs=>rfl⟩
 |k+1,C=>by obtain⟨u,o,v,w⟩:=sI n h k (by omega);obtain⟨q,x,y,f,z⟩:=h.Vt n (s:=k) (by omega);have i:q.flatten.Nodup:=f.nodup_iff.2 (uG _);rw[qE,x];simp only[lT];refine⟨List.pairwise_append.2 ⟨u,List.pairwise_map.2 (List.pairwise_of_forall λ_ _=>eF _),λa A b B=>?_⟩,λp c=>?_,λd=>?_,λs=>?_⟩;obtain⟨l,_,rfl⟩:=iX.1 B;have:=(o a A).1;show a.1<=k;omega;obtain c|c:=ja.1 c;obtain⟨r,m⟩:=o p c;exact⟨by omega,m⟩;obtain⟨l,e,rfl⟩:=iX.1 c;obtain⟨r,m⟩:=z l e;exact⟨Nat.lt_succ_self k,r,(List.sublist_flatten_of_mem e).nodup i,m,λd g=>f.mem_iff.1 (List.mem_flatten.2 ⟨l,e,g⟩)⟩;rw[EU,v d,Lb d k q i,nF,List.filter_append];congr 1;rw[List.filter_cons];by_cases g:d∈fx (L k);rw[eC (f.mem_iff.2 g),eC (decide_eq_true g)];rfl;rw[ez (λh=>g (f.mem_iff.1 h)),ez (by simpa using g)];rfl;rw[P6,Int.natCast_add,w s,P7];by_cases t:k=s;subst t;rw[ez (by omega),eC rfl,eC (by omega),y];omega;rw[ez t];by_cases j:s<k;rw[eC j,eC (by omega)];omega;rw[ez j,ez (by omega)];rfl
end
def Nd{t:ew}(h:t.Pairwise λa b=>a/2<b/2)(e:∀s∈t,s<6):((List.range 6).filter λs=>decide (s∈t))=t:=by
 have c:t.Pairwise (·<·):=h.imp λh=>by omega
 have d:((List.range 6).filter λs=>decide (s∈t)).Pairwise (·<·):=List.pairwise_lt_range.filter _;refine List.Perm.eq_of_pairwise (le:=(·<=·)) (λa b _ _ f g=>Nat.le_antisymm f g) (d.imp Nat.le_of_lt) (c.imp Nat.le_of_lt) ((List.perm_ext_iff_of_nodup (d.imp Nat.ne_of_lt) (c.imp Nat.ne_of_lt)).2 λx=>?_);rw[ku,fT,decide_eq_true_iff];exact⟨λh=>h.2,λh=>⟨e x h,h⟩⟩
theorem EV:∀(l:iA) (a:Int),l.foldl max a=a\/l.foldl max a∈l
 |[],a=>.inl rfl
 |x::r,a=>by rw[nD];obtain h|h:=EV r (max a x);rw[h];obtain b|b:=Int.le_total a x;rw[Int.max_eq_right b];exact .inr gD;rw[Int.max_eq_left b];exact .inl rfl;exact .inr (gG _ h)
theorem xx:∀(l:iA) (a:Int),a<=l.foldl max a/\∀x∈l,x<=l.foldl max a
 |[],a=>⟨Int.le_refl _,λx b=>by cases b⟩
 |y::r,a=>by rw[nD];obtain⟨d,c⟩:=xx r (max a y);have:=Int.le_max_left a y;have:=Int.le_max_right a y;refine⟨by omega,λx b=>?_⟩;obtain rfl|b:=gI.1 b;omega;exact c x b
section
variable{G:Gd}{xs:List Sx}
def Lc(B:G.Ok)(F:xs.length=G.doors.length)(f:Nat){l:iA}(C:fL (fi G xs f)=some (l,I,J)):∃(L:Nat->Nat) (a:ew),ny G (fi G xs f)=some (li G L 6)/\yz G L/\(∀s,s<6->nW G (L s)<=I)/\(0<I->∃s,s<6/\nW G (L s)=I)/\0<=I/\∀d,(d∈eO G.tries xs/\∃t,t∈gi G (xs.getD d nP) f/\∀s,d∈fx (L s)↔s∈t)\/(d∉eO G.tries xs/\∀s,d∉fx (L s)):=by
 have O:=B.many;have q:=uD (fi G xs f);rw[C]at q;obtain⟨a,r,H,k⟩:=q;have r:a.length=(eO G.tries xs).length:=r;unfold fA at k;rw[zY (by omega) r]at k;split at k;cases k;rename_i K;injection k with k;injection k with D k;injection k with y P;have e:mU (fi G xs f) (l.map Int.toNat) l.length=fU (fi G xs f) 0 a L0:=by
  have:l.map Int.toNat=a:=by rw[<-D,List.map_map];simp[wC]
  have M:l.length=a.length:=by rw[<-D,jU]
  rw[this,M,wu _ _ _ (eF _),mI]
 have u:∀s,s<6->nW G (fU (fi G xs f) 0 a L0 s)∈(List.range 6).map λs=>nW G (fU (fi G xs f) 0 a L0 s):=λs b=>iX.2 ⟨s,fT.2 b,rfl⟩;have p:=xx ((List.range 6).map λs=>nW G (fU (fi G xs f) 0 a L0 s)) 0;rw[y]at p;refine⟨fU (fi G xs f) 0 a L0,a,?_,λs b=>⟨K8 B F f r s,?_⟩,λs b=>p.2 _ (u s b),λQ=>?_,p.1,λd=>?_⟩;unfold ny;rw[C];show some (li G (mU (fi G xs f) (l.map Int.toNat) l.length) 6)=_;rw[e];exact Int.not_lt.1 λv=>K (List.any_eq_true.2 ⟨_,u s b,decide_eq_true v⟩);obtain h|h:=EV ((List.range 6).map λs=>nW G (fU (fi G xs f) 0 a L0 s)) 0;rw[y]at h;omega;rw[y]at h;obtain⟨s,b,g⟩:=iX.1 h;exact⟨s,fT.1 b,g⟩
 have o:∀s,d∈fx (fU (fi G xs f) 0 a L0 s)↔∃j,∃h:j<a.length,∃R:j<(eO G.tries xs).length,(eO G.tries xs)[j]=d/\s∈(gi G (xs.getD (eO G.tries xs)[j] nP) f).getD a[j] []:=λs=>by
  obtain⟨_,E⟩:=xv (G:=G) (xs:=xs) (f:=f) (by omega) r s;rw[kq];constructor;rintro⟨m,z⟩;exact(E d m).1 z;rintro⟨j,w,c,g,b⟩;have m:d<5:=by rw[<-g];have:=jH (ft c);omega
  exact⟨m,(E d m).2 ⟨j,w,c,g,b⟩⟩
 by_cases n:d∈eO G.tries xs;refine .inl ⟨n,?_⟩;obtain⟨j,c,g⟩:=List.getElem_of_mem n;have w:j<a.length:=by omega
 have x:=H j w;rw[qf f c,g]at x;refine⟨(gi G (xs.getD d nP) f)[a[j]],ft x,λs=>?_⟩;rw[o s];constructor;rintro⟨i,S,N,A,b⟩;obtain rfl:i=j:=(List.getElem_inj (BO _ _)).1 (A.trans g.symm);rw[g,getD_eq x]at b;exact b;intro b;exact⟨j,w,c,g,by rw[g,getD_eq x];exact b⟩;refine .inr ⟨n,λs b=>?_⟩;obtain⟨j,w,c,g,_⟩:=(o s).1 b;exact n (by rw[<-g];exact ft c)
end
section
variable{G:Gd}{da:Option Addr}{dc:Nat}{w:er}
end
def P8{k:oz}{a:Array eD}{b:Array Bool}(h:k (.int .i64 (min I J)) w):zw V.prog (builtin .min a T b #[.int .i64 I,.int .i64 J]) w k:=by
 refine⟨_,w,?_,h⟩;have c:Sem.run lS (Builtin.min_ a T #[i64 I,i64 J]) w=.ok (i64 (min I J)) w:=by unfold Builtin.min_;simp only[List.foldlM_cons,List.foldlM_nil,Builtin.min2,pure_bind,Sem.run_pure];congr 2;show(if J<I then J else I)=_;split<;>omega
 unfold builtin;simp only[Sem.run_bind,c,Result.andThen_ok,Sem.run_pure]
def kN(G:Gd)(l:List Ty)(k:Nat):ew:=(List.range k).filter λd=>!sC G l d
def Dv(G:Gd)(l:List Ty)(k:Nat):kN G l (k+1)=if sC G l k then kN G l k else kN G l k++[k]:=by simp only[kN,nF,List.filter_append,List.filter_cons,List.filter_nil];cases sC G l k<;>simp
def JG(G:Gd)(l:List Ty)(n:Nat):eO G.tries ((List.range n).map (iC l))=kN G l n:=by unfold eO qQ kN;rw[jU,List.length_range];refine List.filter_congr λd a=>?_;have a:=fT.1 a;simp[ng,List.getElem?_range a,rH]
def JH(a:Ext w t)(d:DE m t e)(h:w.heap.size<=m):Ext w e:=⟨d.1.os.trans a.os,d.1.tape.trans a.tape,d.1.output.trans a.output,ff a.size d.1.size,ff a.drawn d.1.drawn,λx b=>(d.1.block x (fN b a.size) (by omega)).trans (a.block x b)⟩
def sD.rowOf{l:List Ty}(h:sD m w (.slice a k i) l):yr w a l:=by obtain⟨d,f,e,b,g⟩:=h.row;injection e with c;rw[c];exact b
def EX(l:List Ty):lG (l.map Se)=tf l:=by unfold lG tf;rw[List.getLast?_map];cases l.getLast?<;>rfl
def P9{l:List Ty}(h:Made H l s):tf l<=s:=by
 unfold tf;cases a:l.getLast? with
 |none=>exact iQ _
 |some t=>exact h.last t (List.mem_of_getLast? a)
def Cd{l:List Ty}(a:ij H=0)(h:Made H l s){f:Nat}(c:tf l<=f)(d:(f:Int)<=2*H.days-1):gq H (l.map Se) f 0=0:=by
 have e:Bc H (l.map Se)=0:=by rw[Bc,eC a,h.log]
 have b:oD (f:Int) 0 (2*H.days-1)=true:=by simp[oD];omega
 have g:uk H (lG (l.map Se)) f=0:=by rw[uk,b,EX,eC rfl,ez (by omega)]
 rw[gq,eC e,eC g];rfl
section
variable{G H:Gd}{σ τ:Nat->Nat}
end
section
variable{H G:Gd}
end
def iq.yA{x y:Code}{l:L}{Q:QW}(h:iq P m x l w (Ow (λc d=>iq P m y c d Q) Q)):iq P m (.seq x y) l w Q:=⟨λa g=>by
 refine mK (mY (h.out a g) ?_);rintro e i d ⟨c,b,f⟩;cases e with
 |normal=>exact f.out i b
 |_=>exact⟨c,b,f⟩⟩
def Tt{Q:QW}{e:Exit}{a:Act}(h:∃g,Fr k g a/\lE m Q e g w):Exit.inBlock m (lift k Q) e a w:=by
 obtain⟨f,b,d⟩:=h;cases e with
 |exit j=>
  simp only[Exit.inBlock];by_cases c:j=m;subst c;rw[eC rfl];simp only[lE,yE]at d;exact⟨f,b,d⟩;rw[ez c];have:Nat.beq j m=false:=by
   cases i:Nat.beq j m with
   |false=>rfl
   |true=>exact absurd (jL i) c
  simp only[lE,this]at d;exact⟨f,b,d⟩
 |_=>exact⟨f,b,d⟩
theorem iq.block{c:Code}{l:L}{Q:QW}(h:iq P m c l w (lE k Q)):iq P m (.block k c) l w Q:=⟨λa b=>by refine wp_block (mY (h.out a b) ?_);intro e f g d;exact Tt d⟩
def EY{i:Type}(n:Nat){c:Code}{l:L}{Q:QW}(g:Nat->i->L)(J:Nat->i->fa)(o:i)(r:Sub (g 0 o) l/\J 0 o w)
 (d:∀b s w,b<=n->J b s w->iq V.prog m c (g b s) w (λe t u=>match e with
  | .normal=>b<n/\∃h,Sub (g (b+1) h) t/\J (b+1) h u
  |e=>lE k Q e t u)):iq V.prog m (Code.block k (Code.loop c)) l w Q:=by
 refine⟨λa p=>?_⟩;refine wp_block<|pd (λj a w=>∃b s,b<=n/\j=n-b/\Fr m (g b s) a/\J b s w) n ⟨0,o,iQ _,by omega,p.sub r.1,r.2⟩ ?_;rintro j a w ⟨b,s,x,rfl,p,y⟩;refine mY ((d b s w x y).out a p) ?_;rintro e C D ⟨v,f,q⟩;cases e with
 |normal=>
  obtain⟨z,h,A,B⟩:=q;exact⟨n-(b+1),by omega,b+1,h,by omega,rfl,f.sub A,B⟩
 |exit j=>
  simp only[Exit.then];exact Tt (e:=.exit j) ⟨v,f,q⟩
 |_=>exact⟨v,f,q⟩
theorem vf{T:BU}{Q:Exit->Act->fa}{r0:Option Nat}{ds:List Deferred}(F:oT P T)(z:ew){K:L->fa}{q:L->List PanicEntry->fa}{e:Array Oper}(G:∀l a w,rI ds m l a->K l w->wpOpsIn (wd r0) 0 P e Q z a w)(H:∀l c a w,rI ds m l a->q l c w->Q (.panic c) a w):∀(r:List Oper) (i:Nat) (f:ew) (l:L) (a:Act) (w:er),(∀j,j<r.length->r[j]? =e[i+j]?)->rI ds m l a->pf P T m K q e.toList r f l w->wpOpsIn (wd r0) 0 P e Q (List.range' i r.length++z) a w
 |[],i,f,l,a,w,_,k,h=>by rw[il,List.range'_zero,sQ];exact G l a w k h
 |o::r,i,f,l,a,w,N,k,h=>by
  have O:e[i]? =some o:=(N 0 (by simp)).symm;have A:∀j,j<r.length->r[j]? =e[i+1+j]? :=λj S=>by have:=N (j+1) (by simpa using S);simpa[sR,Nat.add_comm 1 j]using this
  obtain⟨h,J⟩:=Ef h
  have t:∀f l,rI ds m l a->Region.wanted o (yielded e a.tmps)=true->Ee P T f l w o (λv y=>pf P T m K q e.toList r f (ins m o.dst v l) y) (λy=>pf P T m K q e.toList r f (ins m o.dst undef l) y) (q l)->
   wpOpsIn (wd r0) 0 P e Q (List.range' i (o::r).length++z) a w:=by
   intro f l k s h;rw[gf,JS,qp];simp only[wpOpsIn,O,s,fF];refine(AJ F k.b h (λv y B=>?_) (λy B=>?_) λc y B=>H l c a y k B);exact vf F z G H r (i+1) f _ _ y A (k.put o.dst v J) B;exact vf F z G H r (i+1) f _ _ y A (k.put o.dst undef J) B
  have skip:∀f l,rI ds m l a->Region.wanted o (yielded e a.tmps)=false->pf P T m K q e.toList r f (ins m o.dst undef l) w->wpOpsIn (wd r0) 0 P e Q (List.range' i (o::r).length++z) a w:=by intro f l k s h;rw[gf,JS,qp];simp only[wpOpsIn,O,s,jE,gy];refine⟨λ_ _=>trivial,?_⟩;exact vf F z G H r (i+1) f _ _ w A (k.put o.dst undef J) h
  split at h;rename_i I;exact t f l k (by simp[Region.wanted,I]) h;rename_i g p I;split at h;exact h.elim;rename_i d C;rw[pt]at C;have D:(e[g]?).bind (·.dst)=some d:=by simpa using C
  split at h;rename_i b E;have n:a.eval (.tmp d)=.bool b:=k.b.at_ d _ E;have M:yielded e a.tmps g=some b:=by
   rw[mR]at n;unfold yielded;rw[D];simp only[tv];cases R:a.tmps[d]? with
   |none=>rw[R]at n;simp[undef]at n
   |some x=>rw[R]at n;simp at n;subst n;rfl
  have s:Region.wanted o (yielded e a.tmps)=(b==p):=by simp[Region.wanted,I,M]
  split at h;cases b<;>cases p<;>simp only at h;exact t f l k (by rw[s];rfl) h;exact skip f l k (by rw[s];rfl) h;exact skip f l k (by rw[s];rfl) h;exact t f l k (by rw[s];rfl) h;cases b with
  |true=>
   have h:=h.1 rfl;have u:=k.xT E;cases p with
   |true=>simp only at h;exact t (d::f) ((d,.bool true)::l) u (by rw[s];rfl) h
   |false=>exact skip (d::f) ((d,.bool true)::l) u (by rw[s];rfl) h
  |false=>
   have h:=h.2 rfl;have u:=k.xT E;cases p with
   |true=>exact skip (d::f) ((d,.bool false)::l) u (by rw[s];rfl) h
   |false=>simp only at h;exact t (d::f) ((d,.bool false)::l) u (by rw[s];rfl) h
  rename_i U E;have n:a.eval (.tmp d)=.tuple U:=k.b.at_ d _ E;have M:yielded e a.tmps g=none:=tV D n;exact skip f l k (by simp[Region.wanted,I,M]) h;exact h.elim
structure mJ(P:eE)(N:Nat)(ops:Array Oper)(i:Nat)(l:L)(w:er)(Q:QW):Prop where
 out:∀a,Fr N l a->wpOpsIn (wd none) 0 P ops (lift N Q) (List.range' i (ops.size-i)) a w
def mJ.start{N id:Nat}{b:Array Oper}{l:L}{Q:QW}(h:mJ P N b 0 l w Q):iq P N (.region id b false) l w Q:=⟨λa c=>by refine wpIn_wide.1 (wpIn_region (n:=0) ?_);have:=h.out a c;rw[Nat.sub_zero,<-List.range_eq_range']at this;exact this⟩
def mJ.cut{T:BU}(n:Nat)(g:oT P T){b:Array Oper}{l:L}{Q:QW}(h:pf P T m (λl w=>mJ P m b (i+n) l w Q) (λl c w=>Q (.panic c) l w) b.toList ((b.toList.drop i).take n) [] l w)(f:Nat.ble (i+n) b.size=true:=by rfl):mJ P m b i l w Q:=⟨λa d=>by
 have f:=sS f;have k:((b.toList.drop i).take n).length=n:=by rw[tp,List.length_drop,Array.length_toList];omega
 have:=vf (r0:=none) (ds:=[]) g (List.range' (i+n) (b.size-(i+n))) (Q:=lift m Q) (λl a w d e=>e.out a d.fr) (λl c a w d e=>⟨l,d.fr,e⟩) ((b.toList.drop i).take n) i [] l a w (λj o=>by rw[List.getElem?_take_of_lt (by omega),List.getElem?_drop,Array.getElem?_toList]) d.W6 h;rw[k,List.range'_append_1,show n+(b.size-(i+n))=b.size-i by omega]at this;exact this⟩
def mJ.fin{b:Array Oper}{l:L}{Q:QW}(h:Q .normal l w)(c:Nat.ble b.size i=true:=by rfl):mJ P m b i l w Q:=⟨λa d=>by have c:=sS c;rw[show b.size-i=0 by omega];exact⟨l,d,h⟩⟩
def mJ.jm{b:Array Oper}{l l0:L}{Q:QW}(c:Sub l0 l)(h:mJ P m b i l0 w Q):mJ P m b i l w Q:=⟨λa d=>h.out a (d.sub c)⟩
def mJ.to{a:Array Oper}{l b:L}{Q:QW}(h:mJ P m a i b w Q)(c:Sub b l):mJ P m a i l w Q:=mJ.jm c h
def Sn(p:Int×Bool):eu:=if p.2 then .tuple #[.int .i64 p.1,.int .i64 0]else .tuple #[.int .i64 0,.int .i64 11]
def EZ{G:Gd}{dc:Nat}{l:List Tq}{la:fR}{lc:Nat}(t:lM w a G.doors)(e:G.doors.length<=100000)(u:vX w la l)(m:l.length<=100000)(c:Int):
 Calls V.prog 46 #[gV G a dc,.slice la l.length lc,.int .i64 c] w (vn λv p=>Ext w p/\((gq G l c 0≠0/\v=.tuple #[.int .i64 0,.int .i64 (gq G l c 0)])\/(gq G l c 0=0/\v=Sn (nL (fi G (lx G l).2 c.toNat))))):=by
 refine jT Tryz.func46 Tryz.ntmps46 ?_;refine jx λC D i x n=>jz n (eL (nM (dc:=dc) (t.ext i) e (u.ext i) m c 0) ?_);rintro v E ⟨q,⟨d,rfl⟩|⟨d,F,H,mk,I,rfl,j,y⟩⟩;exact jS (lq (by simpa using d) (.inl ⟨_,rfl,i.trans q,.inl ⟨d,rfl⟩⟩));have z:=j.g.lo;have J:=i.size;obtain⟨f,rfl,o,_⟩:=mV j.k.g.wx d;refine jS (nU (by simp) (jY (C8 (n0:=w.heap.size) j.k (λb n=>n.elim) j.g.Vo (by omega) (by omega) y o) (λp h=>.inr ⟨rfl,h⟩) ?_));rintro _ A ⟨B,rfl⟩;have r:Ext w A:=B.1.from (i.trans q) (eF _);rw[sL];cases s:(nL (fi G (lx G l).2 f)).2 with
 |false=>exact gT (lq rfl (.inl ⟨_,rfl,r,.inr ⟨d,by unfold Sn;rw[s];rfl⟩⟩))
 |true=>exact gT (nU rfl (.inl ⟨_,rfl,r,.inr ⟨d,by unfold Sn;rw[s];rfl⟩⟩))
def Tu(a:List Dr)(c:m<a.length)(d:k<3):(a.flatMap dL)[m*3+k]? =(dL a[m])[k]? :=by have b:k<(dL a[m]).jK:=d;rw[gC b];exact Jx (f:=dL) (n:=3) (λ_=>rfl) a m c k _ (gC b)
theorem qn.set{a:List Dr}(h:qn m w (.slice (some ⟨k,0,none⟩) a.length j) a)(v:w.heap[k]? =some (.cells W 81))(H:i<a.length)(l:t.heap[k]? =some (.cells (W.setIfInBounds (i*3+2) (.int .i64 I)) 81)):qn m t (.slice (some ⟨k,0,none⟩) (a.set i ⟨a[i].st,a[i].at_,I⟩).length j) (a.set i ⟨a[i].st,a[i].at_,I⟩):=by
 obtain⟨J,⟨K,_⟩|⟨x,L,y,z,e,d,p,A,B,C,D⟩⟩:=h;omega;injection e with e _ E;obtain rfl:k=x:=eX Addr.block (eP e);rw[v]at d;injection d with d;injection d with d;subst d;subst E;have F:=u5 a;have b:=u5 (a.set i ⟨a[i].st,a[i].at_,I⟩);rw[oS]at b;refine⟨by rw[oS];exact b,.inr ⟨k,j,_,z,rfl,l,by simpa using p,by rw[oS];exact A,B,λf n=>?_,λf n g=>?_⟩⟩;rw[b]at n;obtain⟨q,r,rfl,s⟩:∃q r,f=q*3+r/\r<3:=⟨f/3,f%3,by omega,by omega⟩;have u:q<a.length:=by omega
 rw[Tu _ (by rw[oS];exact u) s,List.getElem_set];have c:=C (q*3+r) (by omega);rw[Tu a u s]at c;split;rename_i o;subst o;by_cases G:r=2;subst G;rw[mG (by simp only[gf,il]at p;omega)];rfl;rw[gm (by omega),c];obtain rfl|rfl:r=0\/r=1:=by omega
 rfl;rfl;rw[gm (by omega),c];rw[b]at n;rw[Array.size_setIfInBounds]at g;rw[gm (by omega)];exact D f (by omega) g
def fc.st{d:fD}(h:fc m T M w (.slice (some ⟨k,0,none⟩) i j) i Y)(l:w.heap[k]? =some (.cells W T))(f:t.heap[k]? =some (.cells X T))(n:X.size=W.size)(o:d.length=Y.length)(g:∀a,a<Y.length->X[a]? =d[a]?)(c:∀a,Y.length<=a->X[a]? =W[a]?)(D:0<i):fc m T M t (.slice (some ⟨k,0,none⟩) i j) i d:=by obtain⟨p,⟨q,_⟩|⟨r,E,s,u,e,b,v,x,y,F,z⟩⟩:=h;omega;injection e with e _ A;obtain rfl:k=r:=eX Addr.block (eP e);rw[l]at b;injection b with b;injection b with b;subst b;subst A;refine⟨by rw[o];exact p,.inr ⟨k,j,X,u,rfl,f,by rw[n];exact v,x,y,λa B=>g a (by omega),λa B C=>?_⟩⟩;rw[c a (by omega)];exact z a (by omega) (by omega)
def BR(f:Nat)(a:ew)(b:ew):List Ty:=b.map λd=>⟨d,f,decide (d∈a)⟩
theorem Dw{G:Gd}(j:G.days<=3){s:Nat}(k:(s:Int)<2*G.days)(a:ew):∀(f:ew) (l:List Ty),Made G l s->f.Nodup->(∀d∈f,d<G.doors.length/\uj (iC l d) (s/2)=false/\gP G.tries (iC l d)=false)->Made G (l++BR s a f) s/\∀d,iC (l++BR s a f) d=if d∈f then iE (iC l d) s (decide (d∈a))else iC l d
 |[],l,h,_,_=>by have e:l++BR s a []=l:=List.append_nil l;rw[e];exact⟨h,λd=>by rw[ez (by simp)]⟩
 |d::r,l,h,p,m=>by
  have c:=List.nodup_cons.1 p;obtain⟨q,t,u⟩:=m d gD;have v:=h.more (o:=decide (d∈a)) q k j (by rw[<-xo l d _ (by omega)];exact t) (by rw[<-rH];exact u);obtain⟨w,y⟩:=Dw j k a r (l++[⟨d,s,decide (d∈a)⟩]) v c.2 λe n=>by have g:d≠e:=λh=>c.1 (h▸n);rw[wj l ⟨d,s,decide (d∈a)⟩ e g];exact m e (gG _ n)
  have e:l++BR s a (d::r)=(l++[⟨d,s,decide (d∈a)⟩])++BR s a r:=by rw[List.append_assoc];rfl
  rw[e];refine⟨w,λx=>?_⟩;rw[y x];by_cases i:d=x;subst i;rw[ez c.1,eC gD,BH l d s _ (by omega)];rw[wj l ⟨d,s,decide (d∈a)⟩ x i];by_cases b:x∈r;rw[eC b,eC (gG _ b)];rw[ez b,ez λh=>(gI.1 h).elim (λh=>i h.symm) b]
def BS(d:Nat)(p:Nat×ew)(B:List (Nat×ew)):sG d (p::B)=if d∈p.2 then p.1::sG d B else sG d B:=by unfold sG;rw[List.filter_cons];by_cases a:d∈p.2;rw[eC a,eC (decide_eq_true a)];rfl;rw[ez a,ez (by simpa using a)]
def Qa(d:Nat)(p:Nat×ew)(A:List (Nat×ew)):sG d (A++[p])=if d∈p.2 then sG d A++[p.1]else sG d A:=by rw[EU,BS];split<;>simp[sG]
def Qb(x:Sx)(t:ew)(s:Nat):BP x (t++[s])=iE (BP x t) s false:=by simp[BP,re]
def HJ{x:Sx}{s:Nat}:gP I (iE x s true)=true:=by simp[gP,iE]
structure sJ(G:Gd)(xs:List Sx)(f:Nat)(ps:List (Nat×List Nat)):Prop where
 up:ps.Pairwise λa b=>a.1<=b.1
 walk:∀p∈ps,(f<=p.1/\p.1<fS G)/\p.2.Nodup/\(∀d∈p.2,d<G.doors.length)/\jX G p.2<=G.minutes
 door:∀d,(d∈eO G.tries xs/\sG d ps∈gi G (xs.getD d nP) f)\/(d∉eO G.tries xs/\sG d ps=[])
section
variable{G:Gd}{xs:List Sx}{f:Nat}{ps:List (Nat×List Nat)}
theorem So(j:G.Ok)(w:xs.length=G.doors.length)(f:Nat){l:iA}(x:fL (fi G xs f)=some (l,I,J)):∃ps,ny G (fi G xs f)=some ps/\sJ G xs f ps/\(∀p∈ps,p.2≠[])/\0<=I/\∃L,yz G L/\(∀s,s<6->nW G (L s)<=I)/\∀d s,s<6->(d∈fx (L s)↔s∈sG d ps):=by
 obtain⟨L,N,y,k,z,O,A,B⟩:=Lc j w f x;obtain⟨C,r,m,P⟩:=sI j k 6 (eF _);have n:=mA j
 have a:∀d,(d∈eO G.tries xs/\sG d (li G L 6)∈gi G (xs.getD d nP) f)\/(d∉eO G.tries xs/\sG d (li G L 6)=[]):=λd=>by
  obtain⟨c,t,u,g⟩|⟨c,g⟩:=B d;obtain⟨v,_⟩:=pz u;have e:sG d (li G L 6)=t:=by rw[m d,List.filter_congr λs _=>(decide_eq_decide.2 (g s))];exact Nd v.up λs g=>by have:=(v.free s g).2.2;omega
  exact .inl ⟨c,by rw[e];exact u⟩;exact .inr ⟨c,by rw[m d];exact Fg.2 λs _=>by simpa using g s⟩
 refine⟨li G L 6,y,⟨C,λp i=>?_,a⟩,λp i=>(r p i).2.1,A,L,k,z,λd s g=>?_⟩;obtain⟨D,E,F,H,K⟩:=r p i;obtain⟨d,o⟩:=List.exists_mem_of_ne_nil _ E;have b:p.1∈sG d (li G L 6):=iX.2 ⟨p,ku.2 ⟨i,decide_eq_true o⟩,rfl⟩;refine⟨?_,F,λe M=>(k p.1 D).1.2 e (K e M),H⟩;obtain⟨_,q⟩|⟨_,q⟩:=a d;exact((pz q).1.free _ b).2;rw[q]at b;cases b;rw[m d,ku,fT,decide_eq_true_iff];exact⟨λh=>⟨g,h⟩,λh=>h.2⟩
def VM(G:Gd)(xs:List Sx)(l:List Ty)(A:List (Nat×ew)):Prop:=∀d,d<G.doors.length->(gP G.tries (iC l d)=true/\sG d A≠[])\/iC l d=BP (xs.getD d nP) (sG d A)
theorem sJ.may(h:sJ G xs f ps)(j:G.Ok){A B:List (Nat×ew)}{p:Nat×ew}(e:ps=A++p::B){l:List Ty}(k:VM G xs l A){d:Nat}(i:d∈p.2)(m:gP G.tries (iC l d)=false):uj (iC l d) (p.1/2)=false/\iC l d=BP (xs.getD d nP) (sG d A):=by
 have c:=mA j;have n:p∈ps:=by rw[e];simp
 have a:iC l d=BP (xs.getD d nP) (sG d A):=(k d ((h.walk p n).2.2.1 d i)).resolve_left λq=>by rw[m]at q;cases q.1
 refine⟨?_,a⟩;have b:sG d ps=sG d A++p.1::sG d B:=by rw[e,EU,BS,eC i]
 obtain⟨_,q⟩|⟨_,q⟩:=h.door d;rw[b]at q;obtain⟨g,_⟩:=pz q;have o:=g.free p.1 (by simp);rw[a,K9 _ _ _ (by omega) λs a=>by have:=(g.free s (List.mem_append_left _ a)).2.2;omega,o.1,Bool.false_or,List.any_eq_false];intro s a;have:=(List.pairwise_append.1 g.up).2.2 s a p.1 (by simp);simp;omega;rw[b]at q;simp at q
theorem sJ.step(h:sJ G xs f ps)(n:G.Ok){A B:List (Nat×ew)}{p:Nat×ew}(e:ps=A++p::B){l:List Ty}(q:Made G l p.1)(o:VM G xs l A){g:ew}(j:g=p.2.filter λd=>!gP G.tries (iC l d))(k:ew):Made G (l++BR p.1 k g) p.1/\VM G xs (l++BR p.1 k g) (A++[p]):=by
 have r:p∈ps:=by rw[e];simp
 obtain⟨⟨y,s⟩,t,u,z⟩:=h.walk p r;unfold fS at s
 obtain⟨v,w⟩:=Dw n.days.2 (by omega) k g l q (j▸t.filter _) λd m=>by
  rw[j]at m;obtain⟨i,b⟩:=ku.1 m;have b:gP G.tries (iC l d)=false:=by simpa using b
  exact⟨u d i,(h.may n e o i b).1,b⟩
 refine⟨v,λd m=>?_⟩;rw[w d,Qa];by_cases a:d∈g;rw[eC a];rw[j]at a;obtain⟨i,b⟩:=ku.1 a;have b:gP G.tries (iC l d)=false:=by simpa using b
 rw[eC i];cases C:decide (d∈k)with
 |true=>exact .inl ⟨HJ,by simp⟩
 |false=>exact .inr (by rw[Qb,(h.may n e o i b).2])
 rw[ez a];by_cases c:d∈p.2;rw[eC c];refine .inl ⟨?_,by simp⟩;cases x:gP G.tries (iC l d)with
 |true=>rfl
 |false=>exact absurd (by rw[j];exact ku.2 ⟨c,by rw[x];rfl⟩) a
 rw[ez c];exact o d m
theorem sJ.fin(h:sJ G xs f ps)(p:xs.length=G.doors.length)(c:∀x∈xs,0<=x.mornings/\0<=x.evenings){l:List Ty}(j:VM G xs l ps){d:Nat}(k:d<G.doors.length):gP G.tries (iC l d)=true:=by
 obtain e|e:=j d k;exact e.1;rw[e];obtain⟨g,i⟩|⟨g,i⟩:=h.door d;obtain⟨_,m,n⟩:=pz i;obtain⟨a,_,b⟩:=HG g;exact HH (by rw[b];exact c _ (ft a)) m n;rw[i];show gP G.tries (xs.getD d nP)=true;have a:d<xs.length:=by omega
 rw[getD_eq a];cases o:gP G.tries xs[d]with
 |true=>rfl
 |false=>exact absurd (P3.2 ⟨_,gC a,o⟩) g
theorem HK{x:Sx}{u:Du}{f:Nat}:∀{n:Nat} {l r:ew} {a:Nat},JF G x f (l++r)->(∀s∈r,a<=s)->((l++r).length:Int)=u.tries->rD u (l++r)=true->r.length<n->(l++r)∈mz (fS G) x u n l a
 |0,l,r,a,_,_,_,_,h=>absurd h (Nat.not_lt_zero _)
 |n+1,l,[],a,c,j,b,d,h=>by rw[List.append_nil]at b d⊢;simp only[mz];rw[eC b,eC d];exact gW.2 rfl
 |n+1,l,s::r,a,c,j,b,d,h=>by
  have e:l++s::r=(l++[s])++r:=by simp
  have t:=j s gD;have m:=c.free s (by simp);obtain⟨v,o,p⟩:=List.pairwise_append.1 c.up;simp only[mz];rw[ez (by simp at b;omega)];refine mH.2 ⟨s-a,fT.2 (by omega),?_⟩;rw[show a+(s-a)=s by omega,ez,e];rw[e]at c b d;exact HK c (λy q=>by have:=(List.pairwise_cons.1 o).1 y q;omega) b d (by simpa using h);unfold qC;rw[m.1,Bool.false_or,fE];rintro⟨k,g⟩;have g:=fQ g;cases i:l.getLast? with
  |none=>rw[List.getLast?_eq_none_iff]at i;rw[i]at k;simp at k
  |some z=>
   rw[i]at g;have:=p z (List.mem_of_getLast? i) s (by simp);have g:z/2=s/2:=g;omega
theorem Qc{x:Sx}{f:Nat}{t:ew}(a:JF G x f t)(c:(t.length:Int)=(ju G x).tries)(d:rD (ju G x) t=true):t∈gi G x f:=by
 have g:t.Nodup:=a.up.imp λh e=>by subst e;exact Nat.lt_irrefl _ h
 have:=qg (fS G) t g λs b=>(a.free s b).2.2;exact HK (l:=[]) a (λs b=>(a.free s b).2.1) c d (by omega)
theorem Qd(b:0<=I){l:iA}(h:∀x∈l,x<=I):l.foldl max 0<=I:=by obtain a|a:=EV l 0;rw[a];exact b;exact h _ a
theorem Ld{a:Type}{p q:a->Int}:∀(l:List a),(∀x∈l,p x<=q x)->(l.map p).sum<=(l.map q).sum
 |[],_=>Int.le_refl _
 |x::r,h=>by simp only[lK,List.sum_cons];exact Int.add_le_add (h x gD) (Ld r λy b=>h y (gG _ b))
theorem HN(z:G.Ok)(A:xs.length=G.doors.length)(f:Nat)(t:Nat->ew)(I:∀d∈eO G.tries xs,t d∈gi G (xs.getD d nP) f){L:Nat->Nat}(C:yz G L)(o:∀d∈eO G.tries xs,∀s∈t d,d∈fx (L s)):∃l m k,fL (fi G xs f)=some (l,m,k)/\∀M,0<=M->(∀s,s<6->nW G (L s)<=M)->m<=M/\(m=M->k<=((List.range 6).map λs=>nW G (L s)).sum):=by
 have P:=z.many;obtain⟨qs,r⟩:∃qs,qs=(eO G.tries xs).map λd=>(gi G (xs.getD d nP) f).idxOf (t d):=⟨_,rfl⟩;have c:qs.length=(eO G.tries xs).length:=by rw[r,jU]
 have D:∀j (i:j<qs.length) (a:j<(eO G.tries xs).length),∃h:qs[j]<(gi G (xs.getD (eO G.tries xs)[j] nP) f).length,(gi G (xs.getD (eO G.tries xs)[j] nP) f)[qs[j]]=t (eO G.tries xs)[j]:=λj i a=>by
  have e:qs[j]=(gi G (xs.getD (eO G.tries xs)[j] nP) f).idxOf (t (eO G.tries xs)[j]):=by simp[r]
  have E:=List.idxOf_lt_length_of_mem (I _ (ft a));simp only[e];exact⟨E,List.getElem_idxOf E⟩
 have b:=Hz (fi G xs f) (qs:=qs) c λj i=>by rw[qf f (by omega)];exact(D j i (by omega)).1
 have n:∀s,s<6->0<=nW G (fU (fi G xs f) 0 qs L0 s)/\nW G (fU (fi G xs f) 0 qs L0 s)<=nW G (L s):=λs g=>by refine Sm z (K8 z A f c s) (C s g).1 (λx B w=>?_) (C s g).2;obtain⟨j,i,a,J,u⟩:=((xv (G:=G) (xs:=xs) (f:=f) (by omega) c s).2 x B).1 w;obtain⟨F,H⟩:=D j i a;rw[getD_eq F,H]at u;rw[<-J];exact(kq.1 (o _ (ft a) s u)).2
 have i:fA (fi G xs f) (fU (fi G xs f) 0 qs L0) qs=some (qs.map Int.ofNat,((List.range 6).map λs=>nW G (fU (fi G xs f) 0 qs L0 s)).foldl max 0,((List.range 6).map λs=>nW G (fU (fi G xs f) 0 qs L0 s)).sum):=by unfold fA;rw[zY (by omega) c,ez];rw[List.any_eq_true];rintro⟨y,K,v⟩;obtain⟨s,g,rfl⟩:=iX.1 K;have:=(n s (fT.1 g)).1;have:=fQ v;omega
 rw[i]at b;cases w:fL (fi G xs f)with
 |none=>rw[w]at b;exact b.elim
 |some y=>
  obtain⟨l,m,k⟩:=y;rw[w]at b;simp only[qo]at b;refine⟨l,m,k,rfl,λM N O=>?_⟩;have F:=Qd N (l:=(List.range 6).map λs=>nW G (fU (fi G xs f) 0 qs L0 s)) λx A=>by obtain⟨s,g,rfl⟩:=iX.1 A;exact Int.le_trans (n s (fT.1 g)).2 (O s (fT.1 g))
  have H:=Ld (p:=λs=>nW G (fU (fi G xs f) 0 qs L0 s)) (q:=λs=>nW G (L s)) (List.range 6) λs g=>(n s (fT.1 g)).2;omega
end
def wv(t:ew)(k:Nat):ew:=(List.range k).flatMap λj=>if t.getD j 0=2 then []else [2*j+t.getD j 0]
def yB(t:ew)(k:Nat):wv t (k+1)=wv t k++if t.getD k 0=2 then []else [2*k+t.getD k 0]:=by unfold wv;rw[nF,List.flatMap_append];simp
def Qe{t:ew}(a:∀x∈t,x<3)(k:Nat):t.getD k 0<3:=by
 rw[kL];cases h:t[k]? with
 |none=>simp
 |some x=>exact a x (rh h)
def Dx(x y:ew)(h:Nat):lP (x++y) h=lP x h+lP y h:=by unfold lP;rw[List.filter_append,jR]
theorem nf{q:Nat->Bool}{f a b:Nat}{t:ew}(j:∀x∈t,x<3):∀k,(wv t k).Pairwise (λa b=>a/2<b/2)/\(∀s∈wv t k,s/2<k)/\((nB q f a b t k).1=true↔∀s∈wv t k,q (s/2)=false/\f<=s)/\(nB q f a b t k).2.1=a+lP (wv t k) 0/\(nB q f a b t k).2.2=b+lP (wv t k) 1
 |0=>⟨List.Pairwise.nil,(λs c=>by cases c),⟨(λ_ s c=>by cases c),λ_=>rfl⟩,rfl,rfl⟩
 |k+1=>by
  obtain⟨l,h,m,n,o⟩:=nf (q:=q) (f:=f) (a:=a) (b:=b) j k;have B:=Qe j k;rw[yB];by_cases e:t.getD k 0=2;simp only[nB];rw[eC e,eC e,List.append_nil];exact⟨l,λs c=>by have:=h s c;omega,m,n,o⟩;simp only[nB];rw[ez e,ez e,Dx,Dx];have p:lP [2*k+t.getD k 0] 0=1-t.getD k 0:=by
   unfold lP;obtain d|d:t.getD k 0=0\/t.getD k 0=1:=by omega
   all_goals
    rw[d];simp
  have r:lP [2*k+t.getD k 0] 1=t.getD k 0:=by
   unfold lP;obtain d|d:t.getD k 0=0\/t.getD k 0=1:=by omega
   all_goals
    rw[d];simp
  have i:(2*k+t.getD k 0)/2=k:=by omega
  refine⟨List.pairwise_append.2 ⟨l,List.pairwise_singleton _ _,λx u y v=>?_⟩,λs c=>?_,?_,?_,?_⟩;rw[gW.1 v,i];exact h x u;obtain c|c:=ja.1 c;have:=h s c;omega;rw[gW.1 c];omega;rw[fE,fE,m,decide_eq_true_iff,tl];constructor;rintro⟨⟨w,z⟩,A⟩ s c;obtain c|c:=ja.1 c;exact w s c;rw[gW.1 c,i];exact⟨A,z⟩;intro g;have:=g _ (List.mem_append_right _ (gW.2 rfl));rw[i]at this;exact⟨⟨λs c=>g s (List.mem_append_left _ c),this.2⟩,this.1⟩;simp only;rw[n,p];omega;simp only;rw[o,r];omega
def mh(G:Gd)(l:List Ty)(d f:Nat):List ew:=((l5 3 G.days.toNat).filter λt=>yu G.tries (qW l d) G.days.toNat f (ll l d 0) (ll l d 1) t).map λt=>wv t G.days.toNat
theorem HQ:∀{m:Nat} {t:ew},t.length=m->(∀x∈t,x<3)->t∈l5 3 m
 |0,t,h,_=>by rw[nC h];simp[l5]
 |m+1,[],h,_=>by simp at h
 |m+1,x::r,h,a=>by simp only[l5,mH,fT,iX];exact⟨x,a x gD,r,HQ (by simpa using h) λy b=>a y (gG _ b),rfl⟩
theorem vg{n:Nat}:∀{m:Nat} {t:ew},t∈l5 n m->t.length=m/\∀x∈t,x<n
 |0,t,h=>by
  obtain rfl:t=[]:=by simpa[l5]using h
  exact⟨rfl,λx a=>by cases a⟩
 |m+1,t,h=>by simp only[l5,mH,fT,iX]at h;obtain⟨i,b,y,c,rfl⟩:=h;have:=vg c;refine⟨by rw[gf,this.1],λx a=>?_⟩;obtain rfl|a:=gI.1 a;exact b;exact this.2 x a
def Sq{D:Nat}{t:ew}(v:t.Pairwise λa b=>a/2<b/2)(h:∀s∈t,s<2*D):∃u,u∈l5 3 D/\wv u D=t:=by
 obtain⟨u,m⟩:∃u:ew,u=(List.range D).map λk=>if 2*k∈t then 0 else if 2*k+1∈t then 1 else 2:=⟨_,rfl⟩
 have y:u.length=D:=by rw[m,jU,List.length_range]
 have p:∀x∈u,x<3:=λx c=>by rw[m]at c;obtain⟨k,_,rfl⟩:=iX.1 c;split;omega;split<;>omega
 have d:∀k,k<D->u.getD k 0=if 2*k∈t then 0 else if 2*k+1∈t then 1 else 2:=λk g=>by rw[m,kL,ng,List.getElem?_range g];rfl
 refine⟨u,HQ y p,?_⟩;obtain⟨z,J,_⟩:=nf (q:=λ_=>false) (f:=0) (a:=0) (b:=0) p D;have w:∀l:ew,(l.Pairwise λa b=>a/2<b/2)->l.Pairwise (·<·):=λl h=>h.imp λh=>by omega
 have same:∀a b,a∈t->b∈t->a/2=b/2->a=b:=λa b C E F=>by obtain⟨i,A,rfl⟩:=List.getElem_of_mem C;obtain⟨j,B,rfl⟩:=List.getElem_of_mem E;obtain n|rfl|n:=Nat.lt_trichotomy i j;have:=List.pairwise_iff_getElem.1 v i j A B n;omega;rfl;have:=List.pairwise_iff_getElem.1 v j i B A n;omega
 refine List.Perm.eq_of_pairwise (le:=(·<=·)) (λa b _ _ r G=>Nat.le_antisymm r G) ((w _ z).imp Nat.le_of_lt) ((w _ v).imp Nat.le_of_lt) ((List.perm_ext_iff_of_nodup ((w _ z).imp Nat.ne_of_lt) ((w _ v).imp Nat.ne_of_lt)).2 λx=>?_);unfold wv;rw[mH];constructor;rintro⟨k,g,c⟩;have g:=fT.1 g;rw[d k g]at c;by_cases o:2*k∈t;rw[eC o]at c;simp at c;rw[c];exact o;rw[ez o]at c;by_cases r:2*k+1∈t;rw[eC r]at c;simp at c;rw[c];exact r;rw[ez r]at c;simp at c;intro c;have H:=h x c;have g:x/2<D:=by omega
 refine⟨x/2,fT.2 g,?_⟩;rw[d _ g];obtain I|I:x%2=0\/x%2=1:=by omega
 have e:2*(x/2)=x:=by omega
 rw[e,eC c];simp[e];have e:2*(x/2)+1=x:=by omega
 have o:¬2*(x/2)∈t:=λo=>by have:=same _ _ o c (by omega);omega
 rw[ez o,e,eC c];simp[e]
def Nf{G:Gd}{l:List Ty}{d:Nat}(h:sC G l d=false)(t:ew):gP G.tries (BP (iC l d) t)=K3 G.tries (ll l d 0+lP t 0) (ll l d 1+lP t 1):=by obtain⟨a,b,c,e,f⟩:=uF t (iC l d);have g:=yy t;unfold sC at h;rw[Bool.or_eq_false_iff]at h;unfold gP K3;rw[a,b,c,e,f];simp only[iC,h.1,Bool.or_false,Bool.false_or];congr 1;exact decide_eq_decide.2 (by omega)
def Lf{G:Gd}(p:G.Ok)(l:List Ty)(d f:Nat)(h:sC G l d=false){t:ew}:t∈mh G l d f↔JF G (iC l d) f t/\gP G.tries (BP (iC l d) t)=true:=by
 have E:=p.days;have r:fS G=2*G.days.toNat:=by unfold fS;omega
 rw[Nf h];unfold mh;rw[iX];constructor;rintro⟨u,v,rfl⟩;obtain⟨e,g⟩:=ku.1 v;obtain⟨F,j⟩:=vg e;obtain⟨k,i,m,w,x⟩:=nf (q:=qW l d) (f:=f) (a:=ll l d 0) (b:=ll l d 1) j G.days.toNat;unfold yu at g;rw[fE,m,w,x]at g;refine⟨⟨k,λs c=>?_⟩,g.2⟩;have:=i s c;obtain⟨y,n⟩:=g.1 s c;exact⟨by rw[xo _ _ _ (by omega)];exact y,n,by omega⟩;rintro⟨⟨k,i⟩,m⟩;obtain⟨u,e,rfl⟩:=Sq (D:=G.days.toNat) k λs c=>by rw[<-r];exact(i s c).2.2
 refine⟨u,ku.2 ⟨e,?_⟩,rfl⟩;obtain⟨_,j⟩:=vg e;obtain⟨_,n,z,A,B⟩:=nf (q:=qW l d) (f:=f) (a:=ll l d 0) (b:=ll l d 1) j G.days.toNat;unfold yu;rw[fE,z,A,B];refine⟨λs c=>?_,m⟩;have:=n s c;obtain⟨o,C,_⟩:=i s c;rw[xo _ _ _ (by omega)]at o;exact⟨o,C⟩
def tj(h:Nat)(t:ew):Bool:=t.any λs=>decide (s%2=h)
theorem E7:∀(t:ew) (n:Nat) (M E:Bool),vz M+vz E<=n->n<=t.length->(tj 0 t||!M)=true->(tj 1 t||!E)=true->∃a:ew,a.Sublist t/\a.length=n/\(tj 0 a||!M)=true/\(tj 1 a||!E)=true
 |[],n,M,E,_,k,d,e=>⟨[],List.Sublist.refl _,by simp at k;simp[k],d,e⟩
 |s::r,n,M,E,C,k,d,e=>by
  have A:∀b:Bool,0<=vz b:=λb=>by cases b<;>decide
  have I:=A E;have J:=A M;have z:vz false=0:=rfl;have o:vz true=1:=rfl;have f:s%2=0\/s%2=1:=by omega
  simp only[gf]at k;by_cases D:n=0;subst D
  have F:M=false:=by cases M with
   |false=>rfl
   |true=>omega
  have G:E=false:=by cases E with
   |false=>rfl
   |true=>omega
  exact⟨[],List.nil_sublist _,rfl,by simp[F],by simp[G]⟩
  have take:∀(i j:Bool),vz i+vz j<=((n-1:Nat):Int)->(tj 0 r||!i)=true->(tj 1 r||!j)=true->((tj 0 [s]=true\/(M=false\/i=M))/\(tj 1 [s]=true\/(E=false\/j=E)))->∃a:ew,a.Sublist (s::r)/\a.jK=n/\(tj 0 a||!M)=true/\(tj 1 a||!E)=true:=λi j l m p B=>by
   obtain⟨a,q,u,v,w⟩:=E7 r (n-1) i j l (by omega) m p;have c:∀h,tj h (s::a)=(tj h [s]||tj h a):=λh=>by simp[tj]
   refine⟨s::a,q.cons_cons s,by simp[u];omega,?_,?_⟩;rw[c];obtain g|g|g:=B.1;rw[g];rfl;rw[g];simp;rw[<-g,Bool.or_assoc,v];simp;rw[c];obtain g|g|g:=B.2;rw[g];rfl;rw[g];simp;rw[<-g,Bool.or_assoc,w];simp
  have skip:n<=r.jK->(tj 0 r||!M)=true->(tj 1 r||!E)=true->∃a:ew,a.Sublist (s::r)/\a.jK=n/\(tj 0 a||!M)=true/\(tj 1 a||!E)=true:=λl m p=>by obtain⟨a,q,u,v,w⟩:=E7 r n M E C l m p;exact⟨a,q.cons s,u,v,w⟩
  have c:∀h,tj h (s::r)=(tj h [s]||tj h r):=λh=>by simp[tj]
  rw[c]at d e;obtain f|f:=f;have x:tj 0 [s]=true:=by simp[tj,f]
  have y:tj 1 [s]=false:=by simp[tj,f]
  rw[y,Bool.false_or]at e;by_cases H:vz E<=((n-1:Nat):Int);exact take false E (by omega) (by simp) e ⟨.inl x,.inr (.inr rfl)⟩;cases M with
  |true=>omega
  |false=>
   refine skip ?_ (by simp) e;cases E with
   |false=>omega
   |true=>
    simp only[Bool.not_true,Bool.or_false]at e;have:0<r.jK:=by
     cases r with
     |nil=>simp[tj]at e
     |cons _ _=>simp
    omega
  have x:tj 0 [s]=false:=by simp[tj,f]
  have y:tj 1 [s]=true:=by simp[tj,f]
  rw[x,Bool.false_or]at d;by_cases H:vz M<=((n-1:Nat):Int);exact take M false (by omega) d (by simp) ⟨.inr (.inr rfl),.inl y⟩;cases E with
  |true=>omega
  |false=>
   refine skip ?_ d (by simp);cases M with
   |false=>omega
   |true=>
    simp only[Bool.not_true,Bool.or_false]at d;have:0<r.jK:=by
     cases r with
     |nil=>simp[tj]at d
     |cons _ _=>simp
    omega
def Qf{G:Gd}{x:Sx}(j:0<=x.mornings/\0<=x.evenings){f:Nat}{t:ew}(h:JF G x f t)(c:gP G.tries x=false)(e:gP G.tries (BP x t)=true):∃d:ew,d.Sublist t/\d∈gi G x f:=by
 have w:=P5 j c e;have i:∀b:Bool,0<=vz b:=λb=>by cases b<;>decide
 have y:=i (pk G x);have z:=i (qm G x);have k:vz (pk G x)+vz (qm G x)<=(ju G x).tries/\0<=(ju G x).tries:=by simp only[ju];omega
 obtain⟨A,l,m,n,o⟩:=uF t x;unfold gP at c e;rw[Bool.or_eq_false_iff]at c;rw[l,m,n,o,c.1,Bool.false_or,fE,tn,fE,decide_eq_true_iff,decide_eq_true_iff,decide_eq_true_iff,decide_eq_true_iff]at e;have p:(tj 0 t||!pk G x)=true:=by
  cases a:pk G x with
  |false=>simp
  |true=>
   unfold pk at a;rw[fE,decide_eq_true_iff,decide_eq_true_iff]at a;have:0<lP t 0:=by omega
   rw[show tj 0 t=true from ve.1 this];rfl
 have q:(tj 1 t||!qm G x)=true:=by
  cases a:qm G x with
  |false=>simp
  |true=>
   unfold qm at a;rw[fE,decide_eq_true_iff,decide_eq_true_iff]at a;have:0<lP t 1:=by omega
   rw[show tj 1 t=true from ve.1 this];rfl
 obtain⟨d,g,B,r,u⟩:=E7 t (ju G x).tries.toNat (pk G x) (qm G x) (by omega) (by omega) p q;refine⟨d,g,Qc ⟨h.up.sublist g,λs v=>h.free s (g.subset v)⟩ (by omega) ?_⟩;unfold rD;rw[fE];exact⟨r,u⟩
def Ss{G:Gd}(a:G.Ok){l:List Ty}{d f:Nat}(h:sC G l d=false){t:ew}(b:t∈gi G (iC l d) f):t∈mh G l d f:=by obtain⟨c,e,g⟩:=pz b;exact(Lf a l d f h).2 ⟨c,HH ⟨Int.natCast_nonneg _,Int.natCast_nonneg _⟩ e g⟩
def Ia(a:ew)(t:Nat->ew)(s:Nat):ew:=a.filter λd=>decide (s∈t d)
def xD(a:ew)(t:Nat->ew)(s:Nat):Nat:=gF (Ia a t s)
def Qg(G:Gd)(a:ew)(t:Nat->ew):iA:=(List.range 6).map λs=>nW G (xD a t s)
def St{s t:Nat}(b:s<32)(c:t<32)(h:∀x,x<5->s.testBit x=t.testBit x):s=t:=by refine Nat.eq_of_testBit_eq λi=>?_;obtain a|a:=gQ i 5;exact h i a;have d:2^5<=2^i:=Nat.pow_le_pow_right (by omega) a;rw[Nat.testBit_lt_two_pow (by omega),Nat.testBit_lt_two_pow (by omega)]
section
variable{G:Gd}{l:List Ty}{f:Nat}
def uH{d:Nat}(h:d∈eO G.tries ((List.range G.doors.length).map (iC l))):d<G.doors.length/\sC G l d=false/\((List.range G.doors.length).map (iC l)).getD d nP=iC l d:=by
 obtain⟨b,c,f⟩:=HG h;have a:d<G.doors.jK:=by simpa using b
 have e:((List.range G.doors.jK).map (iC l)).getD d nP=iC l d:=by rw[kL,ng,List.getElem?_range a];rfl
 refine⟨a,?_,e⟩;rw[<-rH,<-e,f];exact c
def Uv(j:G.Ok){t:Nat->ew}(u:∀d∈eO G.tries ((List.range G.doors.length).map (iC l)),t d∈mh G l d f)(v:∀s,s<6->0<=nW G (xD (eO G.tries ((List.range G.doors.length).map (iC l))) t s)):∃o m k,fL (fi G ((List.range G.doors.length).map (iC l)) f)=some (o,m,k)/\m<=(Qg G (eO G.tries ((List.range G.doors.length).map (iC l))) t).foldl max 0/\(m=(Qg G (eO G.tries ((List.range G.doors.length).map (iC l))) t).foldl max 0->k<=(Qg G (eO G.tries ((List.range G.doors.length).map (iC l))) t).sum):=by
 have w:=j.many;have p:=mA j;have b:∀d,d∈eO G.tries ((List.range G.doors.length).map (iC l))->∃c:ew,c.Sublist (t d)/\c∈gi G (iC l d) f:=λd a=>by obtain⟨q,n,r⟩:=uH a;obtain⟨y,z⟩:=(Lf j l d f n).1 (u d a);exact Qf ⟨Int.natCast_nonneg _,Int.natCast_nonneg _⟩ y (by rw[rH];exact n) z
 obtain⟨c,e⟩:∃c:Nat->ew,∀d∈eO G.tries ((List.range G.doors.length).map (iC l)),(c d).Sublist (t d)/\c d∈gi G (iC l d) f:=⟨λd=>if h:d∈eO G.tries ((List.range G.doors.length).map (iC l))then(b d h).choose else [],λd a=>by simp only[dif_pos a];exact(b d a).choose_spec⟩;have g:∀s,∀d∈Ia (eO G.tries ((List.range G.doors.length).map (iC l))) t s,d<G.doors.length:=λs d a=>(uH (ku.1 a).1).1;obtain⟨o,m,k,q,n⟩:=HN (xs:=(List.range G.doors.length).map (iC l)) j (by simp) f c (λd a=>by rw[(uH a).2.2];exact(e d a).2) (L:=xD (eO G.tries ((List.range G.doors.length).map (iC l))) t) (λs i=>⟨lF.gF w (g s),v s i⟩) λd a s i=>by have A:=(uH a).1;refine kq.2 ⟨by omega,(oI (λx B=>by have:=g s x B;omega) (by omega)).2 (ku.2 ⟨a,decide_eq_true ((e d a).1.subset i)⟩)⟩
 obtain⟨r,C⟩:=n ((Qg G (eO G.tries ((List.range G.doors.length).map (iC l))) t).foldl max 0) (xx _ _).1 λs i=>(xx _ _).2 _ (iX.2 ⟨s,fT.2 i,rfl⟩);exact⟨o,m,k,q,r,C⟩
def Uw(v:G.Ok){z:iA}(w:fL (fi G ((List.range G.doors.length).map (iC l)) f)=some (z,I,J)):∃t:Nat->ew,(∀d∈eO G.tries ((List.range G.doors.length).map (iC l)),t d∈mh G l d f)/\(∀s,s<6->0<=nW G (xD (eO G.tries ((List.range G.doors.length).map (iC l))) t s))/\(Qg G (eO G.tries ((List.range G.doors.length).map (iC l))) t).foldl max 0=I/\(Qg G (eO G.tries ((List.range G.doors.length).map (iC l))) t).sum=J:=by
 have N:=v.many;obtain⟨xs,i⟩:∃xs,xs=(List.range G.doors.length).map (iC l):=⟨_,rfl⟩;have A:xs.length=G.doors.length:=by rw[i];simp
 have k:∀{d:Nat},d∈eO G.tries xs->d<G.doors.length/\sC G l d=false/\xs.getD d nP=iC l d:=λc=>by rw[i]at c⊢;exact uH c
 rw[<-i]at w⊢;have m:=uD (fi G xs f);rw[w]at m;obtain⟨b,r,B,g⟩:=m;have r:b.length=(eO G.tries xs).length:=r;refine⟨λd=>(gi G (xs.getD d nP) f).getD (b.getD ((eO G.tries xs).idxOf d) 0) [],?_,?_⟩;intro d c;have a:=List.idxOf_lt_length_of_mem c;have u:=B ((eO G.tries xs).idxOf d) (by omega);rw[qf f a,List.getElem_idxOf a]at u;show(gi G (xs.getD d nP) f).getD (b.getD ((eO G.tries xs).idxOf d) 0) []∈mh G l d f;rw[getD_eq (by omega:(eO G.tries xs).idxOf d<b.length),getD_eq u];refine Ss v (k c).2.1 ?_;have e:=(k c).2.2;have:=ft u;exact e▸this
 have n:∀s,xD (eO G.tries xs) (λd=>(gi G (xs.getD d nP) f).getD (b.getD ((eO G.tries xs).idxOf d) 0) []) s=fU (fi G xs f) 0 b L0 s:=λs=>by
  obtain⟨C,D⟩:=xv (G:=G) (xs:=xs) (f:=f) (by omega) r s;have o:∀d∈Ia (eO G.tries xs) (λd=>(gi G (xs.getD d nP) f).getD (b.getD ((eO G.tries xs).idxOf d) 0) []) s,d<5:=λd c=>by have:=(k (ku.1 c).1).1;omega
  refine St (pV _ 0 (by omega) o) C λx y=>?_;rw[Bool.eq_iff_iff,D x y];unfold xD;rw[oI o y];unfold Ia;rw[ku,decide_eq_true_iff];constructor;rintro⟨c,h⟩;have a:=List.idxOf_lt_length_of_mem c;refine⟨(eO G.tries xs).idxOf x,by omega,a,List.getElem_idxOf a,?_⟩;rw[List.getElem_idxOf a];have h:s∈(gi G (xs.getD x nP) f).getD (b.getD ((eO G.tries xs).idxOf x) 0) []:=h;rw[getD_eq (by omega:(eO G.tries xs).idxOf x<b.length)]at h;exact h;rintro⟨j,E,p,rfl,h⟩;refine⟨ft p,?_⟩;have F:(eO G.tries xs).idxOf (eO G.tries xs)[j]=j:=by have a:=List.idxOf_lt_length_of_mem (ft p);exact(List.getElem_inj (BO _ _)).1 (List.getElem_idxOf a)
  show s∈(gi G (xs.getD (eO G.tries xs)[j] nP) f).getD (b.getD ((eO G.tries xs).idxOf (eO G.tries xs)[j]) 0) [];rw[F,getD_eq E];exact h
 unfold fA at g;rw[zY (by omega) r]at g;split at g;cases g;rename_i H;injection g with g;injection g with _ g;injection g with K L;have M:Qg G (eO G.tries xs) (λd=>(gi G (xs.getD d nP) f).getD (b.getD ((eO G.tries xs).idxOf d) 0) [])=(List.range 6).map λs=>nW G (fU (fi G xs f) 0 b L0 s):=List.map_congr_left λs _=>by rw[n]
 rw[M,K,L];refine⟨λs h=>?_,rfl,rfl⟩;rw[n];exact Int.not_lt.1 λq=>H (List.any_eq_true.2 ⟨_,iX.2 ⟨s,fT.2 h,rfl⟩,decide_eq_true q⟩)
end
def Ce{da:fR}{dc:Nat}(hd:1<=H.days/\H.days<=3){l:List Ty}{lc:Nat}(hr:yr w a l)(p:l.length<=100000)(hs:∀t∈l,t.shift<=1000000)(d f:Nat):
 Calls V.prog 50 #[gV H da dc,.slice a l.length lc,.int .i64 d,.int .i64 f] w (jy λv q=>Ext w q/\iW w.heap.size q v (mh H l d f)):=by
 obtain⟨D,hD⟩:∃D:Nat,H.days=D:=⟨H.days.toNat,by omega⟩;have ag:H.days.toNat=D:=by omega
 unfold mh;rw[ag];have hT:=(xp D (by omega)).1;obtain⟨A,hA⟩:∃A,A=ll l d 0:=⟨_,rfl⟩;obtain⟨B,hB⟩:∃B,B=ll l d 1:=⟨_,rfl⟩;have ah:=uC l d 0;have ai:=uC l d 1;rw[<-hA]at ah⊢;rw[<-hB]at ai⊢;refine jT Tryz.func50 Tryz.ntmps50 ?_;refine jx λw1 gb e1 ax U=>?_;have ht:Calls V.prog 118 #[i64 3,i64 H.days] w1 (jy λv q=>Ext w1 q/\iW w1.heap.size q v (l5 3 D)):=by rw[hD];exact BK D w1 (by omega)
 refine eH (eB U rfl) (eL ht ?_);rintro _ w2 ⟨e2,hu⟩;obtain⟨a5,c5,rfl,aj,ay⟩:=hu.row;have Z:=e2.at_ U;have ak:=(hr.ext e1).ext e2;refine jr (l5 3 D).length (λi (x:eu×List ew)=>[(1,.slice a l.length lc),(2,i64 d),(3,i64 f),(4,eT gb),(9,x.1),(10,.slice a5 (l5 3 D).length c5),(11,i64 i)]) (λi x q=>Ext w2 q/\iW w2.heap.size q x.1 x.2/\x.2=(((l5 3 D).take i).filter λt=>yu H.tries (qW l d) D f A B t).map λt=>wv t D) (ig,[]) ⟨by trivial,Ext.refl _,⟨[],fc.nil _ _ _ _,rfl,λk hk=>by simp at hk⟩,by simp⟩ ?_;rintro i ⟨v,ls⟩ w3 hi ⟨W,hv,j⟩;simp only at hv j;have M:=ak.ext W;refine fe (fO ⟨λal=>?_,λam=>?_⟩);have c:i<(l5 3 D).length:=by simpa using al
 obtain⟨b5,o5,a7,c7,rfl,I,aa,an⟩:=aj i c;have J:=BJ (ft c);obtain⟨t,ht⟩:∃t,t=(l5 3 D)[i]:=⟨_,rfl⟩;have h0:=xm (lc:=lc) M p d 0;have h1:=xm (lc:=lc) M p d 1;rw[<-hA]at h0;rw[<-hB]at h1;rw[<-ht]at I aa an J;have ab:(l5 3 D).take (i+1)=(l5 3 D).take i++[t]:=by rw[kM c,ht]
 refine fw h0 (fw h1 ?_);refine jr D (λk (x:eu×ew)=>[(1,.slice a l.length lc),(2,i64 d),(3,i64 f),(4,eT gb),(9,v),(10,Ie b5 o5 (l5 3 D).length c5),(11,i64 i),(12,x.1),(13,.bool (nB (qW l d) f A B t k).1),(14,i64 (nB (qW l d) f A B t k).2.1),(16,i64 (nB (qW l d) f A B t k).2.2),(18,i64 k)]) (λk x q=>Ext w3 q/\jq w3.heap.size q x.1 x.2/\(x.2=wv t k/\x.2.length<=k)/\(nB (qW l d) f A B t k).2.1<=A+k/\(nB (qW l d) f A B t k).2.2<=B+k) (ig,[]) ⟨by trivial,Ext.refl _,fc.nil _ _ _ _,⟨rfl,eF _⟩,eF _,eF _⟩ ?_;rintro k ⟨sv,s⟩ w4 hk ⟨X,m,⟨g,ac⟩,ao,ap⟩;simp only at m ac g;have r:=W.trans X;refine eH (eB (r.at_ Z) rfl) (fO ⟨λad=>?_,λae=>?_⟩);have z:k<D:=by have:=fQ ad;omega
 have C:k<t.length:=by omega
 obtain⟨b7,o7,rfl,K⟩:=aa k C;have n:t.getD k 0=t[k]:=by rw[kL,gC C];rfl
 have hh:=J.2 _ (ft C);obtain⟨h,aq⟩:∃h,h=t[k]:=⟨_,rfl⟩;rw[<-aq]at K hh n;refine gN i c (eH (r.cell I) (gN k C (eH (r.cell K) (iL ⟨λE=>?_,λE=>?_⟩))));have E:h=2:=Int.ofNat.inj (fQ E);have o:nB (qW l d) f A B t (k+1)=nB (qW l d) f A B t k:=by simp only[nB];rw[n,eC E]
 have i0:some (Value.bool (nB (qW l d) f A B t k).1)=some (.bool (nB (qW l d) f A B t (k+1)).1):=by rw[o]
 have i1:some (Value.int .i64 ((nB (qW l d) f A B t k).2.1:Nat))=some (i64 ((nB (qW l d) f A B t (k+1)).2.1:Nat)):=by rw[o]
 have i2:some (Value.int .i64 ((nB (qW l d) f A B t k).2.2:Nat))=some (i64 ((nB (qW l d) f A B t (k+1)).2.2:Nat)):=by rw[o]
 refine eK ⟨z,(sv,s),⟨rfl,rfl,rfl,rfl,rfl,rfl,rfl,rfl,i0,i1,i2,rfl,trivial⟩,X,m,⟨by rw[yB,eC (by rw[n];exact E),List.append_nil];exact g,Cp ac⟩,by rw[o];omega,by rw[o];omega⟩;have E:¬h=2:=λe=>gJ E (eX Int.ofNat e);obtain⟨N,af⟩:∃N,N=nB (qW l d) f A B t k:=⟨_,rfl⟩;have o:nB (qW l d) f A B t (k+1)=((N.1&&decide (f<=2*k+h))&&!qW l d k,N.2.1+(1-h),N.2.2+h):=by simp only[nB];rw[n,ez E,af]
 rw[<-af]at ao ap⊢;have i1:some (Value.int .i64 ((N.2.1:Int)+1-(h:Int)))=some (i64 ((nB (qW l d) f A B t (k+1)).2.1:Nat)):=by rw[o];congr 2;simp only;omega
 have i2:some (Value.int .i64 ((N.2.2:Int)+(h:Int)))=some (i64 ((nB (qW l d) f A B t (k+1)).2.2:Nat)):=by rw[o];congr 2
 have j1:(nB (qW l d) f A B t (k+1)).2.1<=A+(k+1):=by rw[o];simp only;omega
 have j2:(nB (qW l d) f A B t (k+1)).2.2<=B+(k+1):=by rw[o];simp only;omega
 refine vT (eK (ie [i64 (2*(k:Int)+h)] 3 λO nb y ar au=>kP vk (fc.ext m y) (X.trans y).size au (by omega) λF w6 Y g2 _=>?_));have P:jq w3.heap.size w6 F (s++[2*k+h]):=by unfold jq;have Y:=Y;simp only[gU,jR,gf,il,eJ,nS,lK,rf]at Y⊢;rw[Int.natCast_add,Int.natCast_mul];exact Y
 have G:Ext w3 w6:=(X.trans y).xg g2 λb U=>(fc.blk m U).1;have av:=M.ext G;have u:s++[2*k+h]=wv t (k+1)/\(s++[2*k+h]).length<=k+1:=⟨by rw[yB,ez (by rw[n];exact E),n,g],by simp;omega⟩;refine⟨λL=>?_,λL=>?_⟩;refine vT (eK (yP ⟨λQ=>?_,λQ=>?_⟩));have R:decide (f<=2*k+h)=true:=by have:=fQ Q;exact decide_eq_true (by omega)
 refine fw (zf av p hs d k) (gT ?_);refine eK (jP (eK (eK ⟨z,(F,s++[2*k+h]),⟨rfl,rfl,rfl,rfl,rfl,rfl,rfl,rfl,?_,i1,i2,rfl,trivial⟩,G,P,u,j1,j2⟩)));show some _=some _;rw[o,L,R];rfl;have R:decide (f<=2*k+h)=false:=by have:=gJ Q;exact jj (by omega)
 refine eK (jP (eK (eK ⟨z,(F,s++[2*k+h]),⟨rfl,rfl,rfl,rfl,rfl,rfl,rfl,rfl,?_,i1,i2,rfl,trivial⟩,G,P,u,j1,j2⟩)));show some _=some _;rw[o,L,R];rfl;refine nU rfl (eK (jP (eK (eK ⟨z,(F,s++[2*k+h]),⟨rfl,rfl,rfl,rfl,rfl,rfl,rfl,rfl,?_,i1,i2,rfl,trivial⟩,G,P,u,j1,j2⟩))));show some _=some _;rw[o,L];rfl;obtain rfl:k=D:=by have:=gJ ae;omega
 have no:∀O,Ext w4 O->yu H.tries (qW l d) k f A B t=false->Ext w2 O/\iW w2.heap.size O v ls/\ls=(((l5 3 k).take (i+1)).filter λt=>yu H.tries (qW l d) k f A B t).map (λt=>wv t k):=λO y S=>⟨r.trans y,(hv.ext X).ext y,by rw[ab,List.filter_append,List.filter_cons,S];simpa using j⟩;refine⟨λL=>?_,λL=>?_⟩;refine jz (r.at_ Z) (hH (Hw _ _ (by omega) (by omega)) λO y=>⟨λQ=>?_,λQ=>?_⟩);have S:yu H.tries (qW l d) k f A B t=true:=by unfold yu;rw[L,<-K4,Q];rfl
 obtain⟨a8,c8,rfl,_,_⟩:=m.row;have T:=X.trans y;refine ie [.slice a8 s.length c8] 27 λw6 nb G ar aw=>Hx ((hv.ext T).ext G) ((W.trans T).trans G).size (jq.low (fc.ext (fc.ext m y) G) W.size) aw ?_ λv7 w7 Y g2 _=>eK ⟨c,(v7,ls++[s]),by trivial,((W.trans T).trans G).xg g2 λb U=>(hv.blk U).1,Y,?_⟩;have:=List.length_filter_le (λt=>yu H.tries (qW l d) k f A B t) ((l5 3 k).take i);rw[tp]at this;rw[j,jU];omega;rw[ab,List.filter_append,List.filter_cons,S,nS,<-j,g];simp;have S:yu H.tries (qW l d) k f A B t=false:=by unfold yu;rw[<-K4,Q,Bool.and_false]
 exact eK ⟨c,(v,ls),by trivial,no O y S⟩;have S:yu H.tries (qW l d) k f A B t=false:=by unfold yu;rw[L,Bool.false_and]
 exact nU rfl (eK ⟨c,(v,ls),by trivial,no w4 (Ext.refl _) S⟩);obtain rfl:i=(l5 3 D).length:=by simp at am;omega
 rw[mI]at j;rw[<-j];exact⟨v,rfl,(e1.trans e2).trans W,hv.low (e1.trans e2).size⟩
def BV:ew->Nat
 |[]=>1
 |n::r=>n*BV r
def ti:ew->Nat->ew
 |[],_=>[]
 |n::r,c=>c%n::ti r (c/n)
def Qh:ew->ew->ew×Bool
 |n::b,p::a=>if p+1<n then((p+1)::a,true)else(0::(Qh b a).1,(Qh b a).2)
 |_,a=>(a,false)
theorem HT:∀(a:ew) (c:Nat),(ti a c).length=a.length
 |[],_=>rfl
 |n::r,c=>by simp only[ti,gf,HT r]
theorem zZ:∀{a:ew} (h:∀n∈a,0<n) (c i:Nat) (b:i<a.length),(ti a c).getD i 0<a[i]
 |n::r,h,c,0,_=>Nat.mod_lt _ (h n gD)
 |n::r,h,c,i+1,b=>zZ (λx d=>h x (gG _ d)) (c/n) i (by simpa using b)
theorem Lg:∀{a:ew},(∀n∈a,0<n)->0<BV a
 |[],_=>Nat.one_pos
 |n::r,h=>Nat.mul_pos (h n gD) (Lg λx b=>h x (gG _ b))
theorem yC:∀a:ew,ti a 0=List.replicate a.length 0
 |[]=>rfl
 |n::r=>by simp only[ti,Nat.zero_mod,Nat.zero_div,yC r,gf,List.replicate_succ]
theorem Qi:∀{b:ew} (h:∀n∈b,0<n) (c:Nat),c<BV b->Qh b (ti b c)=if c+1<BV b then(ti b (c+1),true)else(ti b 0,false)
 |[],_,c,g=>by
  obtain rfl:c=0:=by simp only[BV]at g;omega
  rfl
 |n::r,h,c,g=>by
  have i:0<n:=h n gD;have v:=λx w=>h x (gG n w);have a:BV (n::r)=n*BV r:=rfl;rw[a]at g;have k:c/n<BV r:=Nat.div_lt_of_lt_mul g;have t:=Qi v (c/n) k;have d:=Nat.div_add_mod c n;have y:=Nat.mod_lt c i;obtain⟨q,e⟩:∃q,q=c/n:=⟨_,rfl⟩;obtain⟨m,f⟩:∃m,m=c%n:=⟨_,rfl⟩;rw[<-e,<-f]at d;rw[<-f]at y;rw[<-e]at t k;simp only[ti,Qh];rw[<-e,<-f];by_cases j:m+1<n;rw[eC j];have l:(c+1)%n=m+1:=by rw[<-d,sR,Nat.mul_add_mod,Nat.mod_eq_of_lt j]
  have o:(c+1)/n=q:=by rw[<-d,sR,Nat.mul_add_div i,Nat.div_eq_of_lt j,nT]
  have p:n*(q+1)<=n*BV r:=Nat.mul_le_mul_left _ k;rw[Nat.mul_add,nZ]at p;rw[eC (show c+1<BV (n::r) by rw[a];omega),l,o];have z:m+1=n:=by omega
  have u:c+1=n*(q+1):=by rw[Nat.mul_add,nZ];omega
  have l:(c+1)%n=0:=by rw[u,Nat.mul_mod_right]
  have o:(c+1)/n=q+1:=by rw[u,Nat.mul_div_cancel_left _ i]
  rw[ez j,t];by_cases s:q+1<BV r;have p:n*(q+1)<n*BV r:=Nat.mul_lt_mul_of_pos_left s i;rw[eC s,eC (show c+1<BV (n::r) by rw[a];omega),l,o];have p:n*BV r<=n*(q+1):=Nat.mul_le_mul_left _ (by omega);rw[ez s,ez (show¬c+1<BV (n::r) by rw[a];omega),Nat.zero_mod,Nat.zero_div]
theorem HU:∀{ns ps:ew},ps.length=ns.length->(∀i (h:i<ns.length),ps.getD i 0<ns[i])->∃c,c<BV ns/\ti ns c=ps
 |[],[],_,_=>⟨0,Nat.one_pos,rfl⟩
 |[],p::ps,h,_=>by simp at h
 |n::ns,[],h,_=>by simp at h
 |n::ns,p::ps,d,h=>by
  obtain⟨c,e,b⟩:=HU (ns:=ns) (ps:=ps) (by simpa using d) λi f=>by have:=h (i+1) (by simpa using f);simpa using this
  have a:=h 0 (by simp);have a:p<n:=by simpa using a
  refine⟨n*c+p,?_,?_⟩;have b:n*(c+1)<=n*BV ns:=Nat.mul_le_mul_left _ e;rw[Nat.mul_add,nZ]at b;simp only[BV];omega;simp only[ti];rw[Nat.mul_add_mod,Nat.mod_eq_of_lt a,Nat.mul_add_div (by omega),Nat.div_eq_of_lt a,nT,b]
def Ux:∀(i:Nat) {ns ps:ew} (c:ps.length=ns.length) (a:i<ns.length),(Qh (ns.drop i) (ps.drop i))=if ps.getD i 0+1<ns[i]then((ps.getD i 0+1)::ps.drop (i+1),true)else(0::(Qh (ns.drop (i+1)) (ps.drop (i+1))).1,(Qh (ns.drop (i+1)) (ps.drop (i+1))).2)
 |i,ns,ps,c,a=>by
  have b:i<ps.length:=by omega
  rw[qZ a,qZ b,getD_eq b];rfl
def yD(a:Bool×Int×Int)(v:Option (Int×Int)):Bool×Int×Int:=match v with
 |none=>a
 |some p=>if !a.1||(decide (p.1<a.2.1)||(decide (p.1=a.2.1)&&decide (p.2<a.2.2)))then(true,p.1,p.2)else a
def eW(f:Nat->Option (Int×Int))(c:Nat):Bool×Int×Int:=(List.range c).foldl (λa i=>yD a (f i)) (false,0,0)
def sK(f:Nat->Option (Int×Int))(c:Nat):eW f (c+1)=yD (eW f c) (f c):=by unfold eW;rw[nF,re];rfl
theorem HV(f:Nat->Option (Int×Int)):∀c,((eW f c).1=false/\(∀i,i<c->f i=none))\/((eW f c).1=true/\(∃i,i<c/\f i=some ((eW f c).2.1,(eW f c).2.2))/\∀i p,i<c->f i=some p->(eW f c).2.1<=p.1/\(p.1=(eW f c).2.1->(eW f c).2.2<=p.2))
 |0=>.inl ⟨rfl,λi t=>by omega⟩
 |c+1=>by
  have n:=HV f c;rw[sK];obtain⟨e,o⟩:∃e,e=eW f c:=⟨_,rfl⟩;rw[<-o]at n⊢;cases g:f c with
  |none=>
   simp only[yD];obtain⟨a,k⟩|⟨a,⟨i,k,r⟩,l⟩:=n;refine .inl ⟨a,λi t=>?_⟩;obtain h|rfl:=Nat.lt_succ_iff_lt_or_eq.1 t;exact k i h;exact g;refine .inr ⟨a,⟨i,by omega,r⟩,λj p m s=>?_⟩;obtain h|rfl:=Nat.lt_succ_iff_lt_or_eq.1 m;exact l j p h s;rw[g]at s;cases s
  |some p=>
   simp only[yD];by_cases b:(!e.1||(decide (p.1<e.2.1)||(decide (p.1=e.2.1)&&decide (p.2<e.2.2))))=true;rw[eC b];refine .inr ⟨rfl,⟨c,Nat.lt_succ_self c,g⟩,λj q m d=>?_⟩;simp only;obtain h|rfl:=Nat.lt_succ_iff_lt_or_eq.1 m;obtain⟨a,k⟩|⟨a,_,l⟩:=n;rw[k j h]at d;cases d;obtain⟨y,u⟩:=l j q h d;rw[a]at b;simp only[Bool.not_true,Bool.false_or,tn,fE,lU]at b;obtain b|⟨b,v⟩:=b;exact⟨by omega,λh=>by omega⟩;exact⟨by omega,λh=>by have:=u (by omega);omega⟩;rw[g]at d;obtain rfl:=eP d;exact⟨Int.le_refl _,λ_=>Int.le_refl _⟩;rw[ez b];simp only[tn,fE,lU,tl,not_or,not_and]at b;obtain⟨w,z,x⟩:=b;obtain⟨a,_⟩|⟨a,⟨i,k,r⟩,l⟩:=n;exact absurd a w;refine .inr ⟨a,⟨i,by omega,r⟩,λj q m d=>?_⟩;obtain h|rfl:=Nat.lt_succ_iff_lt_or_eq.1 m;exact l j q h d;rw[g]at d;obtain rfl:=eP d;exact⟨by omega,λh=>by have:=x h;omega⟩
def JI{g:fR}{dc:Nat}(k:lM w g H.doors)(i:ij H=0){b:fR}{lc:Nat}(m:iM w b l)(n:l.Nodup)(o:∀d∈l,d<H.doors.length)(p:l.length<=1000)(s:l.length<=lc):
 Calls V.prog 69 #[gV H g dc,.slice b l.length lc] w (jy λv f=>Ext w f/\PL w.heap.size (iw H (gF l)) v f):=by
 have j:=my i;have t:=j.many;have u:=j.streets;have e:(qY l).length=l.length:=by simp[qY]
 have h:=y9 (dc:=dc) k (by omega) (ds:=qY l) (a:=b) (c:=lc) m.ints (by omega) (by omega);have q:nV H (qY l)=0:=by rw[nV,eC i,EQ o n]
 rw[e,q,Sd]at h;refine h.mono ?_;rintro _ f ⟨v,rfl,r,⟨h,_⟩|⟨_,h⟩⟩;exact absurd rfl h;exact⟨v,rfl,r,h⟩
def sn.Ws{c:List (Nat×ew)}(h:sn w a c)(e:Ext w t):sn t a c:=λk d=>by obtain⟨b,o,f,g,i,j,l,m,n⟩:=h k d;exact⟨b,o,f,g,i,e.cell j,e.cell l,m.ext e,n⟩
section
variable{H G:Gd}{ns:List Nat}
section
variable{xs ys:List Sx}{S:List Nat}{f:Nat}
end
end
def GP(t:eD)(b n:Nat)(c:fD)(w:er):Prop:=∃a,w.heap[b]? =some (.cells a t)/\a.size=n/\∀(j:Nat) u,c[j]? =some u->a[j]? =some u
def GP.keep(h:GP T m k M w)(a:eY A w t)(b:¬A m):GP T m k M t:=by obtain⟨c,d,e⟩:=h;exact⟨c,a.iZ d b,e⟩
def GC(e:Nat)(t:eD)(z:Nat)(w:er)(v:eu)(a:Nat)(d:fD):Prop:=d.length=a*z/\((a=0/\v=.slice none 0 0)\/∃b c,e<=b/\v=.slice (some ⟨b,0,none⟩) a c/\a<=c/\GP t b (c*z) d w)
def GC.nil(a:Nat)(t:eD)(z:Nat)(w:er):GC a t z w (.slice none 0 0) 0 []:=⟨by simp,.inl ⟨rfl,rfl⟩⟩
def GC.cells{f:Nat}{t:eD}{z:Nat}{w:er}{v:eu}{d:Nat}{e:fD}(h:GC f t z w v d e):∃a c,v=.slice a d c/\d<=c/\∀j,j<e.length->∃b,a=some ⟨b,0,none⟩/\f<=b/\∀(j:Nat) u,e[j]? =some u->w.cell? ⟨b,j,none⟩=some u:=by obtain⟨o,⟨rfl,rfl⟩|⟨b,c,g,rfl,i,p,k,q,l⟩⟩:=h;exact⟨none,0,rfl,eF _,λj m=>by omega⟩;exact⟨_,c,rfl,i,λj m=>⟨b,rfl,g,λj u n=>eB k (l j u n)⟩⟩
def GC.blk(h:GC m T k w x i M){b:Nat}(a:eG x b):m<=b/\∃d,w.heap[b]? =some (.cells d T):=by obtain⟨_,_,a⟩:=a;obtain⟨g,⟨_,rfl⟩|⟨j,c,e,rfl,l,d,f,_⟩⟩:=h;cases a;injection a with a;have:=eX Addr.block (eP a);simp only at this;subst this;exact⟨e,d,f⟩
def Dy(g:Nat)(t:eD)(d:fD)(v:eu)(a:Nat)(e:fD)(f:eu)(w:er):Prop:=
 (∃b c,v=.slice (some ⟨b,0,none⟩) a c/\f=.slice (some ⟨b,0,none⟩) (a+1) c/\a+1<=c/\GP t b (c*d.length) e w)\/fc g t d w f (a+1) e
def Dy.gc{a:fD}(h:Dy k T M x i a y w)(n:GC m T M.length t x i Y)(o:m<=k)(f:a.length=(i+1)*M.length):GC m T M.length w y (i+1) a:=by obtain⟨b,c,rfl,rfl,d,e⟩|⟨_,⟨g,_⟩|⟨b,c,p,g,rfl,d,e,q,s,r,v⟩⟩:=h;exact⟨f,.inr ⟨b,c,(n.blk ⟨_,_,rfl⟩).1,rfl,d,e⟩⟩;omega;refine⟨f,.inr ⟨b,c,ff o g,rfl,q,p,d,e,λj u l=>?_⟩⟩;rw[r j (kS.1 l).1];exact l
def Lh{e:eD}{cb:Array Bool}(hT:GK T e M){ae:oz}(h:GC m e M.length w x k Y){a:fD}{tt:eD}(t:w.heap[i]? =some (.cells a.toArray tt))(af:k+1<=1000000)
 (R:∀O v,Dy w.heap.size e M x k (Y++a) O v->eY (eG x) w v->(∀b n c y,y≠e\/c=Y\/c=Y++a->GP y b n c w->GP y b n c v)->ae O v)(hl:Nat.beq a.length M.length=true:=by rfl)(h1:tg a=true:=by rfl):zw V.prog (builtin .append #[T,T] U cb #[x,.slice (some ⟨i,0,none⟩) 1 j]) w ae:=by
 have o:a.length=1*M.length:=by rw[Nat.one_mul];exact jL hl
 obtain⟨A,⟨rfl,rfl⟩|⟨b,g,g1,rfl,g2,S,B,g4,g5⟩⟩:=h;obtain rfl:Y=[]:=nC (by simpa using A);refine kP hT (fc.nil w.heap.size e M w) (eF _) t (by omega) (λO v q1 q2 q3=>?_) hl h1;have ext:Ext w v:=q2.ext λb _ t=>by obtain⟨_,_,t⟩:=t;cases t
 exact R O v (.inr q1) q2 λb n c y _ C=>C.keep (ext.keep λ_=>False) id;obtain⟨hu,ag,z,h2,h3,h4,H,h6,h7⟩:=hT;have I:S.size=g*M.length:=g4;by_cases l:k+1<=g;have s:k*M.length+a.length<=S.size:=by rw[I,o,<-Nat.add_mul];exact rJ _ l
 have Q:=run_append_room_cells (P:=V.prog) w T U e ag hu h2 b 0 k g (eQ i 0) 1 j a (by rw[H];exact o) (λf u d=>by
  rw[je,eJ];exact eB t (by simpa using d)) (iK h1) l (λf d=>by
  simp only[World.cell?,B,eJ,H];rw[lA (by omega)];rfl) (λf d=>by simp[World.frozen?,B])
 rw[H,eJ]at Q;have J:=qz a w b (k*M.length) S e (0,0) B;have W:∀c,c=Y\/c=Y++a->∀n,GP e b n c w->GP e b n c (w.setCells b (k*M.length) a):=by rintro c D n ⟨E,p,X,Z⟩;rw[B]at p;injection p with p;injection p with p;subst p;refine⟨_,J,by rw[nu];exact X,λf u d=>?_⟩;rw[nd _ _ _ _ s];split;rename_i K;obtain rfl|rfl:=D;have:=(kS.1 d).1;omega;rw[ow (by omega),A]at d;exact d;exact Z f u d
 refine⟨_,w.setCells b (k*M.length) a,?_,R _ _ (.inl ⟨b,g,rfl,rfl,l,?_⟩) ?_ ?_⟩;unfold builtin;simp only[Sem.run_bind,Q,Result.andThen_ok,Sem.run_pure];refine⟨_,J,by rw[nu];exact I,λf u d=>?_⟩;rw[nd _ _ _ _ s];split;rename_i K;rw[ow (by omega),A]at d;exact d;rename_i K;obtain aa|L:=gQ f Y.length;rw[oR aa]at d;exact g5 f u d;have:=(kS.1 d).1;rw[jR]at this;omega;exact(mS _ _ _ _ _ (eY.refl _ w)).trans (eY.refl (λ_=>False) _) (λah _ hx=>by subst hx;exact⟨_,_,rfl⟩) λ_ _ h=>h.elim;intro b' n c y ab C;by_cases N:b'=b;subst N;obtain F|D:=ab;obtain⟨E,p,_⟩:=C;exact(ia p B F).elim;obtain⟨E,p,X,Z⟩:=C;have ht:y=e:=Decidable.byContradiction λF=>ia p B F;rw[ht]at p⊢;exact W c D n ⟨E,p,X,Z⟩;exact C.keep (mS _ _ _ _ _ (eY.refl _ w)) N;have G:∀f u,Y[f]? =some u->w.cell? (Addr.add (eQ b 0) f)=some u:=λf u d=>by rw[je,eJ];exact eB B (g5 f u d)
 have Q:=run_append_grow (P:=V.prog) w T U e ag z hu h2 h3 (eQ b 0) k g Y (by rw[H];exact A) G (eQ i 0) 1 j a (by rw[H];exact o) (λf u d=>by rw[je,eJ];exact eB t (by simpa using d)) (by omega) (by omega) (growslice_fits (by omega) (ff (Nat.mul_le_mul (show k+1<=1000000 by omega) h6) (by decide)));have L:=grownCap_ge w (k+1) g e;have r:z.cells.size=M.length:=by rw[h4];simp
 have ext:Ext w (w.drew.alloc (.cells (Y.toArray++a.toArray++Builtin.zeroCells z.cells (grownCap w (k+1) g e-(k+1))) e)):=(Ext.drew w).trans (Ext.alloc _ _);refine⟨_,_,?_,R (fP w.heap.size (k+1) (grownCap w (k+1) g e)) (w.drew.alloc (.cells (Y.toArray++a.toArray++Builtin.zeroCells z.cells (grownCap w (k+1) g e-(k+1))) e)) (.inr ⟨by rw[jR,A,o];exact(Nat.add_mul _ _ _).symm,.inr ⟨w.heap.size,grownCap w (k+1) g e,_,eF _,rfl,io w.drew _,?_,L,?_,λf d=>?_,λf d ac=>?_⟩⟩) (ext.keep _) λb' n c y _ C=>C.keep (ext.keep λ_=>False) id⟩;unfold builtin;simp only[Sem.run_bind,Q,Result.andThen_ok,Sem.run_pure];simp only[vo,jw,size_zeroCells,r];have e1:k*M.length+1*M.length=(k+1)*M.length:=(Nat.add_mul _ _ _).symm;have e2:(k+1)*M.length+(grownCap w (k+1) g e-(k+1))*M.length=(k+1+(grownCap w (k+1) g e-(k+1)))*M.length:=(Nat.add_mul _ _ _).symm;rw[A,o,e1,e2,show k+1+(grownCap w (k+1) g e-(k+1))=grownCap w (k+1) g e by omega];have:=grownCap_le_maxLen w (k+1) g e (by simp only[maxLen];omega);simp only[maxLen]at this;omega;rw[wA (by simpa using d)];simp;have ad:(Y++a).length=(k+1)*M.length:=by rw[jR,A,o];exact(Nat.add_mul _ _ _).symm
 have q:(Y.toArray++a.toArray).size=(k+1)*M.length:=by rw[<-ad];simp
 rw[vo,q,size_zeroCells,r]at ac;rw[zn (by rw[q];omega),q,om _ _ _ (by omega) (by rw[r];omega),r,h4];have e3:(f-(k+1)*M.length)%M.length=f%M.length:=by
  have:f=(f-(k+1)*M.length)+(k+1)*M.length:=by omega
  rw[this,Nat.add_mul_mod_self_right,Nat.add_sub_cancel]
 rw[e3];simp
structure HW(F:Nat->Prop)(t1 t2:eD)(XI Wt XJ Wu:List eu)(a b:er):Prop where
 k:eY F a b
 p:∀x n us,us=XI\/us=Wt->GP t1 x n us a->GP t1 x n us b
 q:∀x n us,us=XJ\/us=Wu->GP t2 x n us a->GP t2 x n us b
def Vu(F:eN)(m o:eD)(j f l g:fD):jd (HW F m o j f l g):=
 ⟨λw=>⟨eY.refl _ w,λ_ _ _ _ h=>h,λ_ _ _ _ h=>h⟩,λa b c h k=>⟨h.k.trans k.k (λ_ _ h=>h) λ_ _ h=>h,λx n d i e=>k.p x n d i (h.p x n d i e),λx n d i e=>k.q x n d i (h.q x n d i e)⟩,λw=>⟨(Ext.drew w).keep _,λx n d _ e=>e.keep ((Ext.drew w).keep λ_=>False) id,λx n d _ e=>e.keep ((Ext.drew w).keep λ_=>False) id⟩⟩
def Ext.ec(h:Ext w t)(F:eN)(f g:eD)(c a d b:fD):HW F f g c a d b w t:=⟨h.keep _,λx n i _ e=>e.keep (h.keep λ_=>False) id,λx n i _ e=>e.keep (h.keep λ_=>False) id⟩
def HW.more{b a:fD}(h:HW A T U M Y b a w t)(c:∀x,A x->B x):HW B T U M Y b a w t:=⟨h.k.trans (eY.refl (λ_=>False) t) (λx _ h=>c x h) λ_ _ h=>h.elim,h.p,h.q⟩
def GC.to(h:GC m T k w x i M)(e:∀a n,GP T a n M w->GP T a n M t):GC m T k t x i M:=by obtain⟨d,h|⟨b,c,f,g,j,l⟩⟩:=h;exact⟨d,.inl h⟩;exact⟨d,.inr ⟨b,c,f,g,j,e _ _ l⟩⟩
def Dy.to(h:Dy m T M x k Y y w)(d:∀a n,GP T a n Y w->GP T a n Y t)(e:eY A w t)(f:∀b,A b->b<m):Dy m T M x k Y y t:=by obtain⟨b,c,g,i,j,l⟩|h:=h;exact .inl ⟨b,c,g,i,j,d _ _ l⟩;exact .inr (h.keep e λb o p=>by have:=(h.blk o).1;have:=f b p;omega)
theorem Dy.low(h:Dy m T M x i Y y w)(a:k<=m):Dy k T M x i Y y w:=by obtain h|h:=h;exact .inl h;exact .inr (h.low a)
def JJ(r:iM w a l)(p:l.length<=100000)(d:Nat):Calls V.prog 54 #[.slice a l.length m,.int .i64 d] w (jy λv i=>v=.int .i64 (if d∈l then(l.idxOf d:Int)else-1)/\i=w):=by
 refine jT Tryz.func54 Tryz.ntmps54 ?_;refine jr l.length (λk (_:Unit)=>[(0,.slice a l.length m),(1,i64 d),(5,i64 k)]) (λk _ i=>i=w/\d∉l.take k) () ⟨by trivial,rfl,by simp⟩ ?_;rintro k _ t u ⟨rfl,f⟩;refine fe (fO ⟨λj=>?_,λn=>?_⟩);have c:k<l.length:=by simpa using j
 obtain⟨b,o,rfl,s⟩:=r k c;refine gN k c (eH s (iL ⟨λg=>?_,λg=>?_⟩));have g:l[k]=d:=Int.ofNat.inj (fQ g);refine⟨_,rfl,?_,rfl⟩;rw[eC (by rw[<-g];exact ft c)];have:l.idxOf d=k:=by
  have q:l=l.take k++l[k]::l.drop (k+1):=by simp
  rw[g]at q;rw[q,List.idxOf_append,ez f,List.idxOf_cons_self,tp];omega
 rw[this];rfl;have g:¬l[k]=d:=λe=>gJ g (eX Int.ofNat e);refine eK ⟨c,(),by trivial,rfl,?_⟩;rw[kM c,ja,gW];rintro(h|h);exact f h;exact g h.symm;obtain rfl:k=l.length:=by simp at n;omega
 rw[mI]at f;exact⟨_,rfl,by rw[ez f];rfl,rfl⟩
theorem HX:∀{a:List ew},(∀l∈a,l≠[])->a.length<=a.flatten.length
 |[],_=>eF _
 |l::r,h=>by have c:=List.length_pos_iff.2 (h l gD);have d:=HX λx b=>h x (gG l b);simp only[List.flatten_cons,jR,gf];omega
def JK(c:H.Ok)(d:lF H s){a:List ew}(h:iw H s=some a):a.length<=5:=by obtain⟨e,f⟩:=BQ c d h;have b:=HX λl g=>(f l g).1;rw[e.length_eq]at b;exact ff b (uU s)
def JL(G:Gd)(a:ew)(t:Nat->ew)(k:Nat):Int:=((List.range k).map λs=>nW G (xD a t s)).foldl max 0
def Li(G:Gd)(a:ew)(t:Nat->ew)(k:Nat):Int:=((List.range k).map λs=>nW G (xD a t s)).sum
def xy(G:Gd)(a:ew)(t:Nat->ew)(k:Nat):JL G a t (k+1)=max (JL G a t k) (nW G (xD a t k)):=by unfold JL;rw[nF,nS,re];rfl
def xz(G:Gd)(a:ew)(t:Nat->ew)(k:Nat):Li G a t (k+1)=Li G a t k+nW G (xD a t k):=by unfold Li;rw[nF,nS,List.sum_append];simp
def xA(G:Gd)(a:ew)(t:Nat->ew):Option (Int×Int):=if(List.range (fS G)).any (λs=>decide (nW G (xD a t s)<0))then none else some (JL G a t (fS G),Li G a t (fS G))
def Vv(o:Option (Int×Int)):eu:=match o with
 |some p=>.tuple #[.int .i64 p.1,.int .i64 p.2,.bool true]
 |none=>.tuple #[.int .i64 0,.int .i64 0,.bool false]
def Lj(a:ew)(b:List ew)(d:Nat):ew:=b.getD (a.idxOf d) []
def HY{G:Gd}{dc:Nat}(E:lM w a G.doors)(hG:ij G=0){R:fR}{lc:Nat}(hr:iM w R f)(X:f.Nodup)(Y:∀d∈f,d<G.doors.length){g:List ew}{S:fR}{tc:Nat}(ht:vm w S g)(ao:g.length=f.length)(Z:∀t∈g,t.length<=1000):
 Calls V.prog 51 #[gV G a dc,.slice R f.length lc,.slice S g.length tc] w (jy λv B=>Ext w B/\v=Vv (xA G f (Lj f g))):=by
 have T:=my hG;have hm:=T.many;have ap:=T.days;have am:=qg _ _ X Y;have hL:((fS G:Nat):Int)=2*G.days:=by unfold fS;omega
 have aq:=mA T;obtain⟨t,F⟩:∃t,t=Lj f g:=⟨_,rfl⟩;rw[<-F];refine jT Tryz.func51 Tryz.ntmps51 ?_;refine jx λw1 gb e1 ar hb=>?_;refine jr (fS G) (λk (_:Unit)=>[(1,.slice R f.length lc),(2,.slice S g.length tc),(3,eT gb),(9,i64 (JL G f t k)),(10,i64 (Li G f t k)),(11,i64 k)]) (λk _ B=>Ext w1 B/\(∀s,s<k->0<=nW G (xD f t s))/\0<=JL G f t k/\JL G f t k<=5/\0<=Li G f t k/\Li G f t k<=5*k) () ⟨by trivial,Ext.refl _,λs hs=>by omega,Int.le_refl _,(by show(0:Int)<=5;decide),Int.le_refl _,(by show(0:Int)<=5*((0:Nat):Int);decide)⟩ ?_;rintro k _ w2 hk ⟨H,y,au,av,aw,ax⟩;have aa:=H.at_ hb;refine eH (eB aa rfl) (vT (fO ⟨λab=>?_,λac=>?_⟩));have I:k<fS G:=by have:=fQ ab;omega
 refine jr f.length (λi (v:eu)=>[(1,.slice R f.length lc),(2,.slice S g.length tc),(3,eT gb),(9,i64 (JL G f t k)),(10,i64 (Li G f t k)),(11,i64 k),(12,v),(13,i64 i)]) (λi v B=>Ext w2 B/\jq w2.heap.size B v (Ia (f.take i) t k)) (ig) ⟨by trivial,Ext.refl _,fc.nil _ _ _ _⟩ ?_;rintro i v w3 hi ⟨C,J⟩;have p:=(e1.trans H).trans C;refine fe (fO ⟨λK=>?_,λL=>?_⟩);have m:i<f.length:=by simpa using K
 have q:i<g.length:=by omega
 obtain⟨b,o,a',c',rfl,ad,ae,ay⟩:=(ht.ext p) i q;have M:f.idxOf f[i]=i:=by have r:=List.idxOf_lt_length_of_mem (ft m);exact(List.getElem_inj X).1 (List.getElem_idxOf r)
 have af:t f[i]=g[i]:=by rw[F];unfold Lj;rw[M,getD_eq q]
 have e:Ia (f.take (i+1)) t k=Ia (f.take i) t k++if k∈g[i]then [f[i]]else []:=by unfold Ia;rw[kM m,List.filter_append,List.filter_cons,af];by_cases h:k∈g[i]<;>simp[h]
 have ag:=Z _ (ft q);refine gN i q (eH ad (fw (JJ ae (by omega) k) (yP ⟨λr=>?_,λr=>?_⟩)));have z:k∈g[i]:=by refine Decidable.byContradiction λA=>?_;rw[ez A]at r;exact absurd (fQ r) (by decide)
 rw[eC z]at e;obtain⟨b2,o2,rfl,ah⟩:=(hr.ext p) i m;have az:(Ia (f.take i) t k).length<=i:=by unfold Ia;refine ff (List.length_filter_le _ _) ?_;rw[tp];omega
 refine gN i m (eH ah (ie [i64 (f[i]:Nat)] 3 λw4 nb D aA ai=>kP vk (fc.ext J D) (C.trans D).size ai (by omega) λv' w5 U q2 _=>eK ⟨m,v',by trivial,(C.trans D).xg q2 λx hx=>(fc.blk J hx).1,?_⟩));rw[e];unfold jq;have U:=U;simp only[gU,jR,gf,il,eJ,nS,lK,rf]at U⊢;exact U;have A:k∉g[i]:=by intro z;rw[eC z]at r;have:=gJ r;omega
 rw[ez A,List.append_nil]at e;exact eK ⟨m,v,by trivial,C,by rw[e];exact J⟩;obtain rfl:i=f.length:=by simp at L;omega
 rw[mI]at J;obtain⟨aB,c,rfl,aj,ak⟩:=J.row;have j:(Ia f t k).Sublist f:=List.filter_sublist;have N:=lF.gF (G:=G) hm (l:=Ia f t k) λd E=>Y d (j.subset E);have an:=j.length_le;refine jz ((H.trans C).at_ hb) (eL (JI (dc:=dc) (lc:=c) (E.ext p) hG aj (X.sublist j) (λd E=>Y d (j.subset E)) (by omega) ak) ?_);rintro u w4 ⟨D,W⟩;have al:=p.trans D;have O:xD f t k=gF (Ia f t k):=rfl;cases P:iw G (gF (Ia f t k))with
 |none=>
  rw[P]at W;obtain rfl:u=.tuple #[ig,i64 11]:=W;have Q:nW G (xD f t k)<0:=by rw[O];unfold nW;rw[P];decide
  refine jS (lq rfl ?_);refine⟨_,rfl,al,?_⟩;unfold xA;rw[eC (List.any_eq_true.2 ⟨k,fT.2 I,decide_eq_true Q⟩)];rfl
 |some ls=>
  rw[P]at W;obtain⟨u2,rfl,hu⟩:=W;obtain⟨ua,uc,rfl,_,_⟩:=hu.row;have ag:=JK T N P;have n:nW G (xD f t k)=ls.length:=by rw[O];unfold nW;rw[P]
  refine jS (nU rfl (fe (xX (fe (eK (eK ⟨I,(),⟨rfl,rfl,rfl,?_,?_,rfl,trivial⟩,H.trans (C.trans D),λs hs=>?_,?_,?_,?_,?_⟩))))));rw[xy,n];rfl;rw[xz,n];rfl;obtain h|rfl:=Nat.lt_succ_iff_lt_or_eq.1 hs;exact y s h;rw[n];omega;rw[xy];omega;rw[xy,n];omega;rw[xz,n];omega;rw[xz,n];omega
 obtain rfl:k=fS G:=by have:=gJ ac;omega
 refine⟨_,rfl,e1.trans H,?_⟩;unfold xA;rw[ez (λh=>by obtain⟨s,r,h2⟩:=List.any_eq_true.1 h;have:=y s (fT.1 r);have:=fQ h2;omega)];rfl
def Qj(a:List (Nat×ew))(i:Nat):Nat:=((a.take i).map λp=>sH p.1 a).foldl max 0
def HZ{a:List (Nat×ew)}(h:i<a.length):Qj a (i+1)=max (Qj a i) (sH a[i].1 a):=by unfold Qj;rw[kM h,nS,re];rfl
def Su(s:Nat)(a:List (Nat×ew)):sH s a<=a.length:=List.length_filter_le _ _
def Fa{d:List (Nat×ew)}{c:Nat}(A:sn w a d)(B:d.length<=1000):Calls V.prog 52 #[.slice a d.length c] w (jy λv m=>v=.int .i64 (Qj d d.length)/\Ext w m):=by
 refine jT Tryz.func52 Tryz.ntmps52 ?_;refine jr d.length (λi (_:Unit)=>[(0,.slice a d.length c),(3,i64 (Qj d i)),(4,i64 i)]) (λi _ m=>Ext w m) () ⟨by trivial,Ext.refl _⟩ ?_;rintro i _ E H C;refine fe (fO ⟨λr=>?_,λs=>?_⟩);have g:i<d.length:=by simpa using r
 refine jr d.length (λk (_:Unit)=>[(0,.slice a d.length c),(3,i64 (Qj d i)),(4,i64 i),(5,i64 (sH d[i].1 (d.take k))),(6,i64 k)]) (λk _ m=>Ext E m) () ⟨by trivial,Ext.refl _⟩ ?_;rintro k _ I J t;have l:=C.trans t;refine fe (fO ⟨λn=>?_,λp=>?_⟩);have f:k<d.length:=by simpa using n
 obtain⟨b,o,K,L,rfl,F,_⟩:=A k f;obtain⟨M,N,O,P,u,G,_⟩:=A i g;injection u with u;injection u with x y;subst x y;have j:sH d[i].1 (d.take (k+1))=sH d[i].1 (d.take k)+if d[k].1=d[i].1 then 1 else 0:=by unfold sH;rw[kM f,List.filter_append,jR,List.filter_cons];by_cases h:d[k].1=d[i].1<;>simp[h]
 have z:=Su d[i].1 (d.take k);rw[tp]at z;refine fB fl<| .exact (oJ b (o+k*2)) (λq e=>iV k 2 f iJ)<| .exact (i64 d[k].1) (λq e=>eH (e.cell (l.cell F)) iJ)<| .exact (oJ b (o+i*2)) (λq e=>iV i 2 g iJ)<| .exact (i64 d[i].1) (λq e=>eH (e.cell (l.cell G)) iJ)<| .exact (.bool (decide ((d[k].1:Int)=d[i].1))) (λq e=>iL iJ) ?_;rintro q D;refine⟨λh=>?_,λh=>?_⟩;have h:d[k].1=d[i].1:=Int.ofNat.inj (fQ h);rw[eC h]at j;exact eK (eK ⟨f,(),⟨rfl,rfl,rfl,by rw[j];rfl,rfl,trivial⟩,t.trans D⟩);have h:¬d[k].1=d[i].1:=λe=>gJ h (eX Int.ofNat e);rw[ez h]at j;exact eK ⟨f,(),⟨rfl,rfl,rfl,by rw[j];rfl,rfl,trivial⟩,t.trans D⟩;obtain rfl:k=d.length:=by simp at p;omega
 rw[mI];refine xX (eK ⟨g,(),⟨rfl,?_,rfl,trivial⟩,l⟩);rw[HZ g];have e:((max (Qj d i) (sH d[i].1 d):Nat):Int)=max ((Qj d i:Nat):Int) ((sH d[i].1 d:Nat):Int):=by omega
 rw[e];rfl;obtain rfl:i=d.length:=by simp at s;omega
 exact⟨_,rfl,rfl,C⟩
section
variable{G:Gd}{l:List Ty}{f:Nat}
def Lk(e:G.Ok):nW G 0=0:=by
 have b:fx 0=[]:=by decide
 have f:lF G 0:=⟨by omega,λd a=>by rw[b]at a;cases a⟩;have:=Ts e f (n:=0) (c:=λ_=>0) ⟨λd a=>(by rw[b]at a;cases a),λj g=>by omega⟩;omega
def H0{a:ew}{t:Nat->ew}{s:Nat}(h:∀d∈a,s∉t d):xD a t s=0:=by unfold xD Ia;rw[Fg.2 λd b=>by simpa using h d b];rfl
def Vw(G:Gd)(a:ew)(t:Nat->ew)(k:Nat):0<=JL G a t k:=(xx _ _).1
def Sv(b:G.Ok){a:ew}{t:Nat->ew}(h:∀d∈a,∀s∈t d,s<fS G):(Qg G a t).foldl max 0=JL G a t (fS G)/\(Qg G a t).sum=Li G a t (fS G):=by
 have k:=mA b
 have e:∀j,JL G a t (fS G+j)=JL G a t (fS G)/\Li G a t (fS G+j)=Li G a t (fS G):=λj=>by
  induction j with
  |zero=>exact⟨rfl,rfl⟩
  |succ j c=>
   have f:nW G (xD a t (fS G+j))=0:=by rw[H0 λd g i=>by have:=h d g _ i;omega];exact Lk b
   have:=Vw G a t (fS G);rw[<-sR,xy,xz,f,c.1,c.2];exact⟨by omega,by omega⟩
 have:=e (6-fS G);rw[show fS G+(6-fS G)=6 by omega]at this;exact this
def Qk(c:G.Ok){d:Nat}{t:ew}(h:t∈mh G l d f):∀s∈t,s<fS G:=by have k:=c.days;unfold mh at h;obtain⟨u,e,rfl⟩:=iX.1 h;obtain⟨m,g⟩:=vg (ku.1 e).1;obtain⟨_,i,_⟩:=nf (q:=λ_=>false) (f:=0) (a:=0) (b:=0) g G.days.toNat;intro s j;have:=i s j;unfold fS;omega
def Ib(G:Gd)(l:List Ty)(f:Nat)(O:ew):ew:=O.map λd=>max 1 (mh G l d f).length
def Uy(G:Gd)(l:List Ty)(f:Nat)(O:ew)(a:ew):List ew:=(List.range O.length).map λi=>(mh G l (O.getD i 0) f).getD (a.getD i 0) []
def Tv(G:Gd)(l:List Ty)(f:Nat)(O:ew):Bool:=O.all λd=>decide (0<(mh G l d f).length)
def Ng(G:Gd)(l:List Ty)(f:Nat)(O:ew)(c:Nat):Option (Int×Int):=if Tv G l f O then xA G O (Lj O (Uy G l f O (ti (Ib G l f O) c)))else none
def Ll(O:ew):∀n∈Ib G l f O,0<n:=λn a=>by obtain⟨d,_,rfl⟩:=iX.1 a;omega
def JM{O:ew}(c:O.Nodup){ps:ew}{i:Nat}(b:i<O.length):Lj O (Uy G l f O ps) O[i]=(mh G l O[i] f).getD (ps.getD i 0) []:=by have d:=List.idxOf_lt_length_of_mem (ft b);have a:O.idxOf O[i]=i:=(List.getElem_inj c).1 (List.getElem_idxOf d);unfold Lj Uy;rw[a,kL,ng,List.getElem?_range b];simp only[kT,lT];rw[getD_eq b]
def Dz{a:ew}{t b:Nat->ew}(h:∀d∈a,t d=b d)(s:Nat):xD a t s=xD a b s:=by unfold xD Ia;rw[List.filter_congr λd c=>by rw[h d c]]
def JN{a:ew}{t b:Nat->ew}(h:∀d∈a,t d=b d):xA G a t=xA G a b:=by
 have e:∀k,JL G a t k=JL G a b k/\Li G a t k=Li G a b k:=λk=>by unfold JL Li;rw[List.map_congr_left λs _=>by rw[Dz h s]];exact⟨rfl,rfl⟩
 unfold xA;rw[(e _).1,(e _).2];have c:(λs=>decide (nW G (xD a t s)<0))=λs=>decide (nW G (xD a b s)<0):=by funext s;rw[Dz h s]
 rw[c]
def DC(i:G.Ok){a:ew}{t:Nat->ew}(h:∀d∈a,∀s∈t d,s<fS G)(p:Int×Int):xA G a t=some p↔(∀s,s<6->0<=nW G (xD a t s))/\(Qg G a t).foldl max 0=p.1/\(Qg G a t).sum=p.2:=by
 obtain⟨m,n⟩:=Sv i h;rw[m,n];have y:=mA i;have b:(List.range (fS G)).any (λs=>decide (nW G (xD a t s)<0))=true↔¬∀s,s<6->0<=nW G (xD a t s):=by rw[List.any_eq_true];constructor;rintro⟨s,o,q⟩ r;have:=r s (by have:=fT.1 o;omega);have:=fQ q;omega;intro g;refine Ff λj=>g λs l=>?_;obtain k|u:=gQ s (fS G);exact Int.not_lt.1 λc=>j ⟨s,fT.2 k,decide_eq_true c⟩;rw[H0 λd v l=>by have:=h d v _ l;omega,Lk i];exact Int.le_refl _
 unfold xA;by_cases f:(List.range (fS G)).any (λs=>decide (nW G (xD a t s)<0))=true;rw[eC f];exact⟨λh=>(by cases h),λ⟨g,_⟩=>absurd g (b.1 f)⟩;rw[ez f];have g:∀s,s<6->0<=nW G (xD a t s):=Ff λg=>f (b.2 g);constructor;intro e;obtain rfl:=eP e;exact⟨g,rfl,rfl⟩;rintro⟨_,w,x⟩;rw[w,x]
def Sw(u:G.Ok){O:ew}(E:O=eO G.tries ((List.range G.doors.length).map (iC l))):match fL (fi G ((List.range G.doors.length).map (iC l)) f)with
 |none=>(eW (Ng G l f O) (BV (Ib G l f O))).1=false
 |some (_,m,k)=>eW (Ng G l f O) (BV (Ib G l f O))=(true,m,k):=by
 have w:O.Nodup:=by rw[E];exact ur _ _
 have H:(Ib G l f O).length=O.length:=jU ..;obtain⟨F,I⟩:∃F,F=Ng G l f O:=⟨_,rfl⟩;obtain⟨N,Q⟩:∃N,N=BV (Ib G l f O):=⟨_,rfl⟩;rw[<-I,<-Q]
 have R:∀c p,F c=some p->∃D m k,fL (fi G ((List.range G.doors.length).map (iC l)) f)=some (D,m,k)/\m<=p.1/\(m=p.1->k<=p.2):=λc p y=>by
  rw[I]at y;unfold Ng at y;split at y;rename_i a
  have z:∀d∈O,Lj O (Uy G l f O (ti (Ib G l f O) c)) d∈mh G l d f:=λd g=>by
   obtain⟨i,b,rfl⟩:=List.getElem_of_mem g;rw[JM w b];have j:=zZ (Ll (G:=G) (l:=l) (f:=f) O) c i (by omega);have v:0<(mh G l O[i] f).length:=fQ (mO.1 a _ (ft b));have n:(Ib G l f O)[i]'(by omega)=max 1 (mh G l O[i] f).length:=by simp[Ib]
   rw[n]at j;rw[getD_eq (show(ti (Ib G l f O) c).getD i 0<(mh G l O[i] f).length by omega)];exact ft _
  obtain⟨X,Y,Z⟩:=(DC u (λd g=>Qk u (z d g)) p).1 y;subst E;obtain⟨D,m,k,j,v,n⟩:=Uv u z X;rw[Y]at v n;rw[Z]at n;exact⟨D,m,k,j,v,n⟩;cases y
 have S:=HV F N;cases J:fL (fi G ((List.range G.doors.length).map (iC l)) f)with
 |none=>
  obtain⟨h,_⟩|⟨_,⟨i,_,h⟩,_⟩:=S;exact h;obtain⟨_,_,_,h,_⟩:=R i _ h;rw[J]at h;cases h
 |some x=>
  obtain⟨D,m,k⟩:=x;show eW F N=(true,m,k);obtain⟨t,j,v,n,T⟩:=Uw u J;rw[<-E]at j v n T;have a:Tv G l f O=true:=mO.2 λd g=>decide_eq_true (List.length_pos_of_mem (j d g));obtain⟨A,B⟩:∃A,A=O.map λd=>(mh G l d f).idxOf (t d):=⟨_,rfl⟩;have K:A.length=(Ib G l f O).length:=by rw[B,H,jU]
  have o:∀i (b:i<O.length),A.getD i 0=(mh G l O[i] f).idxOf (t O[i]):=λi b=>by rw[B,kL,ng,gC b];rfl
  obtain⟨c,r,L⟩:=HU K λi b=>by
   have C:i<O.length:=by omega
   have U:=List.idxOf_lt_length_of_mem (j _ (ft C));rw[o i C];have h6:(Ib G l f O)[i]=max 1 (mh G l O[i] f).length:=by simp[Ib]
   rw[h6];omega
  have s:F c=some (m,k):=by
   rw[I];unfold Ng;rw[eC a,L];have e:∀d∈O,Lj O (Uy G l f O A) d=t d:=λd g=>by obtain⟨i,b,rfl⟩:=List.getElem_of_mem g;have U:=List.idxOf_lt_length_of_mem (j _ (ft b));rw[JM w b,o i b,getD_eq U,List.getElem_idxOf]
   rw[JN e];exact(DC u (λd g=>Qk u (j d g)) (m,k)).2 ⟨v,n,T⟩
  rw[<-Q]at r;obtain⟨_,h⟩|⟨hf,⟨i,_,b⟩,M⟩:=S;rw[h c r]at s;cases s;obtain⟨_,m',k',q,q2,V⟩:=R i _ b;rw[J]at q;injection q with q;injection q with _ q;injection q with q q4;subst q q4;obtain⟨q5,W⟩:=M c _ r s;simp only at q2 V q5 W;have P:m=(eW F N).2.1:=by omega
  have e2:k=(eW F N).2.2:=by have:=V P;have:=W P;omega
  rw[P,e2,<-hf]
def H1(l:G.Ok){xs:List Sx}(y:xs.length=G.doors.length){z:iA}(t:fL (fi G xs f)=some (z,I,J)){a:List (Nat×ew)}(k:ny G (fi G xs f)=some a):((Qj a a.length:Nat):Int)=I/\(a.length:Int)=J:=by
 have O:=l.many;obtain⟨L,P,u,A,B,C,D,_⟩:=Lc l y f t;rw[k]at u;obtain rfl:=eP u;obtain⟨Q,v,R,m⟩:=sI l A 6 (eF _);have b:=P4 (G:=G) (xs:=xs) (by omega) f;rw[k,t]at b;refine⟨?_,b.1⟩;obtain⟨a,n⟩:∃a,a=li G L 6:=⟨_,rfl⟩;rw[<-n]at v m⊢
 have E:∀i,i<=a.length->((Qj a i:Nat):Int)<=I/\∀j (d:j<i) (e:j<a.length),sH a[j].1 a<=Qj a i:=λi=>by
  induction i with
  |zero=>exactλ_=>⟨D,λj d=>by omega⟩
  |succ i F=>
   intro S;obtain⟨T,H⟩:=F (by omega);have g:i<a.length:=by omega
   rw[HZ g];have o:=m a[i].1;have w:=(v a[i] (ft g)).1;rw[eC w]at o;have U:=B _ w;refine⟨by omega,λj d e=>?_⟩;obtain h|rfl:=Nat.lt_succ_iff_lt_or_eq.1 d;have:=H j h e;omega;omega
 obtain⟨V,K⟩:=E a.length (eF _);obtain x|x:=Int.lt_or_le 0 I;obtain⟨s,M,N⟩:=C x;have o:=m s;rw[eC M,N]at o;have c:0<sH s a:=by omega
 unfold sH at c;obtain⟨p,k⟩:=List.exists_mem_of_length_pos c;obtain⟨q,r⟩:=ku.1 k;obtain⟨j,d,rfl⟩:=List.getElem_of_mem q;have:=K j d d;rw[fQ r]at this;omega;omega
end
def jq.rowOf(h:jq m w (.slice a k i) l):iM w a l:=by obtain⟨d,f,e,b,g⟩:=h.row;injection e with c;rw[c];exact b
def GC.low(h:GC m T i w x j M)(d:k<=m):GC k T i w x j M:=by obtain⟨a,h|⟨b,c,e,f⟩⟩:=h;exact⟨a,.inl h⟩;exact⟨a,.inr ⟨b,c,ff d e,f⟩⟩
def Sy(h:GC m 3 1 w x l.length (gU l)):∃a c,x=.slice a l.length c/\iM w a l:=by obtain⟨a,c,e,i,f⟩:=h.cells;refine⟨a,c,e,λk d=>?_⟩;obtain⟨b,rfl,_,g⟩:=f k (by simpa[gU]using d);exact⟨b,0,rfl,by rw[eJ];exact g _ _ (by simp[gU,gC d])⟩
section
variable{A A':Nat->Nat->Prop}{w w':er}{a:Option Addr}{l:List Nat}{ls:List (List Nat)}{us:List eu}{Nr:List (List (List Nat))}
def DD(A:Nat->eN)(w:er)(a:fR)(l:ew):Prop:=∀k (h:k<l.length),∃b o,¬A b (o+k)/\a=some ⟨b,o,none⟩/\w.cell? ⟨b,o+k,none⟩=some (.int .i64 l[k])
def zm(A:Nat->eN)(w:er)(a:fR)(ls:List ew):Prop:=∀k (h:k<ls.length),∃b o c d,¬A b (o+k)/\a=some ⟨b,o,none⟩/\w.cell? ⟨b,o+k,none⟩=some (.slice c ls[k].length d)/\DD A w c ls[k]/\ls[k].length<=d
def Sz(A:Nat->eN)(w:er)(us:fD)(Nr:List (List ew)):Prop:=us.length=Nr.length/\∀i (h:i<Nr.length),∃a c,us[i]? =some (.slice a Nr[i].length c)/\zm A w a Nr[i]/\Nr[i].length<=c
theorem DD.go(h:DD A w a l)(e:∀b j,A' b j->A b j\/w.heap.size<=b)(f:∀b o v,¬A b o->w.cell? ⟨b,o,none⟩=some v->w'.cell? ⟨b,o,none⟩=some v):DD A' w' a l:=λk g=>by obtain⟨b,o,c,i,d⟩:=h k g;refine⟨b,o,λm=>?_,i,f _ _ _ c d⟩;have:=pY d;obtain h|h:=e b _ m;exact c h;omega
theorem zm.go(h:zm A w a ls)(c:∀b j,A' b j->A b j\/w.heap.size<=b)(d:∀b o v,¬A b o->w.cell? ⟨b,o,none⟩=some v->w'.cell? ⟨b,o,none⟩=some v):zm A' w' a ls:=λk g=>by obtain⟨b,o,i,l,e,m,f,n,p⟩:=h k g;refine⟨b,o,i,l,λq=>?_,m,d _ _ _ e f,n.go c d,p⟩;have:=pY f;obtain h|h:=c b _ q;exact e h;omega
theorem Sz.go(h:Sz A w us Nr)(d:∀b j,A' b j->A b j\/w.heap.size<=b)(e:∀b o v,¬A b o->w.cell? ⟨b,o,none⟩=some v->w'.cell? ⟨b,o,none⟩=some v):Sz A' w' us Nr:=⟨h.1,λi f=>by obtain⟨a,c,g,k,l⟩:=h.2 i f;exact⟨a,c,g,k.go d e,l⟩⟩
theorem Sz.snoc(h:Sz A w us Nr){u:eu}{x:List ew}{a:fR}{c:Nat}(e:u=.slice a x.length c)(f:zm A w a x)(g:x.length<=c):Sz A w (us++[u]) (Nr++[x]):=by
 obtain⟨d,j⟩:=h;refine⟨by simp[d],λi k=>?_⟩;obtain b|l:=gQ i Nr.length;obtain⟨m,n,o,p,q⟩:=j i b;rw[nE b,oR (by omega)];exact⟨m,n,o,p,q⟩;obtain rfl:i=Nr.length:=by simp at k;omega
 rw[ow (by omega),d];simp only[mj,Ck,List.getElem_concat_length];exact⟨a,c,by rw[e],f,g⟩
theorem DD.row(h:DD A w a l):iM w a l:=λk c=>by obtain⟨b,o,_,d,e⟩:=h k c;exact⟨b,o,d,e⟩
theorem zm.row(h:zm A w a ls):vm w a ls:=λk c=>by obtain⟨b,o,d,e,_,f,g,i,j⟩:=h k c;exact⟨b,o,d,e,f,g,i.row,j⟩
end
def iW.BT{a:Nat}{w w':er}{v:eu}{ls:List ew}{F:eN}(h:iW a w v ls)(k:eY F w w')(e:∀b,F b->b<a):iW a w' v ls:=by obtain⟨us,f,j,l⟩:=h;refine⟨us,f.keep k λb c d=>by have:=(f.blk c).1;have:=e b d;omega,j,λi m=>?_⟩;obtain⟨u,n,g⟩:=l i m;exact⟨u,n,fc.keep g k λb c d=>by have:=(fc.blk g c).1;have:=e b d;omega⟩
def Dy.PZ{d:Nat}{e:fD}{v:eu}{a:Nat}{us:fD}{f:eu}{F:eN}{w w':er}(h:Dy d T e v a us f w)(k:eY F w w')(g:∀b,eG v b->¬F b)(i:∀b,F b->b<d):Dy d T e v a us f w':=by obtain⟨b,c,rfl,j,l,m⟩|h:=h;exact .inl ⟨b,c,rfl,j,l,m.keep k (g b ⟨_,_,rfl⟩)⟩;exact .inr (h.keep k λb n o=>by have:=(h.blk n).1;have:=i b o;omega)
def AQ(c:eu)(a:Nat)(d:eu)(b j:Nat):Prop:=(eG c b/\a<=j)\/eG d b
def iW.Wv{n i:Nat}{w:er}{v Q l R:eu}{ls:List ew}{s D:fD}{x:Nat}{m:eu}(h:iW n w v ls)(E:∀r∈ls,r.Pairwise (·<·))(y:∀b,eG Q b->b<n)(F:∀b,eG R b->b<n)(B:Dy n 3 [.int .i64 0] Q i s l w)(W:s.length=i+1)(X:Dy n 66 [.slice none 0 0] R x D m w):∃a c,v=.slice a ls.length c/\zm (AQ l (i+1) m) w a ls/\ls.length<=c:=by
 have tL:∀{b:Nat} {o:fZ} {t:eD},n<=b->gY w b o t->t≠66->¬eG m b:=λ{b o t} Y G Z f=>by obtain⟨z,c,rfl,rfl,_,_⟩|h:=X;have e:=lH (l':=0) (c':=0) f;have:=F z ⟨_,_,rfl⟩;omega;obtain⟨H,I⟩:=fc.c_ h f;exact ia G I Z
 have tN:∀{b:Nat} {o:fZ},n<=b->gY w b o 27->¬eG l b:=λ{b o} Y G f=>by obtain⟨z,c,rfl,rfl,_,_⟩|h:=B;have e:=lH (l':=0) (c':=0) f;have:=y z ⟨_,_,rfl⟩;omega;obtain⟨H,I⟩:=fc.c_ h f;exact ia G I (by decide)
 obtain⟨us,⟨h0,⟨hl,rfl⟩|⟨b,c,o,S,rfl,J,h4,h5,h6,h7,h8⟩⟩,h9,K⟩:=h;exact⟨none,0,by rw[hl],λk L=>by omega,by omega⟩;refine⟨_,c,rfl,λk L=>?_,h5⟩;obtain⟨u,g1,T⟩:=K k L;have g:w.cell? (eQ b (0+k))=some u:=eB J (by rw[eJ,h7 k (by omega),g1]);have A:¬AQ l (i+1) m b (0+k):=λd=>d.elim (λd=>tN S J d.1) λd=>tL S J (by decide) d;have aa:=T;obtain⟨i0,⟨M,rfl⟩|⟨b2,c2,N,M,rfl,O,i4,i5,i6,U,i8⟩⟩:=T;refine⟨b,0,none,0,A,rfl,?_,λj C=>by omega,by omega⟩;rw[g,M];refine⟨b,0,_,c2,A,rfl,g,λj C=>⟨b2,0,λd=>?_,rfl,eB O ?_⟩,i5⟩;obtain⟨d,V⟩|d:=d;obtain⟨z,c',rfl,rfl,_,_⟩|B:=B;have e:=lH (l':=0) (c':=0) d;have:=y z ⟨_,_,rfl⟩;omega;obtain⟨_,_,d⟩:=d;obtain⟨j0,⟨j1,_⟩|⟨b3,c3,ab,j1,rfl,p,j4,j5,j6,j7,j8⟩⟩:=B;omega;injection d with d;have:=eX Addr.block (eP d);simp only at this;subst this;rw[O]at p;injection p with p;injection p with p;subst p;have q1:=U j (by simp[gU];omega);have P:j<N.size:=by rw[i4];simp;omega
 have q:=j8 j (by omega) P;have hr:=E _ (ft L);have q3:(gU ls[k])[j]? =some (i64 (ls[k][j]:Nat)):=by simp[gU,gC C]
 rw[q1,q3]at q;simp only[gf,il,eJ,Nat.mod_one,Ck]at q;injection q with q;injection q with _ q;have:=List.pairwise_iff_getElem.1 hr 0 j (by omega) C (by omega);omega;exact tL M O (by decide) d;rw[eJ,U j (by simp[gU];omega)];simp[gU,gC C]
theorem oO.keep{c:List (Nat×ew)}(h:oO m w x c)(e:eY A w t)(d:∀b,m<=b->¬A b):oO m t x c:=by obtain⟨i,j,f,l⟩:=h;exact⟨i,j,fc.keep f e λb a=>d b (fc.blk f a).1,λk n=>by obtain⟨u,o,g⟩:=l k n;exact⟨u,o,fc.keep g e λb a=>d b (fc.blk g a).1⟩⟩
def DE.own(h:DE m w t)(k:eY (eG x) t e)(c:∀a,eG x a->w.heap.size<=a):DE m w e:=
 ⟨(h.1.trans k (H:=λa=>a=m\/w.heap.size<=a) (λ_ _ h=>.inl h) λa _ b=>.inr (c a b)).trans (eY.refl (λ_=>False) _) (λa b h=>h.elim id λh=>by omega) λ_ _ h=>h.elim,λd=>(h.2 d).keep k λa b=>by have:=c a b;have:=d.lt;omega⟩
def Nh(c:H.Ok){x:Sx}(h:l∈gi H x m):l.length<=3:=by
 obtain⟨b,_⟩:=pz h;have f:=mA c;have a:(l.map (·/2)).Nodup:=(List.pairwise_map.2 b.up).imp λh=>Nat.ne_of_lt h;have:=qg 3 _ a λx d=>by obtain⟨s,e,rfl⟩:=iX.1 d;have:=(b.free s e).2.2;omega
 rw[jU]at this;exact this
theorem Vx:∀W:List (Nat×ew),(∀p∈W,p.2≠[]/\∀d∈p.2,d<5)->W.length<=(sG 0 W).length+(sG 1 W).length+(sG 2 W).length+(sG 3 W).length+(sG 4 W).length
 |[],_=>iQ _
 |p::r,h=>by
  have i:=Vx r λq c=>h q (gG _ c);have a:∀d,(sG d (p::r)).length=(if d∈p.2 then 1 else 0)+(sG d r).length:=λd=>by rw[BS];split;rw[gf];omega;omega
  obtain⟨e,f⟩:=h p gD;obtain⟨d,b⟩:=List.exists_mem_of_ne_nil _ e;have g:=f d b;rw[gf,a 0,a 1,a 2,a 3,a 4];obtain rfl|rfl|rfl|rfl|rfl:d=0\/d=1\/d=2\/d=3\/d=4:=by omega
  all_goals
   rw[eC b];omega
def sJ.short{g:List Sx}{a:List (Nat×ew)}(h:sJ H g m a)(e:H.Ok)(c:∀p∈a,p.2≠[]):a.length<=15:=by
 have j:=e.many;have:=Vx a λp f=>⟨c p f,λd i=>by have:=(h.walk p f).2.2.1 d i;omega⟩;have b:∀d,(sG d a).length<=3:=λd=>by obtain⟨_,q⟩|⟨_,q⟩:=h.door d;exact Nh e q;rw[q];exact iQ _
 have:=b 0;have:=b 1;have:=b 2;have:=b 3;have:=b 4;omega
def SA(G:Gd):Gd:=⟨G.streets,G.corner,G.knock,G.minutes,min G.days 2,min G.tries (min G.days 2),G.doors⟩
def JO(a:ij H=0):ij (SA H)=0:=by
 unfold ij at a⊢;split at a;rename_i b;have d:oV (SA H)=true:=by rw[show oV (SA H)=(oD H.streets 1 3&&(oD H.corner 1 9&&(oD H.knock 1 5&&(oD H.minutes 1 90&&(oD (min H.days 2) 1 3&&oD (min H.tries (min H.days 2)) 1 (min H.days 2))))))from rfl];simp only[oV,oD,fE,lU]at b⊢;obtain⟨e,f,g,h,⟨i,j⟩,k,l⟩:=b;have c:1<=min H.days 2:=Int.le_min.2 ⟨i,by decide⟩;exact⟨e,f,g,h,⟨c,Int.le_trans (Int.min_le_left _ _) j⟩,Int.le_min.2 ⟨k,c⟩,Int.min_le_right _ _⟩
 rw[eC d];exact a;cases a
def Ql(a:i<l.length):(List.replicate i 0++l.drop i).set i m=List.replicate i 0++m::l.drop (i+1):=by rw[List.set_append_right _ _ (by simp),List.length_replicate,mj,qZ a,List.set_cons_zero]
def H2(c:ew)(i v:Nat):(gU c).toArray.setIfInBounds i (.int .i64 (v:Nat))=(gU (c.set i v)).toArray:=by simp[gU,List.map_set]
def Cf{ns:iA}{la:fR}{lc:Nat}(hr:nz w la ns)(hl:ns.length<=9223372036854775807):Calls V.prog 6 #[.slice la ns.length lc] w (vn λv w'=>v=.bool true/\Ext w w'):=by
 refine Vp Tryz.func6 Tryz.ntmps6 (iq.seq fu ?_);refine iq.seq fu (eL (Hs hr hl) ?_);rintro _ w1 ⟨e1,db,rfl,bB,hD⟩;refine iq.seq fu (eL (EP hD 3 (by omega)) ?_);rintro _ w2 ⟨d2,G0,da,dc,rfl,hO,ea,cb,eb⟩;have cc:=my cb;have dY:=cc.days;have dZ:=cc.tries;obtain⟨G,bC⟩:∃G,G=SA G0:=⟨_,rfl⟩;have hG:ij G=0:=by rw[bC];exact JO cb
 have bb:G.doors=G0.doors:=by rw[bC];rfl
 have ok:=my hG;have cV:=ok.days;have hm:=ok.many;have E2:Ext w w2:=JH e1 d2 bB;refine ji λw3 E e3 bD cW=>fV cW λcX k3 aA=>?_;replace aA:cX.heap[E]? =some (.cells (gL G0 da dc).toArray 24):=aA.trans (eX (λa=>some (Obj.cells a 24)) (jB (xW 24).toArray (gL G0 da dc) rfl));refine iq.jm (l0:=[(3,eT db),(4,eT E)]) (by trivial) (iq.seq fu ?_);refine eH (eB aA rfl) (P8 (fV aA λcY cZ am=>?_));replace am:cY.heap[E]? =some (.cells (gL ⟨G0.streets,G0.corner,G0.knock,G0.minutes,min G0.days 2,G0.tries,G0.doors⟩ da dc).toArray 24):=am;refine iq.jm (l0:=[(3,eT db),(4,eT E)]) (by trivial) (iq.seq fu ?_);refine eH (eB am rfl) (eH (eB am rfl) (P8 (fV am λw4 k4 bc=>?_)));replace bc:w4.heap[E]? =some (.cells (gL G da dc).toArray 24):=by rw[bC];exact bc
 have aG:Ext w2 w4:=Ext.eR (Ext.eR (Ext.eR e3 k3 bD) cZ bD) k4 bD;have s1:=e1.size;have s2:=d2.1.size;have s4:=aG.size;have ed:=hD.lt;have D4:=(d2.2 hD).ext aG;have aH:¬E=db:=by omega
 rw[<-bb]at hO;refine iq.jm (l0:=[(3,eT db),(4,eT E)]) (by trivial) (iq.seq fu (jz bc (eL (M5 (dc:=dc) D4 hG) ?_)));rintro _ w5 ⟨d5,l,s,hu,hM,hs,d0⟩;obtain⟨a,c,rfl,ee,hc⟩:=hu.row;have g5:w5.heap[E]? =some (.cells (gL G da dc).toArray 24):=d5.1.iZ bc aH;have bE:qn w1.heap.size w5 (.slice da G.doors.length dc) G.doors:=fc.keep (fc.ext hO aG) d5.1 λb I e=>by have:=(fc.blk hO I).1;omega
 have E5:Ext w w5:=JH (E2.trans aG) d5 bB;have D5:=d5.2 D4;have s5:=d5.1.size;have c0:=P9 hM;have d3:=D4.lt;refine iq.jm (l0:=[(3,eT db),(4,eT E),(5,.slice a l.length c)]) (by trivial) (iq.seq fu (fB (zH db) ?_));refine .exact (i64 (tf l)) (λw6 e6=>fw (Jz (sD.rowOf (fc.keep hu e6.1 λb I e=>by have:=(fc.blk hu I).1;omega)) (by omega)) ⟨rfl,(zH db).refl _⟩) ?_;refine .exact (i64 G.days) (λw6 e6=>eH (eB (e6.1.iZ g5 aH) rfl) ⟨rfl,(zH db).refl _⟩)<| .exact (i64 (2*G.days)) (λw6 _=>vT ⟨rfl,(zH db).refl _⟩)<| .exact (i64 (2*G.days-1)) (λw6 _=>jP ⟨rfl,(zH db).refl _⟩) ?_;refine .rel (λu _=>∃f:Nat,u=i64 f/\tf l<=f/\(f:Int)<=2*G.days-1) (λ_ _ _ h _=>h) (λw6 e6=>eL (nN (e6.2 D5) (tf l) (2*G.days-1) (by omega) (by omega) (by omega)) λu w7 ⟨⟨z,e,z1,z2⟩,d⟩=>⟨⟨z.toNat,by rw[e];congr 1;omega,by omega,by omega⟩,d⟩) ?_;refine .rel (λu _=>∃f:Nat,u=i64 f/\tf l<=f/\(f:Int)<=2*G.days-1) (λ_ _ _ h _=>h) (λw6 e6 u hu=>⟨hu,(zH db).refl _⟩) ?_;rintro w6 d6 u ⟨f,rfl,f1,f2⟩ _ _;have g6:=d6.1.iZ g5 aH;have s6:=d6.1.size;have c1:qn w1.heap.size w6 (.slice da G.doors.length dc) G.doors:=fc.keep bE d6.1 λb I e=>by have:=(fc.blk bE I).1;omega
 have cd:lM w6 da G.doors:=qn.Vq c1;have bF:sD w4.heap.size w6 (.slice a l.length c) l:=fc.keep hu d6.1 λb I e=>by have:=(fc.blk hu I).1;omega
 have bG:yr w6 a l:=sD.rowOf bF;have E6:Ext w w6:=JH (E2.trans aG) (d5.trans d6) bB;have ce:=Cd hG hM f1 f2;have ef:=ok.streets;have c2:∀t∈l,t.shift<=1000000:=λt ht=>by have:=hM.last t ht;omega
 refine iq.jm (l0:=[(4,eT E),(5,.slice a l.length c),(6,i64 (f:Nat))]) (by trivial)<|iq.seq fu (iq.seq fu ?_);refine iq.yA (iq.seq fu ?_);refine iq.jm (l0:=[(4,eT E),(5,.slice a l.length c),(6,i64 (f:Nat)),(7,ig),(8,ig),(9,i64 (0:Nat))]) (by trivial) ?_;obtain⟨m,eg⟩:∃m,m=w6.heap.size:=⟨_,rfl⟩;refine jr G.doors.length (λi (x:eu×eu×fD)=>[(4,eT E),(5,.slice a l.length c),(6,i64 (f:Nat)),(7,x.1),(8,x.2.1),(9,i64 i)]) (λi x w'=>Ext w6 w'/\GC m 3 1 w' x.1 (kN G l i).length (gU (kN G l i))/\GC m 66 1 w' x.2.1 (kN G l i).length x.2.2/\Sz (AQ x.1 (kN G l i).length x.2.1) w' x.2.2 ((kN G l i).map λd=>mh G l d f)) (ig,ig,[]) ⟨by trivial,Ext.refl _,GC.nil _ _ _ _,GC.nil _ _ _ _,rfl,λi hi=>by simp[kN]at hi⟩ ?_;rintro i ⟨nv,lv,us⟩ w7 hi ⟨e7,hN,hL,hQ⟩;simp only at hN hL hQ;have g7:=e7.at_ g6;refine eH (eB g7 rfl) (fe (fO ⟨λag=>?_,λc4=>?_⟩));have cf:i<G.doors.length:=by simpa using ag
 refine jz g7 (hH (xn (dc:=dc) (lc:=c) (bG.ext e7) (by omega) i) λw8 e8=>gT ⟨λX=>?_,λX=>?_⟩);have X:sC G l i=false:=by simpa using X
 have aq:kN G l (i+1)=kN G l i++[i]:=by rw[Dv,X];rfl
 have eh:(kN G l i).length<=i:=by have:=List.length_filter_le (λd=>!sC G l d) (List.range i);rw[List.length_range]at this;exact this
 have bd:=e7.trans e8;have g8:=e8.at_ g7;have ei:=bG.ext bd;obtain⟨n1,ej⟩:∃n1,n1=w8.heap.size:=⟨_,rfl⟩;have cg:m<=n1:=by have:=bd.size;omega
 have aI:GC m 3 1 w8 nv (kN G l i).length (gU (kN G l i)):=hN.to λx n hg=>hg.keep (e8.keep λ_=>False) id;have aJ:GC m 66 1 w8 lv (kN G l i).length us:=hL.to λx n hg=>hg.keep (e8.keep λ_=>False) id;have c5:=hQ.go (A':=AQ nv (kN G l i).length lv) (λb j h=>.inl h) λb o v _ hv=>e8.cell hv;have aB:∀b,eG nv b->m<=b/\b<n1:=λb I=>by obtain⟨q1,cs,R⟩:=aI.blk I;have:=eV.lt_of_heap R;exact⟨q1,by omega⟩
 have bH:∀b,eG lv b->m<=b/\b<n1:=λb I=>by obtain⟨q1,cs,R⟩:=aJ.blk I;have:=eV.lt_of_heap R;exact⟨q1,by omega⟩
 have ch:∀b,eG lv b->¬eG nv b:=λb I bI=>by obtain⟨_,cs,R⟩:=aJ.blk I;obtain⟨_,c6,q3⟩:=aI.blk bI;exact ia R q3 (by decide)
 obtain⟨Z,be⟩:∃Z,Z=gU (kN G l i)++[Value.int .i64 i]:=⟨_,rfl⟩;have bq:Z.length=(kN G l i).length+1:=by rw[be];simp[gU]
 have hE:=Vu (eG nv) 3 66 (gU (kN G l i)) Z us us;have c7:=Vu (λb=>eG nv b\/eG lv b) 3 66 (gU (kN G l i)) Z us us;have F':∀b,(eG nv b\/eG lv b)->m<=b/\b<n1:=λb h=>h.elim (aB b) (bH b);refine kD 11 hE c7 (λa b h=>h.more λ_ h=>.inl h) ?_;refine .rel (λv S=>∃nb,v=fP nb 1 1/\n1<=nb/\S.heap[nb]? =some (.cells [Value.int .i64 i].toArray 3)) (λv a b ⟨nb,q1,R,q3⟩ e=>⟨nb,q1,R,e.k.iZ q3 λh=>by have:=F' _ h;omega⟩) (λS e9=>ie [Value.int .i64 i] 3 λak nb al bJ an=>⟨⟨nb,rfl,by have:=e9.k.size;omega,an⟩,al.ec _ _ _ _ _ _ _⟩) ?_;refine .rel (Dy n1 3 [i64 0] nv (kN G l i).length Z) (λv a b h e=>h.to (λx n=>e.p x n _ (.inr rfl)) e.k λx hx=>(F' x hx).2) (λS e9 v9 h9=>?_) ?_;obtain⟨nb,rfl,bJ,aK⟩:∃nb,v9=fP nb 1 1/\n1<=nb/\S.heap[nb]? =some (.cells [Value.int .i64 i].toArray 3):=h9;exact Lh vk (aI.to λx n=>e9.p x n _ (.inl rfl)) aK (by omega) λv' ak q1 R q3=>⟨by rw[be];exact q1.low (by have:=e9.k.size;omega),R,λx n ar h=>q3 x n ar 3 (.inr (by rw[<-be];exact h)),λx n ar h=>q3 x n ar 66 (.inl (by decide))⟩;refine .exact (gV G da dc) (λS e9=>jz (e9.k.iZ g8 λh=>by have:=F' _ h;have:=eV.lt_of_heap g6;omega) ⟨rfl,hE.refl _⟩) ?_;refine .rel (λv S=>iW n1 S v (mh G l i f)) (λv a b h e=>h.BT e.k λx hx=>(F' x hx).2) (λS e9=>?_) ?_
 ·have aC:sD w4.heap.size S (.slice a l.length c) l:=fc.keep (fc.ext bF bd) e9.k λb I hf=>by
   have:=F' b hf;have:=(fc.blk bF I).2;omega
  repeat intro _
  exact eL (Ce (da:=da) (dc:=dc) (lc:=c) cV (sD.rowOf aC) (by omega) c2 i f) λv ak ⟨al,c8⟩=>⟨c8.low (by have:=e9.k.size;omega),al.ec _ _ _ _ _ _ _⟩
 refine .rel (λv S=>∃nb u,v=fP nb 1 1/\n1<=nb/\S.heap[nb]? =some (.cells [u].toArray 66)/\iW n1 S u (mh G l i f)) (λv a b ⟨nb,u,q1,R,q3,q4⟩ e=>⟨nb,u,q1,R,e.k.iZ q3 λh=>by have:=F' _ h;omega,q4.BT e.k λx hx=>(F' x hx).2⟩) (λS e9 c9 bf=>?_) ?_
 ·have bf:iW n1 S c9 (mh G l i f):=bf;have cj:=bf;obtain⟨a',c',rfl,_⟩:=cj.row;repeat intro _
  exact ie [.slice a' (mh G l i f).length c'] 66 λak nb al bJ an=>⟨⟨nb,_,rfl,by have:=e9.k.size;omega,an,bf.ext al⟩,al.ec _ _ _ _ _ _ _⟩
 refine .spec (λv S=>∃u,Dy n1 66 [ig] lv (kN G l i).length (us++[u]) v S/\iW n1 S u (mh G l i f)) (λv a b ⟨u,q1,R⟩ e=>⟨u,q1.PZ e.k ch λx hx=>(aB x hx).2,R.BT e.k λx hx=>(aB x hx).2⟩) (λS e9 dd de=>?_) ?_
 ·obtain⟨nb,u,rfl,bJ,aK,aC⟩:∃nb u,dd=fP nb 1 1/\n1<=nb/\S.heap[nb]? =some (.cells [u].toArray 66)/\iW n1 S u (mh G l i f):=de;have ck:tg [u]=true:=by obtain⟨a',c',rfl,_⟩:=aC.row;rfl
  repeat intro _
  exact Lh Vj (aJ.to λx n=>e9.q x n _ (.inl rfl)) aK (by omega) (λv' ak q1 R q3=>⟨⟨u,q1.low (by have:=e9.k.size;omega),aC.BT R λx hx=>(bH x hx).2⟩,R.trans (eY.refl (λ_=>False) _) (λx _ hx=>.inr hx) λ_ _ h=>h.elim,λx n ar h=>q3 x n ar 3 (.inl (by decide)),λx n ar h=>q3 x n ar 66 (.inr (.inl (h.elim id id)))⟩) rfl ck
 refine .rel (Dy n1 3 [i64 0] nv (kN G l i).length Z) (λv a b h e=>h.to (λx n=>e.p x n _ (.inr rfl)) e.k λx hx=>(F' x hx).2) (λS e9=>?_) ?_
 ·intro v1 _ v2 h2;have h2:Dy n1 3 [i64 0] nv (kN G l i).length Z v2 S:=h2;repeat intro _
  exact⟨h2,hE.refl _⟩
 refine .late rfl (λv S=>∃u,Dy n1 66 [ig] lv (kN G l i).length (us++[u]) v S/\iW n1 S u (mh G l i f)) (λv a b ⟨u,q1,R⟩ e=>⟨u,q1.PZ e.k ch λx hx=>(aB x hx).2,R.BT e.k λx hx=>(aB x hx).2⟩) (λS e9=>?_) ?_
 ·intro v1 X v2 h2;repeat intro _
  first
   |exact⟨X,hE.refl _⟩
   |exact⟨h2,hE.refl _⟩
 rintro S e9 v8 ⟨u,aL,df⟩ v7 h7;have h7:Dy n1 3 [i64 0] nv (kN G l i).length Z v7 S:=h7;intro _ _ _ _ _ _ _ _ _ _;have aM:(kN G l (i+1)).length=(kN G l i).length+1:=by rw[aq];simp
 have cl:us.length=(kN G l i).length:=by have:=aJ.1;omega
 have bg:∀r∈mh G l i f,r.Pairwise (·<·):=λr hr=>by unfold mh at hr;obtain⟨t,ht,rfl⟩:=iX.1 hr;obtain⟨_,t2⟩:=vg (ku.1 ht).1;exact(nf (q:=λ_=>false) (f:=0) (a:=0) (b:=0) t2 G.days.toNat).1.imp λh=>by omega
 obtain⟨ua,uc,dg,dh,di⟩:=df.Wv bg (λb I=>(aB b I).2) (λb I=>(bH b I).2) h7 bq aL;have dj:=h7.gc aI cg (by rw[bq];simp);have dk:=aL.gc aJ cg (by simp[cl])
 have bK:∀b o v,¬AQ nv (kN G l i).length lv b o->w8.cell? (eQ b o)=some v->S.cell? (eQ b o)=some v:=λb o v hA hv=>by
  by_cases I:eG nv b;have ho:o<(kN G l i).length:=yF λh=>hA (.inl ⟨I,h⟩);obtain⟨_,⟨_,R⟩|⟨b',c',q1,R,q3,q4⟩⟩:=aI;rw[R]at I;obtain⟨_,_,I⟩:=I;cases I;rw[R]at I;have dl:=lH (l':=0) (c':=0) I;subst dl;have q5:=e9.p _ _ _ (.inl rfl) q4;have q6:(gU (kN G l i))[o]? =some (i64 ((kN G l i)[o]:Nat)):=by simp[gU,gC ho]
  obtain⟨cs,r1,_,r2⟩:=q4;obtain⟨c6,r3,_,r4⟩:=q5;have r5:=eB r1 (r2 o _ q6);rw[hv]at r5;rw[eP r5];exact eB r3 (r4 o _ q6);exact e9.k.gM hv λh=>h.elim I λh=>hA (.inr h)
 refine eK ⟨cf,(v7,v8,us++[u]),by trivial,bd.xg e9.k λb I=>by have:=F' b I;omega,?_,?_,?_⟩;have:gU (kN G l (i+1))=Z:=by rw[aq,be];simp[gU]
 rw[aM,this];exact dj;rw[aM];exact dk;have cm:(kN G l (i+1)).map (λd=>mh G l d f)=(kN G l i).map (λd=>mh G l d f)++[mh G l i f]:=by rw[aq];simp
 rw[aM,cm];refine(c5.go (λb j hA=>?_) bK).snoc dg dh di;obtain⟨hA,hj⟩|hA:=hA;obtain⟨b',c',q1,R,_,_⟩|h7:=h7;rw[R]at hA;have:=lH (l':=0) (c':=0) hA;subst this;exact .inl (.inl ⟨⟨_,_,q1⟩,by omega⟩);have:=(fc.blk h7 hA).1;exact .inr (by omega);obtain⟨b',c',q1,R,_,_⟩|aL:=aL;rw[R]at hA;have:=lH (l':=0) (c':=0) hA;subst this;exact .inl (.inr ⟨_,_,q1⟩);have:=(fc.blk aL hA).1;exact .inr (by omega);have X:sC G l i=true:=by simpa using X
 have aq:kN G l (i+1)=kN G l i:=by rw[Dv,X];rfl
 refine eK ⟨cf,(nv,lv,us),by trivial,e7.trans e8,?_,?_,?_⟩;rw[aq];exact hN.to λx n hg=>hg.keep (e8.keep λ_=>False) id;rw[aq];exact hL.to λx n hg=>hg.keep (e8.keep λ_=>False) id;rw[aq];exact hQ.go (λb j h=>.inl h) λb o v _ hv=>e8.cell hv;obtain rfl:i=G.doors.length:=by simp at c4;omega
 obtain⟨O,bL⟩:∃O,O=kN G l G.doors.length:=⟨_,rfl⟩;rw[<-bL]at hN hL hQ;obtain⟨xs,aN⟩:∃xs,xs=(List.range G.doors.length).map (iC l):=⟨_,rfl⟩;have br:lx G (l.map Se)=(0,xs):=by rw[hM.log,aN]
 have cn:xs.length=G.doors.length:=by rw[aN,jU,List.length_range]
 have hO:O=eO G.tries xs:=by rw[bL,aN,JG]
 have bh:O.Nodup:=by rw[hO];exact ur _ _
 have co:∀d∈O,d<G.doors.length:=λd hd=>by rw[hO]at hd;have:=jH hd;omega
 have bE:O.length<=5:=ff (qg _ _ bh co) hm;obtain⟨oa,oc,rfl,dm⟩:=Sy hN;have aa:=Sw (l:=l) (f:=f) ok (O:=O) (by rw[hO,aN]);rw[<-aN]at aa;have aO:=cd.ext e7;have cp:=bG.ext e7;have bs:=EZ (dc:=dc) (lc:=c) aO (by omega) cp.q (by rw[jU];omega) (f:Nat);rw[jU,br]at bs;refine iq.jm (l0:=[(4,eT E),(5,.slice a l.length c),(6,i64 (f:Nat)),(7,.slice oa O.length oc),(8,lv)]) ⟨rfl,rfl,rfl,by rw[bL];rfl,rfl,trivial⟩ (iq.seq fu (jz g7 (jY bs (λw' h=>.inr ⟨rfl,h⟩) ?_)));rintro _ w8 ⟨e8,⟨h,_⟩|⟨_,rfl⟩⟩;exact absurd ce h;rw[show(nL (fi G xs ((f:Nat):Int).toNat))=nL (fi G xs f)from rfl];have bt:=Bx (dc:=dc) (lc:=c) (aO.ext e8) (by omega) (cp.ext e8).q (by rw[jU];omega) (f:Nat);rw[jU,br]at bt;obtain⟨H,Y,dn,dp⟩:∃H Y:Int,Sn (nL (fi G xs f))=.tuple #[i64 H,i64 Y]/\((fL (fi G xs f)=none/\H=0/\Y=11)\/∃ql kk,fL (fi G xs f)=some (ql,H,kk)/\Y=0):=by
  unfold nL;cases I:fL (fi G xs f)with
  |none=>exact⟨0,11,rfl,.inl ⟨rfl,rfl,rfl⟩⟩
  |some x=>exact⟨x.2.1,0,rfl,.inr ⟨x.1,x.2.2,rfl,rfl⟩⟩
 rw[dn];refine iq.jm (l0:=[(4,eT E),(5,.slice a l.length c),(6,i64 (f:Nat)),(7,.slice oa O.length oc),(8,lv),(10,i64 H),(11,i64 Y)]) (by trivial) (iq.seq fu (jz (e8.at_ g7) (jY bt (λw' h=>.inr ⟨rfl,h⟩) ?_)));rintro dq S ⟨e9,⟨h,_⟩|⟨_,hv⟩⟩;exact absurd ce h;obtain⟨J,T,M,U,rfl,bM⟩:∃(J:fR) (T M:Nat) (U:Int),dq=.tuple #[.slice J T M,i64 U]/\((fL (fi G xs f)=none/\T=0/\U=11)\/∃ps,ny G (fi G xs f)=some ps/\T=ps.length/\U=0/\sn S J ps/\ps.length<=1000):=by
  cases I:fL (fi G xs f)with
  |none=>
   have ac:ny G (fi G xs ((f:Nat):Int).toNat)=none:=by show ny G (fi G xs f)=none;unfold ny;rw[I]
   rw[ac]at hv;obtain rfl:=hv;exact⟨none,0,0,11,rfl,.inl ⟨rfl,rfl,rfl⟩⟩
  |some x=>
   obtain⟨ql,mm,kk⟩:=x;obtain⟨ps,p1,p2,p3,_⟩:=So ok cn f I;have ac:ny G (fi G xs ((f:Nat):Int).toNat)=some ps:=p1;rw[ac]at hv;obtain⟨u,rfl,aC⟩:=hv;obtain⟨J,M,rfl,bN,ek⟩:=aC.row;have bM:=p2.short ok p3;exact⟨J,ps.length,M,0,rfl,.inr ⟨ps,p1,rfl,rfl,bN,by omega⟩⟩
 refine iq.jm (l0:=[(4,eT E),(7,.slice oa O.length oc),(8,lv),(10,i64 H),(11,i64 Y),(12,.slice J T M),(13,i64 U)]) (by trivial) ?_;have au:=e8.trans e9;have g9:=au.at_ g7;have dr:=dm.ext au;obtain⟨A,g,rfl,el,em⟩:=hL.cells;have ds:Sz (λ_ _=>False) S us (O.map λd=>mh G l d f):=hQ.go (λb j h=>h.elim) λb o v _ hv=>au.cell hv;have dt:GC m 66 1 S (.slice A O.length g) O.length us:=hL.to λx n hg=>hg.keep (au.keep λ_=>False) id;refine iq.seq fu<|iq.seq fu (fe (A5 vk (eF _) (by omega) λak B al du an=>?_));have aP:ak.heap[B]? =some (.cells (gU (List.replicate O.length 0)).toArray 3):=by rw[an,xa];simp[gU]
 obtain⟨L,aj⟩:∃L,L=Ib G l f O:=⟨_,rfl⟩;have bO:L.length=O.length:=by rw[aj];exact jU ..
 have bi:∀n∈L,0<n:=by rw[aj];exact Ll O
 have av:=Lg bi;obtain⟨N,bj⟩:∃N,N=BV L:=⟨_,rfl⟩;obtain⟨F,hF⟩:∃F,F=Ng G l f O:=⟨_,rfl⟩;rw[<-aj,<-hF,<-bj]at aa;rw[<-bj]at av;have d4:=eV.lt_of_heap aP;have d7:=(e7.trans au).trans al;refine iq.jm (l0:=[(4,eT E),(7,.slice oa O.length oc),(8,.slice A O.length g),(10,i64 H),(11,i64 Y),(12,.slice J T M),(13,i64 U),(14,.bool false),(15,i64 0),(16,i64 0),(17,fP B O.length O.length)]) (by trivial)<|iq.yA (iq.seq fu ?_);refine iq.jm (l0:=[(4,eT E),(7,.slice oa O.length oc),(8,.slice A O.length g),(10,i64 H),(11,i64 Y),(12,.slice J T M),(13,i64 U),(14,.bool false),(15,i64 0),(16,i64 0),(17,fP B O.length O.length),(18,.bool true)]) (by trivial) ?_;refine EY N (λk (_:Unit)=>[(4,eT E),(7,.slice oa O.length oc),(8,.slice A O.length g),(10,i64 H),(11,i64 Y),(12,.slice J T M),(13,i64 U),(14,.bool (eW F k).1),(15,i64 (eW F k).2.1),(16,i64 (eW F k).2.2),(17,fP B O.length O.length),(18,.bool (decide (k<N)))]) (λk _ w'=>eY (λx=>x=B) ak w'/\w'.heap[B]? =some (.cells (gU (ti L (if k<N then k else 0))).toArray 3)) () ⟨⟨rfl,rfl,rfl,rfl,rfl,rfl,rfl,rfl,rfl,rfl,rfl,by rw[decide_eq_true av];rfl,trivial⟩,eY.refl _ _,by rw[eC av,yC,bO];exact aP⟩ ?_;rintro k _ ad hk ⟨cq,ae⟩;have af:Ext S ad:=Ext.eR al cq du;have dv:=af.at_ g9;have cr:=dr.ext af;have aQ:GC m 66 1 ad (.slice A O.length g) O.length us:=dt.to λx n hg=>hg.keep (af.keep λ_=>False) id;have bu:Sz (λ_ _=>False) ad us (O.map λd=>mh G l d f):=ds.go (λb j h=>h.elim) λb o v _ hv=>af.cell hv;refine iq.seq fu ⟨λaw=>?_,λaw=>?_⟩;rotate_left;have aD:k=N:=by have:=gJ aw;omega
 rw[aD];have ct:Ext w ad:=(E6.trans e7).trans (au.trans af);obtain⟨I,dw,cu⟩|⟨ql,kk,I,dx⟩:=dp;rw[I]at aa;have aa:(eW F N).1=false:=aa;obtain⟨dy,cv⟩:T=0/\U=11:=by obtain⟨_,X,h2⟩|⟨ps,X,_⟩:=bM;exact⟨X,h2⟩;unfold ny at X;rw[I]at X;cases X
 subst dw cu dy cv;rw[aa];refine iq.jm (l0:=[(10,i64 0),(11,i64 11),(12,.slice J 0 M),(13,i64 11),(14,.bool false)]) (by trivial)<|iq.yA (iq.of fu (gT (lq rfl ?_)));refine iL (lq rfl (iL (lq rfl (iL (lq rfl (fe (iL (lq rfl (jY (za ad) (λw' h=>.inr ⟨rfl,h⟩) ?_)))))))));rintro v aR ⟨rfl,aS⟩;exact .inl ⟨_,rfl,rfl,ct.trans aS⟩;rw[I]at aa;have aa:eW F N=(true,H,kk):=aa;obtain⟨ps,ac,dz,dA,bN,aT⟩:∃ps,ny G (fi G xs f)=some ps/\T=ps.length/\U=0/\sn S J ps/\ps.length<=1000:=by obtain⟨X,_⟩|h:=bM;rw[I]at X;cases X;exact h
 obtain⟨dB,dC⟩:=H1 ok cn I ac;subst dx dz dA;rw[aa];have dD:=Fa (c:=M) (bN.Ws af) aT;refine iq.jm (l0:=[(10,i64 H),(11,i64 0),(12,.slice J ps.length M),(13,i64 0),(14,.bool true),(15,i64 H),(16,i64 kk)]) (by trivial)<|iq.yA (iq.of fu (gT (nU rfl ?_)));refine iq.yA (mJ.start (mJ.cut 3 fu (iL ?_)));refine mJ.jm (l0:=[(10,i64 H),(12,.slice J ps.length M),(13,i64 0),(15,i64 H),(16,i64 kk),(216,.bool true)]) (by trivial) (mJ.cut 4 fu (lq rfl (iL ?_)));refine mJ.jm (l0:=[(10,i64 H),(12,.slice J ps.length M),(15,i64 H),(16,i64 kk),(220,.bool true)]) (by trivial) (mJ.cut 5 fu (lq rfl (iL ?_)));refine mJ.jm (l0:=[(12,.slice J ps.length M),(15,i64 H),(16,i64 kk),(225,.bool true)]) ⟨rfl,rfl,rfl,eX (λb=>some (Value.bool b)) (decide_eq_true rfl),trivial⟩ (mJ.cut 6 fu (lq rfl (hH dD λaR aS=>iL ?_)));refine mJ.jm (l0:=[(12,.slice J ps.length M),(16,i64 kk),(231,.bool true)]) ⟨rfl,rfl,eX (λb=>some (Value.bool b)) (decide_eq_true dB),trivial⟩ (mJ.cut 6 fu (lq rfl (fe (iL ?_))));refine mJ.jm (l0:=[(237,.bool true)]) ⟨eX (λb=>some (Value.bool b)) (decide_eq_true dC),trivial⟩ (mJ.cut 3 fu (lq rfl (jY (za aR) (λw' h=>.inr ⟨rfl,h⟩) ?_)));rintro v aE ⟨rfl,dE⟩;exact mJ.fin (iq.of fu (.inl ⟨_,rfl,rfl,ct.trans (aS.trans dE)⟩));have aD:k<N:=fQ aw;rw[eC aD]at ae;have d8:B<ad.heap.size:=eV.lt_of_heap ae;refine iq.block (iq.seq fu (fe (A5 OK (eF _) (by omega) λaR sb aS dF cw=>?_)));have bP:aR.heap[sb]? =some (.cells (List.replicate O.length (Value.slice none 0 0)).toArray 27):=by rw[cw,xa];simp
 obtain⟨ps,ac⟩:∃ps,ps=ti L k:=⟨_,rfl⟩;rw[<-ac]at ae;have d9:ps.length=O.length:=by rw[ac,HT,bO]
 obtain⟨ts,bQ⟩:∃ts,ts=Uy G l f O ps:=⟨_,rfl⟩;have bv:ts.length=O.length:=by rw[bQ];simp[Uy]
 have en:us.length=O.length:=by rw[bu.1,jU]
 have aU:∀i (hi:i<O.length),∃lb ai ci,A=some (eQ lb 0)/\ad.cell? (eQ lb (0+i))=some (.slice ai (mh G l O[i] f).length ci)/\vm ad ai (mh G l O[i] f):=λi hi=>by obtain⟨a',c',q1,_,R⟩:=aQ.cells;injection q1 with q1;obtain⟨lb,q3,_,q4⟩:=R i (by omega);obtain⟨ai,ci,q5,q6,_⟩:=bu.2 i (by simpa using hi);simp only[List.getElem_map]at q5 q6;refine⟨lb,ai,ci,by rw[q1];exact q3,?_,q6.row⟩;rw[eJ];exact q4 _ _ q5
 have aV:∀i (hi:i<O.length) (cx:i<ts.length),ts[i]=(mh G l O[i] f).getD (ps.getD i 0) []:=λi hi cx=>by have:=JM bh (G:=G) (l:=l) (f:=f) (ps:=ps) hi;rw[<-this];unfold Lj;rw[<-bQ];have X:=List.idxOf_lt_length_of_mem (ft hi);have cy:O.idxOf O[i]=i:=(List.getElem_inj bh).1 (List.getElem_idxOf X);rw[cy,getD_eq cx]
 have dG:∀i (hi:i<O.length),0<(mh G l O[i] f).length->ps.getD i 0<(mh G l O[i] f).length:=λi hi h0=>by
  have X:=zZ bi k i (by omega);have h2:L[i]'(by omega)=max 1 (mh G l O[i] f).length:=by subst aj;simp[Ib]
  rw[h2,<-ac]at X;omega
 refine iq.seq fu<|iq.yA (iq.seq fu ?_);refine iq.jm (l0:=[(4,eT E),(7,.slice oa O.length oc),(8,.slice A O.length g),(10,i64 H),(11,i64 Y),(12,.slice J T M),(13,i64 U),(14,.bool (eW F k).1),(15,i64 (eW F k).2.1),(16,i64 (eW F k).2.2),(17,fP B O.length O.length),(19,fP sb O.length O.length),(20,.bool true),(21,i64 (0:Nat))]) (by trivial)<|EY O.length (λi (_:fD)=>[(4,eT E),(7,.slice oa O.length oc),(8,.slice A O.length g),(10,i64 H),(11,i64 Y),(12,.slice J T M),(13,i64 U),(14,.bool (eW F k).1),(15,i64 (eW F k).2.1),(16,i64 (eW F k).2.2),(17,fP B O.length O.length),(19,fP sb O.length O.length),(20,.bool ((O.take i).all λd=>decide (0<(mh G l d f).length))),(21,i64 i)]) (λi vs w'=>eY (λx=>x=sb) aR w'/\gY w' sb vs.toArray 27/\vs.length=O.length/\(∀j (hj:j<O.length),j<i->∃a c,vs[j]? =some (.slice a (ts[j]'(by omega)).length c)/\iM ad a (ts[j]'(by omega))/\(ts[j]'(by omega)).length<=c)/\∀j,i<=j->j<O.length->vs[j]? =some ig) (List.replicate O.length ig) ⟨by trivial,eY.refl _ _,bP,by simp,λj hj h=>by omega,λj _ hj=>by simp[hj]⟩ ?_;rintro i vs aE hi ⟨bR,aW,cz,bS,bT⟩;have W:Ext ad aE:=Ext.eR aS bR dF;refine iq.seq fu (fe (fO ⟨λcA=>?_,λcB=>?_⟩))
 ·have C:i<O.length:=by simpa using cA
  obtain⟨lb,ai,ci,rfl,aX,cC⟩:=aU i C;obtain⟨fb,aY⟩:∃fb,fb=(O.take i).all λd=>decide (0<(mh G l d f).length):=⟨_,rfl⟩;have dH:((O.take (i+1)).all λd=>decide (0<(mh G l d f).length))=(fb&&decide (0<(mh G l O[i] f).length)):=by rw[kM C,List.all_append,<-aY];simp
  rw[<-aY];refine iq.yA (iq.block ?_);have aZ:=W.cell aX;refine iq.seq fu ?_;refine(λ(bw:∀b',b'=(fb&&decide (0<(mh G l O[i] f).length))->iq V.prog 240 _ [(4,eT E),(7,.slice oa O.length oc),(8,fP lb O.length g),(10,i64 H),(11,i64 Y),(12,.slice J T M),(13,i64 U),(14,.bool (eW F k).1),(15,i64 (eW F k).2.1),(16,i64 (eW F k).2.2),(17,fP B O.length O.length),(19,fP sb O.length O.length),(20,.bool b'),(21,i64 i)] aE _)=>⟨λh=>gN i C (eH aZ (fe (vw (iq.jm (l0:=[(4,eT E),(7,.slice oa O.length oc),(8,fP lb O.length g),(10,i64 H),(11,i64 Y),(12,.slice J T M),(13,i64 U),(14,.bool (eW F k).1),(15,i64 (eW F k).2.1),(16,i64 (eW F k).2.2),(17,fP B O.length O.length),(19,fP sb O.length O.length),(20,.bool (decide ((0:Int)<(mh G l O[i] f).length))),(21,i64 i)]) (by trivial) (bw _ ?tagA))))),λh=>iq.jm (l0:=[(4,eT E),(7,.slice oa O.length oc),(8,fP lb O.length g),(10,i64 H),(11,i64 Y),(12,.slice J T M),(13,i64 U),(14,.bool (eW F k).1),(15,i64 (eW F k).2.1),(16,i64 (eW F k).2.2),(17,fP B O.length O.length),(19,fP sb O.length O.length),(20,.bool false),(21,i64 i)]) (by trivial) (bw _ ?tagB)⟩) ?tagC;case tagA=>rw[h,Bool.true_and];exact decide_eq_decide.2 (by omega)
  case tagB=>rw[h];rfl
  case tagC=>
  intro b' bI;have cD:some (Value.bool b')=some (.bool ((O.take (i+1)).all λd=>decide (0<(mh G l d f).length))):=by rw[dH,<-bI]
  refine iq.of fu (gN i C (eH aZ (fe (vw ⟨λa0=>?_,λa1=>?_⟩))));have a0:0<(mh G l O[i] f).length:=by have:=fQ a0;omega
  have ax:i<ps.length:=by omega
  have bU:i<ts.length:=by omega
  obtain⟨q,hq⟩:∃q,q=ps.getD i 0:=⟨_,rfl⟩;have bk:=dG i C a0;rw[<-hq]at bk;have bV:aE.cell? (eQ B (0+i))=some (i64 (q:Nat)):=by refine W.cell (eB ae ?_);rw[eJ,hq,getD_eq ax];simp[gU,gC ax]
  obtain⟨b2,o2,a3,c3,rfl,dI,dJ,cE⟩:=cC q bk;have bW:ts[i]=(mh G l O[i] f)[q]:=by rw[aV i C bU,<-hq,getD_eq bk]
  refine fB fl<| .exact (oJ lb (0+i)) (λab D=>gN i C iJ)<| .exact (Ie b2 o2 (mh G l O[i] f).length ci) (λab D=>eH (D.cell aZ) iJ)<| .exact (oJ B (0+i)) (λab D=>gN i C iJ)<| .exact (i64 (q:Nat)) (λab D=>eH (D.cell bV) iJ)<| .exact (oJ b2 (o2+q)) (λab D=>gN q bk iJ)<| .exact (.slice a3 (mh G l O[i] f)[q].length c3) (λab D=>eH (D.cell (W.cell dI)) iJ)<| .exact (oJ sb (0+i)) (λab D=>gN i C iJ) ?_;intro ab D;refine kY (D.at_ aW) (by simp[Value.cells];omega) (λaF a2 cF=>?_) (iK rfl);have bX:aF.heap[sb]? =some (.cells (vs.set i (.slice a3 (mh G l O[i] f)[q].length c3)).toArray 27):=by rw[cF];simp[jk,Value.cells]
  refine iq.of fu (eK ⟨C,vs.set i (.slice a3 (mh G l O[i] f)[q].length c3),⟨rfl,rfl,rfl,rfl,rfl,rfl,rfl,rfl,rfl,rfl,rfl,rfl,cD,rfl,trivial⟩,bR.trans ((D.keep _).trans a2 (λ_ _ h=>h) λ_ _ h=>h) (λ_ _ h=>h) λ_ _ h=>h,bX,by rw[oS];exact cz,λj hj bY=>?_,λj dK hj=>?_⟩);obtain h|rfl:=Nat.lt_succ_iff_lt_or_eq.1 bY;rw[List.getElem?_set_ne (by omega)];exact bS j hj h;rw[List.getElem?_set_self (by omega)];refine⟨a3,c3,by rw[bW],?_,?_⟩;rw[bW];exact dJ;rw[bW];exact cE;rw[List.getElem?_set_ne (by omega)];exact bT j (by omega) hj;have a1:(mh G l O[i] f).length=0:=by have:=gJ a1;omega
  have bU:i<ts.length:=by omega
  have bZ:ts[i]=[]:=by rw[aV i C bU,nC a1];rfl
  refine iq.of fu (eK ⟨C,vs,⟨rfl,rfl,rfl,rfl,rfl,rfl,rfl,rfl,rfl,rfl,rfl,rfl,cD,rfl,trivial⟩,bR,aW,cz,λj hj bY=>?_,λj dK hj=>bT j (by omega) hj⟩);obtain h|rfl:=Nat.lt_succ_iff_lt_or_eq.1 bY;exact bS j hj h;refine⟨none,0,?_,?_,?_⟩;rw[bT j (eF _) hj,bZ];rfl;rw[bZ];exactλx hx=>by simp at hx
  rw[bZ];exact eF _
 ·obtain rfl:i=O.length:=by have:¬(i:Int)<(O.length:Int):=gJ cB;omega
  rw[mI];obtain⟨fb,aY⟩:∃fb,fb=O.all λd=>decide (0<(mh G l d f).length):=⟨_,rfl⟩;rw[<-aY];have dL:=W.at_ dv;have cG:vm aE (qh sb 0) ts:=λj hj=>by obtain⟨a',c',q1,R,q3⟩:=bS j (by omega) (by omega);exact⟨sb,0,a',c',rfl,eB aW (by rw[eJ];simpa using q1),R.ext W,q3⟩
  have dM:∀t∈ts,t.length<=1000:=λt ht=>by
   obtain⟨j,hj,rfl⟩:=List.getElem_of_mem ht;rw[aV j (by omega) hj];obtain h|h:=gQ (ps.getD j 0) (mh G l (O[j]'(by omega)) f).length;rw[getD_eq h];obtain⟨r,hr⟩:∃r,r=(mh G l (O[j]'(by omega)) f)[ps.getD j 0]:=⟨_,rfl⟩;rw[<-hr];have a4:r∈mh G l (O[j]'(by omega)) f:=by rw[hr];exact ft h
   have X:=Qk ok a4;have h2:=mA ok;unfold mh at a4;obtain⟨t',dN,he⟩:=iX.1 a4;obtain⟨_,t2⟩:=vg (ku.1 dN).1;have h3:=(nf (q:=λ_=>false) (f:=0) (a:=0) (b:=0) t2 G.days.toNat).1;rw[he]at h3;have h4:=qg 6 _ (h3.imp λh e=>by subst e;omega) λx hx=>by have:=X x hx;omega
   omega;rw[kL,Cm h];exact iQ _
  have bx:=HY (dc:=dc) (lc:=oc) (tc:=O.length) ((aO.ext au).ext (af.trans W)) hG (cr.ext W) bh co cG bv dM;rw[bv]at bx;obtain⟨x,y,z,b0,dO⟩:∃x y z,Vv (xA G O (Lj O ts))=.tuple #[i64 x,i64 y,.bool z]/\((z=true/\xA G O (Lj O ts)=some (x,y))\/(z=false/\xA G O (Lj O ts)=none)):=by
   cases xA G O (Lj O ts)with
   |none=>exact⟨0,0,false,rfl,.inr ⟨rfl,rfl⟩⟩
   |some p=>exact⟨p.1,p.2,true,rfl,.inl ⟨rfl,rfl⟩⟩
  have b1:F k=if fb then xA G O (Lj O ts)else none:=by rw[hF,aY,bQ,ac,aj];rfl
  refine iq.yA (iq.mono (Q:=λe l' w'=>e=.normal/\Sub [(4,eT E),(7,.slice oa O.length oc),(8,.slice A O.length g),(10,i64 H),(11,i64 Y),(12,.slice J T M),(13,i64 U),(14,.bool (yD (eW F k) (F k)).1),(15,i64 (yD (eW F k) (F k)).2.1),(16,i64 (yD (eW F k) (F k)).2.2),(17,fP B O.length O.length)] l'/\Ext aE w') ?_ ?_);rotate_left;refine iq.seq fu (jz dL (eL bx ?_));rintro _ ab ⟨D,rfl⟩;rw[b0];have bl:∀a5,yD (eW F k) (F k)=a5->some (Value.bool a5.1)=some (.bool (yD (eW F k) (F k)).1)/\some (Value.int .i64 a5.2.1)=some (i64 (yD (eW F k) (F k)).2.1)/\some (Value.int .i64 a5.2.2)=some (i64 (yD (eW F k) (F k)).2.2):=λa5 h=>by rw[h];exact⟨rfl,rfl,rfl⟩
  obtain⟨rfl,aX⟩|⟨rfl,aX⟩:=dO;cases fb with
  |false=>
   obtain⟨p1,p2,p3⟩:=bl (eW F k) (by rw[b1];rfl);refine iq.yA (mJ.start (mJ.cut 5 fu (lq rfl ?_)));refine mJ.jm (l0:=[(4,eT E),(7,.slice oa O.length oc),(8,.slice A O.length g),(10,i64 H),(11,i64 Y),(12,.slice J T M),(13,i64 U),(14,.bool (eW F k).1),(15,i64 (eW F k).2.1),(16,i64 (eW F k).2.2),(17,fP B O.length O.length),(22,i64 x),(23,i64 y),(142,.bool false)]) (by trivial) (mJ.cut 18 fu (nU rfl ?_));exact mJ.fin (iq.of fu (nU rfl ⟨rfl,⟨rfl,rfl,rfl,rfl,rfl,rfl,rfl,p1,p2,p3,rfl,trivial⟩,D⟩))
  |true=>
   have dP:F k=some (x,y):=by rw[b1,eC rfl,aX]
   have bg:yD (eW F k) (F k)=if(!(eW F k).1||(decide (x<(eW F k).2.1)||(decide (x=(eW F k).2.1)&&decide (y<(eW F k).2.2))))then(true,x,y)else eW F k:=by rw[dP];rfl
   have b3:=λ(h:(!(eW F k).1||(decide (x<(eW F k).2.1)||(decide (x=(eW F k).2.1)&&decide (y<(eW F k).2.2))))=true)=>bl (true,x,y) (by rw[bg,eC h]);have cH:=λ(h:(!(eW F k).1||(decide (x<(eW F k).2.1)||(decide (x=(eW F k).2.1)&&decide (y<(eW F k).2.2))))=false)=>bl (eW F k) (by rw[bg,ez (by rw[h];exact Bool.false_ne_true)]);refine iq.yA (mJ.start (mJ.cut 5 fu (lq rfl ?_)));refine mJ.jm (l0:=[(4,eT E),(7,.slice oa O.length oc),(8,.slice A O.length g),(10,i64 H),(11,i64 Y),(12,.slice J T M),(13,i64 U),(14,.bool (eW F k).1),(15,i64 (eW F k).2.1),(16,i64 (eW F k).2.2),(17,fP B O.length O.length),(22,i64 x),(23,i64 y),(142,.bool true)]) (by trivial) (mJ.cut 3 fu (lq rfl (gT ?_)));have ao:(eW F k).1=false\/(eW F k).1=true:=by cases(eW F k).1<;>simp
   obtain ao|ao:=ao;refine mJ.jm (l0:=[(4,eT E),(7,.slice oa O.length oc),(8,.slice A O.length g),(10,i64 H),(11,i64 Y),(12,.slice J T M),(13,i64 U),(14,.bool (eW F k).1),(15,i64 (eW F k).2.1),(16,i64 (eW F k).2.2),(17,fP B O.length O.length),(22,i64 x),(23,i64 y),(142,.bool true),(145,.bool true)]) ⟨rfl,rfl,rfl,rfl,rfl,rfl,rfl,rfl,rfl,rfl,rfl,rfl,rfl,rfl,eX (λb=>some (Value.bool b)) (show(!(eW F k).1)=true by rw[ao];rfl),trivial⟩ (mJ.cut 5 fu (lq rfl (lq rfl ?_)));refine mJ.jm (l0:=[(4,eT E),(7,.slice oa O.length oc),(8,.slice A O.length g),(10,i64 H),(11,i64 Y),(12,.slice J T M),(13,i64 U),(14,.bool (eW F k).1),(15,i64 (eW F k).2.1),(16,i64 (eW F k).2.2),(17,fP B O.length O.length),(22,i64 x),(23,i64 y),(142,.bool true),(150,.bool true)]) (by trivial) (mJ.cut 8 fu (lq rfl ?_));refine mJ.jm (l0:=[(4,eT E),(7,.slice oa O.length oc),(8,.slice A O.length g),(10,i64 H),(11,i64 Y),(12,.slice J T M),(13,i64 U),(14,.bool (eW F k).1),(15,i64 (eW F k).2.1),(16,i64 (eW F k).2.2),(17,fP B O.length O.length),(22,i64 x),(23,i64 y),(142,.bool true),(150,.bool true)]) (by trivial) (mJ.cut 2 fu (lq rfl (lq rfl ?_)));obtain⟨p1,p2,p3⟩:=b3 (by rw[ao];rfl);exact mJ.fin (iq.of fu (lq rfl ⟨rfl,⟨rfl,rfl,rfl,rfl,rfl,rfl,rfl,p1,p2,p3,rfl,trivial⟩,D⟩));refine mJ.jm (l0:=[(4,eT E),(7,.slice oa O.length oc),(8,.slice A O.length g),(10,i64 H),(11,i64 Y),(12,.slice J T M),(13,i64 U),(14,.bool (eW F k).1),(15,i64 (eW F k).2.1),(16,i64 (eW F k).2.2),(17,fP B O.length O.length),(22,i64 x),(23,i64 y),(142,.bool true),(145,.bool false)]) ⟨rfl,rfl,rfl,rfl,rfl,rfl,rfl,rfl,rfl,rfl,rfl,rfl,rfl,rfl,eX (λb=>some (Value.bool b)) (show(!(eW F k).1)=false by rw[ao];rfl),trivial⟩ (mJ.cut 5 fu (nU rfl (fO (lq rfl ?_))));by_cases hx:x<(eW F k).2.1;refine mJ.jm (l0:=[(4,eT E),(7,.slice oa O.length oc),(8,.slice A O.length g),(10,i64 H),(11,i64 Y),(12,.slice J T M),(13,i64 U),(14,.bool (eW F k).1),(15,i64 (eW F k).2.1),(16,i64 (eW F k).2.2),(17,fP B O.length O.length),(22,i64 x),(23,i64 y),(142,.bool true),(150,.bool true)]) ⟨rfl,rfl,rfl,rfl,rfl,rfl,rfl,rfl,rfl,rfl,rfl,rfl,rfl,rfl,eX (λb=>some (Value.bool b)) (decide_eq_true hx),trivial⟩<|mJ.jm (l0:=[(4,eT E),(7,.slice oa O.length oc),(8,.slice A O.length g),(10,i64 H),(11,i64 Y),(12,.slice J T M),(13,i64 U),(14,.bool (eW F k).1),(15,i64 (eW F k).2.1),(16,i64 (eW F k).2.2),(17,fP B O.length O.length),(22,i64 x),(23,i64 y),(142,.bool true),(150,.bool true)]) (by trivial) (mJ.cut 8 fu (lq rfl ?_));refine mJ.jm (l0:=[(4,eT E),(7,.slice oa O.length oc),(8,.slice A O.length g),(10,i64 H),(11,i64 Y),(12,.slice J T M),(13,i64 U),(14,.bool (eW F k).1),(15,i64 (eW F k).2.1),(16,i64 (eW F k).2.2),(17,fP B O.length O.length),(22,i64 x),(23,i64 y),(142,.bool true),(150,.bool true)]) (by trivial) (mJ.cut 2 fu (lq rfl (lq rfl ?_)));obtain⟨p1,p2,p3⟩:=b3 (by rw[decide_eq_true hx];simp);exact mJ.fin (iq.of fu (lq rfl ⟨rfl,⟨rfl,rfl,rfl,rfl,rfl,rfl,rfl,p1,p2,p3,rfl,trivial⟩,D⟩));refine mJ.jm (l0:=[(4,eT E),(7,.slice oa O.length oc),(8,.slice A O.length g),(10,i64 H),(11,i64 Y),(12,.slice J T M),(13,i64 U),(14,.bool (eW F k).1),(15,i64 (eW F k).2.1),(16,i64 (eW F k).2.2),(17,fP B O.length O.length),(22,i64 x),(23,i64 y),(142,.bool true),(150,.bool false)]) ⟨rfl,rfl,rfl,rfl,rfl,rfl,rfl,rfl,rfl,rfl,rfl,rfl,rfl,rfl,eX (λb=>some (Value.bool b)) (jj hx),trivial⟩ (mJ.cut 4 fu (nU rfl (iL ?_)));by_cases he:x=(eW F k).2.1;refine mJ.jm (l0:=[(4,eT E),(7,.slice oa O.length oc),(8,.slice A O.length g),(10,i64 H),(11,i64 Y),(12,.slice J T M),(13,i64 U),(14,.bool (eW F k).1),(15,i64 (eW F k).2.1),(16,i64 (eW F k).2.2),(17,fP B O.length O.length),(22,i64 x),(23,i64 y),(142,.bool true),(150,.bool false),(154,.bool true)]) ⟨rfl,rfl,rfl,rfl,rfl,rfl,rfl,rfl,rfl,rfl,rfl,rfl,rfl,rfl,rfl,eX (λb=>some (Value.bool b)) (decide_eq_true he),trivial⟩ (mJ.cut 4 fu (lq rfl (fO (nU rfl ?_))));refine mJ.jm (l0:=[(4,eT E),(7,.slice oa O.length oc),(8,.slice A O.length g),(10,i64 H),(11,i64 Y),(12,.slice J T M),(13,i64 U),(14,.bool (eW F k).1),(15,i64 (eW F k).2.1),(16,i64 (eW F k).2.2),(17,fP B O.length O.length),(22,i64 x),(23,i64 y),(142,.bool true),(150,.bool false),(158,.bool (decide (y<(eW F k).2.2)))]) (by trivial) (mJ.cut 2 fu (lq rfl (nU rfl ?_)));refine mJ.fin (iq.of fu ⟨λh3=>?_,λh3=>?_⟩);obtain⟨p1,p2,p3⟩:=b3 (by rw[decide_eq_true he,h3];simp);exact⟨rfl,⟨rfl,rfl,rfl,rfl,rfl,rfl,rfl,p1,p2,p3,rfl,trivial⟩,D⟩;obtain⟨p1,p2,p3⟩:=cH (by rw[ao,jj hx,h3];simp);exact⟨rfl,⟨rfl,rfl,rfl,rfl,rfl,rfl,rfl,p1,p2,p3,rfl,trivial⟩,D⟩;refine mJ.jm (l0:=[(4,eT E),(7,.slice oa O.length oc),(8,.slice A O.length g),(10,i64 H),(11,i64 Y),(12,.slice J T M),(13,i64 U),(14,.bool (eW F k).1),(15,i64 (eW F k).2.1),(16,i64 (eW F k).2.2),(17,fP B O.length O.length),(22,i64 x),(23,i64 y),(142,.bool true),(150,.bool false),(154,.bool false)]) ⟨rfl,rfl,rfl,rfl,rfl,rfl,rfl,rfl,rfl,rfl,rfl,rfl,rfl,rfl,rfl,eX (λb=>some (Value.bool b)) (jj he),trivial⟩ (mJ.cut 4 fu (nU rfl (nU rfl ?_)));refine mJ.jm (l0:=[(4,eT E),(7,.slice oa O.length oc),(8,.slice A O.length g),(10,i64 H),(11,i64 Y),(12,.slice J T M),(13,i64 U),(14,.bool (eW F k).1),(15,i64 (eW F k).2.1),(16,i64 (eW F k).2.2),(17,fP B O.length O.length),(22,i64 x),(23,i64 y),(142,.bool true),(150,.bool false),(158,.bool false)]) (by trivial) (mJ.cut 2 fu (lq rfl (nU rfl ?_)));obtain⟨p1,p2,p3⟩:=cH (by rw[ao,jj hx,jj he];rfl);exact mJ.fin (iq.of fu (nU rfl ⟨rfl,⟨rfl,rfl,rfl,rfl,rfl,rfl,rfl,p1,p2,p3,rfl,trivial⟩,D⟩))
  obtain⟨p1,p2,p3⟩:=bl (eW F k) (by rw[b1,aX];cases fb<;>rfl);refine iq.yA (mJ.start (mJ.cut 5 fu (nU rfl ?_)));refine mJ.jm (l0:=[(4,eT E),(7,.slice oa O.length oc),(8,.slice A O.length g),(10,i64 H),(11,i64 Y),(12,.slice J T M),(13,i64 U),(14,.bool (eW F k).1),(15,i64 (eW F k).2.1),(16,i64 (eW F k).2.2),(17,fP B O.length O.length),(22,i64 x),(23,i64 y),(142,.bool false)]) (by trivial) (mJ.cut 18 fu (nU rfl ?_));exact mJ.fin (iq.of fu (nU rfl ⟨rfl,⟨rfl,rfl,rfl,rfl,rfl,rfl,rfl,p1,p2,p3,rfl,trivial⟩,D⟩));rintro _ l' ab ⟨rfl,hs,D⟩;refine iq.jm hs ?_;have ay:=W.trans D;have cI:=ay.at_ ae;have P:=Qi bi k (by rw[<-bj];exact aD);rw[<-ac,<-bj]at P;refine iq.seq fu<|iq.seq fu<|iq.jm (l0:=[(4,eT E),(7,.slice oa O.length oc),(8,.slice A O.length g),(10,i64 H),(11,i64 Y),(12,.slice J T M),(13,i64 U),(14,.bool (yD (eW F k) (F k)).1),(15,i64 (yD (eW F k) (F k)).2.1),(16,i64 (yD (eW F k) (F k)).2.2),(17,fP B O.length O.length),(18,.bool false),(25,i64 (0:Nat))]) (by trivial)<|EY O.length (λi (c:ew×Bool)=>[(4,eT E),(7,.slice oa O.length oc),(8,.slice A O.length g),(10,i64 H),(11,i64 Y),(12,.slice J T M),(13,i64 U),(14,.bool (yD (eW F k) (F k)).1),(15,i64 (yD (eW F k) (F k)).2.1),(16,i64 (yD (eW F k) (F k)).2.2),(17,fP B O.length O.length),(18,.bool c.2),(25,i64 i)]) (λi c w'=>eY (λx=>x=B) ab w'/\w'.heap[B]? =some (.cells (gU c.1).toArray 3)/\((c.2=true/\Qh L ps=(c.1,true))\/(c.2=false/\c.1=List.replicate i 0++ps.drop i/\Qh L ps=(List.replicate i 0++(Qh (L.drop i) (ps.drop i)).1,(Qh (L.drop i) (ps.drop i)).2)))) (ps,false) ⟨by trivial,eY.refl _ _,cI,.inr ⟨rfl,by simp,by simp⟩⟩ ?_;rintro i ⟨c,mo⟩ aF hi ⟨a2,ap,b4⟩;simp only at ap b4
  have bz:∀bm,bm=mo->(bm=true\/i=O.length)->some (Value.bool bm)=some (.bool (decide (k+1<N)))/\eY (λx=>x=B) ak aF/\aF.heap[B]? =some (.cells (gU (ti L (if k+1<N then k+1 else 0))).toArray 3):=λbm b5 dQ=>by
   subst b5;have K:eY (λx=>x=B) ak aF:=cq.trans ((ay.keep (λx=>x=B)).trans a2 (λ_ _ h=>h) λ_ _ h=>h) (λ_ _ h=>h) λ_ _ h=>h;obtain⟨X,h2⟩|⟨X,h2,h3⟩:=b4;rw[h2]at P;by_cases ag:k+1<N;rw[eC ag]at P;injection P with q1 _;rw[X,decide_eq_true ag,eC ag,<-q1];exact⟨rfl,K,ap⟩;rw[ez ag]at P;injection P with _ R;cases R;have C:i=O.length:=by obtain h|h:=dQ;rw[X]at h;cases h;exact h
   subst C;have d1:ps.drop O.length=[]:=List.drop_eq_nil_of_le (by omega);have d2:L.drop O.length=[]:=List.drop_eq_nil_of_le (by omega);rw[d1,List.append_nil]at h2;rw[d1,d2]at h3;rw[h3]at P;by_cases ag:k+1<N;rw[eC ag]at P;injection P with _ R;cases R;rw[X,jj ag,ez ag,yC,bO,<-h2];exact⟨rfl,K,ap⟩
  have cJ:some (Value.bool (yD (eW F k) (F k)).1)=some (.bool (eW F (k+1)).1):=by rw[sK]
  have cK:some (Value.int .i64 (yD (eW F k) (F k)).2.1)=some (i64 (eW F (k+1)).2.1):=by rw[sK]
  have cL:some (Value.int .i64 (yD (eW F k) (F k)).2.2)=some (i64 (eW F (k+1)).2.2):=by rw[sK]
  refine iq.seq fu (fe (fO ⟨λcM=>gT ⟨λb6=>?_,λb6=>?_⟩,λcN=>nU rfl ?_⟩));rotate_left;obtain⟨p1,p2,p3⟩:=bz mo rfl (.inl (by simpa using b6));exact⟨aD,(),⟨rfl,rfl,rfl,rfl,rfl,rfl,rfl,cJ,cK,cL,rfl,p1,trivial⟩,p2,p3⟩;obtain⟨p1,p2,p3⟩:=bz mo rfl (.inr (by have:¬(i:Int)<(O.length:Int):=gJ cN;omega));exact⟨aD,(),⟨rfl,rfl,rfl,rfl,rfl,rfl,rfl,cJ,cK,cL,rfl,p1,trivial⟩,p2,p3⟩;have C:i<O.length:=by simpa using cM
  have b5:mo=false:=by simpa using b6
  obtain⟨X,_⟩|⟨_,bn,bo⟩:=b4;rw[b5]at X;cases X;obtain⟨q,hq⟩:∃q,q=ps.getD i 0:=⟨_,rfl⟩;have ax:i<ps.length:=by omega
  have eo:c.length=O.length:=by rw[bn];simp;omega
  have dR:c[i]? =some q:=by rw[bn,ow (by simp),List.length_replicate,mj,List.getElem?_drop,nT,gC ax,hq,getD_eq ax]
  have cO:i<L.length:=by omega
  have a6:L[i]=max 1 (mh G l O[i] f).length:=by subst aj;simp[Ib]
  have dS:q<L[i]:=by rw[hq,ac];exact zZ bi k i cO
  have a7:=Ux i (ns:=L) (ps:=ps) (by omega) cO;rw[<-hq]at a7;obtain⟨lb,ai,ci,rfl,cP,cC⟩:=aU i C;have b7:Ext ad ab:=ay;have a8:aF.cell? (eQ lb (0+i))=some (.slice ai (mh G l O[i] f).length ci):=a2.gM (b7.cell cP) λh=>by have:=aQ.blk (b:=lb) ⟨_,_,rfl⟩;obtain⟨_,cs,R⟩:=this;have h:lb=B:=h;subst h;exact ia R ae (by decide)
  refine iq.yA (iq.block (iq.seq fu ?_));have b0:(gU c)[i]? =some (i64 (q:Nat)):=by simp[gU,dR]
  refine gN i C (eH (eB ap (by rw[eJ];simpa using b0)) (eK (gN i C ?_) ?_));refine kY ap (by simp[Value.cells,gU];omega) (λbp cQ cR=>?_) (iK rfl);have a9:bp.heap[B]? =some (.cells (gU (c.set i (q+1))).toArray 3):=by rw[cR,<-H2];simp[jk,Value.cells]
  have dT:c.set i (q+1)=List.replicate i 0++(q+1)::ps.drop (i+1):=by rw[bn,Ql ax]
  have dU:eY (λx=>x=B) ab bp:=a2.trans cQ (λ_ _ h=>h) λ_ _ h=>h;have ba:bp.cell? (eQ lb (0+i))=some (.slice ai (mh G l O[i] f).length ci):=cQ.gM a8 λh=>by obtain⟨_,cs,R⟩:=aQ.blk (b:=lb) ⟨_,_,rfl⟩;have h:lb=B:=h;subst h;exact ia R ae (by decide)
  have b8:bp.cell? (eQ B (0+i))=some (i64 ((q+1:Nat):Int)):=eB a9 (by have dV:(c.set i (q+1))[i]? =some (q+1):=List.getElem?_set_self (by omega);rw[eJ,Cn];unfold gU;rw[ng,dV];rfl);refine iq.yA (fB fl ?_);refine .exact (oJ B (0+i)) (λaz ah=>gN i C iJ)<| .exact (i64 ((q+1:Nat):Int)) (λaz ah=>eH (ah.cell b8) iJ)<| .exact (oJ lb (0+i)) (λaz ah=>gN i C iJ)<| .exact (.slice ai (mh G l O[i] f).length ci) (λaz ah=>eH (ah.cell ba) iJ)<| .exact (i64 ((mh G l O[i] f).length:Nat)) (λaz ah=>fe iJ)<| .exact (.bool (decide (((q+1:Nat):Int)<(mh G l O[i] f).length))) (λaz ah=>fO iJ) ?_;intro az ah;have bA:=ah.at_ a9;have cS:eY (λx=>x=B) ab az:=dU.trans (ah.keep λx=>x=B) (λ_ _ h=>h) λ_ _ h=>h;by_cases ep:q+1<(mh G l O[i] f).length;have hd:decide (((q+1:Nat):Int)<(mh G l O[i] f).length)=true:=decide_eq_true (by omega);have b9:q+1<L[i]:=by rw[a6];omega
  rw[eC b9]at a7;rw[a7]at bo;refine iq.jm (l0:=[(4,eT E),(7,.slice oa O.length oc),(8,fP lb O.length g),(10,i64 H),(11,i64 Y),(12,.slice J T M),(13,i64 U),(14,.bool (yD (eW F k) (F k)).1),(15,i64 (yD (eW F k) (F k)).2.1),(16,i64 (yD (eW F k) (F k)).2.2),(17,fP B O.length O.length),(18,.bool true),(25,i64 i)]) ⟨rfl,rfl,rfl,rfl,rfl,rfl,rfl,rfl,rfl,rfl,rfl,by rw[hd];rfl,rfl,trivial⟩ ?_;refine iq.of fu (gT (nU rfl (iq.of fu (eK ⟨C,(c.set i (q+1),true),by trivial,cS,bA,.inl ⟨rfl,by rw[bo,dT]⟩⟩))));have hd:decide (((q+1:Nat):Int)<(mh G l O[i] f).length)=false:=jj (by omega);have b9:¬q+1<L[i]:=by rw[a6];omega
  rw[ez b9]at a7;rw[a7]at bo;refine iq.jm (l0:=[(4,eT E),(7,.slice oa O.length oc),(8,fP lb O.length g),(10,i64 H),(11,i64 Y),(12,.slice J T M),(13,i64 U),(14,.bool (yD (eW F k) (F k)).1),(15,i64 (yD (eW F k) (F k)).2.1),(16,i64 (yD (eW F k) (F k)).2.2),(17,fP B O.length O.length),(18,.bool false),(25,i64 i)]) ⟨rfl,rfl,rfl,rfl,rfl,rfl,rfl,rfl,rfl,rfl,rfl,by rw[hd];rfl,rfl,trivial⟩ ?_;refine iq.of fu (gT (lq rfl (gN i C ?_)));refine kY bA (by simp[Value.cells,gU];omega) (λdW dX cT=>?_) (iK rfl);have ca:dW.heap[B]? =some (.cells (gU ((c.set i (q+1)).set i 0)).toArray 3):=by rw[cT];show some (Obj.cells (jk (gU (c.set i (q+1))).toArray (0+i) [i64 0]) 3)=_;rw[eJ];exact eX (λa=>some (Obj.cells a 3)) (H2 (c.set i (q+1)) i 0)
  have cU:(c.set i (q+1)).set i 0=List.replicate (i+1) 0++ps.drop (i+1):=by rw[List.set_set,bn,Ql ax,List.replicate_succ',List.append_assoc];rfl
  refine iq.of fu (eK ⟨C,((c.set i (q+1)).set i 0,false),by trivial,cS.trans dX (λ_ _ h=>h) λ_ _ h=>h,ca,.inr ⟨rfl,cU,?_⟩⟩);rw[bo,List.replicate_succ',List.append_assoc];rfl;have X:=dS;rw[a6]at X;have:(mh G l O[i] f).length<=27:=by unfold mh;rw[jU];exact ff (List.length_filter_le _ _)<|(xp G.days.toNat (by omega)).1
  omega
end Go.Proofs.W
namespace Go.Proofs.W
open Go.Conc Go.eV Go.RowKit
noncomputable def Uz(L:ew)(f:Nat):Bool:=f==163||okF L false (λ_=>false) f
abbrev mW:=Array (Nat×Nat)
def mW.sh(a:mW)(b:Nat):Option Nat:=(a[b]?).map (·.2)
def mW.r(a:mW)(b c:Nat):Prop:=∃n,a[b]? =some (c,n)
def mW.oK{d:mW}(b c e:Nat)(h:d.r b c)(a:d.r b e):c=e:=by obtain⟨n,h⟩:=h;obtain⟨m,a⟩:=a;rw[h]at a;cases a;rfl
def mW.qI{a:mW}(b d c:Nat)(h:a.r b c)(f:a.r d c):b=d\/(a.sh b≠none/\a.sh d≠none):=by obtain⟨n,h⟩:=h;obtain⟨m,f⟩:=f;unfold mW.sh;rw[h,f];exact .inr ⟨λe=>(by cases e),λe=>(by cases e)⟩
noncomputable def SB(L:ew)(a:mW):fj where
 S:=λg=>L.contains g
 dim:=false
 ok:=λf=>jI V.prog (λg=>L.contains g) false false
 df:=λ_=>false
 fs:=PR.funcs
 hole:=λf=>f==163
 sh:=a.sh
 r:=a.r
 oK:=mW.oK
 qI:=mW.qI
def Fb(h:l.all (Uz l)=true)(f:Nat)(d:l.contains f=true)(b:f≠163):
 ∃a c,V.prog.funcs[f]? =some a/\a.body=some c/\jI V.prog (λg=>l.contains g) false false c=true/\(a.name== "runtime.NumGoroutine")=false:=by
 have:=mO.1 h f (by simpa using d);unfold Uz at this;rw[show(f==163)=false by simpa using b,Bool.false_or]at this;unfold okF at this;split at this;rename_i a e;split at this;rename_i c i;simp only[fE,tl]at this;exact⟨a,c,e,i,this.1,this.2⟩;cases this;cases this
def SC:(V.f163.name== "runtime.NumGoroutine")=false:=by kernel_rfl
def Qm:(Tryz.f163.name== "runtime.NumGoroutine")=false:=by kernel_rfl
def Qn:∃c,Tryz.f163.body=some c:=⟨_,Au⟩
def Ni{j:mW}(h:l.all (Uz l)=true):Go.eV.Good V.prog (SB l j):=by
 refine⟨⟨V.zero,λf a=>?_,V.F1,CH _,V.bad⟩,rfl,λf a k=>?_,⟨λf a=>?_⟩,λ⟨f,a⟩=>by cases a⟩;by_cases e:f=163;subst e;exact⟨V.f163,V.zJ,V.func163,SC,rfl⟩;obtain⟨d,c,b,g,_,i⟩:=Fb h f a e;exact⟨d,c,b,i,g⟩;have e:f≠163:=λe=>by subst e;cases k
 obtain⟨d,c,b,g,m,_⟩:=Fb h f a e;exact⟨d,c,b,g,m⟩;by_cases e:f=163;subst e;obtain⟨c,n⟩:=Qn;exact⟨Tryz.f163,c,Tryz.func163,Qm,n,λh=>by cases h⟩;obtain⟨d,c,b,g,_,i⟩:=Fb h f a e;exact⟨d,c,(V.zK f e).symm.trans b,i,g,λ_=>b⟩
noncomputable def Qo(L:ew)(df:Nat->Bool)(a:mW):fj where
 S:=λg=>L.contains g
 dim:=false
 ok:=λf=>jI V.prog (λg=>L.contains g) false (df f)
 df:=df
 fs:=V.prog.funcs
 hole:=λ_=>false
 sh:=a.sh
 r:=a.r
 oK:=mW.oK
 qI:=mW.qI
def Qp(b:R.fs=P.funcs)(h:∀f,R.S f=true->∃a c,P.funcs[f]? =some a/\(a.name== "runtime.NumGoroutine")=false/\a.body=some c):QG P R:=⟨λf e=>by obtain⟨a,c,d,g,i⟩:=h f e;exact⟨a,c,by rw[b];exact d,g,i,λ_=>d⟩⟩
def Nj{g:Nat->Bool}{i:mW}(h:l.all (okF l false g)=true):Go.eV.Good V.prog (Qo l g i):=by refine⟨V.fit h,rfl,λf a _=>?_,Qp (by unfold Qo;dsimp only) λf a=>?_,λ_ _=>rfl⟩;obtain⟨b,c,d,e,j,_⟩:=wN h f a;exact⟨b,c,d,e,j⟩;obtain⟨b,c,d,e,_,k⟩:=wN h f a;exact⟨b,c,d,k,e⟩
def runNT_then{b c:Machine}{t d:Trace}(h:runNT P m b t=(.next c,d)):runNT P (m+k) b t=runNT P k c d:=by
 induction m generalizing b t with
 |zero=>
  simp only[runNT]at h;injection h with a e;injection a with a;subst a e;rw[eJ]
 |succ m f=>
  rw[show m+1+k=(m+k)+1 from by omega];simp only[runNT]at h⊢;cases g:stepT P b with
  |mk s i=>
   rw[g]at h;cases s with
   |next j=>exact f h
   |ended o w=>simp only at h;injection h with a e;cases a
def SD(e:Ending)(a:er):Prop:=e=.returned (.bool true)\/(e=.panicked lI/\Tk a)
def Qq{z:Nat->Bool}(hL:l.all (Uz l)=true)(ac:f.all (okF f false z)=true){fn:Func}{tm:Tmp}(hf:V.prog.funcs[K]? =some fn)(ad:fn.results=#[.tmp tm])(s:K≠163)(ae:l.contains K=true)(af:f.contains K=true) (ag:PR.inits.idxOf? K=none){k v:er}{ws:mW} (t:∀b c n:Nat,ws[b]? =some (c,n)->∃o J,v.heap[b]? =some o/\k.heap[c]? =some J/\∀p:fj,p.r=ws.r->p.sh=ws.sh->UJ p n o J)(R:∀p:fj,p.r=ws.r->p.sh=ws.sh->iD p X W) (hC:∀T:Ta,Go.eV.Below v T->Calls V.prog K X (eU v T) SD):∃N last o q t',runNT PR (N+1) (solo (G (Frame.enter PR K W .normal) []) k) #[]=(.ended o q,t')/\runN PR N (solo (G (Frame.enter PR K W .normal) []) k)=.next last/\Go.step PR last=.ended o q/\
  Go.Conc.Good PR (λx q=>x=.bool true/\Go.RowKit.Below k.heap.size k q) last o q t':=by
 have S:Go.eV.Good lS (SB l ws):=Ni hL;have am:ws.size<=v.mN:=Nat.le_of_not_lt λh=>by obtain⟨_,_,y,_⟩:=t v.mN _ _ (lA h);exact Nat.lt_irrefl _ (lt_of_heap y)
 have F:∀b,v.mN<=b->ws.sh b=none:=λb hb=>by unfold mW.sh;rw[ou (by omega)];rfl
 have H:∀(p:fj),p.r=ws.r->p.sh=ws.sh->∀b c,ws.r b c->∃o J,v.heap[b]? =some o/\k.heap[c]? =some J/\JU p (ws.sh b) o J:=λp y A b c ⟨n,P⟩=>by obtain⟨o,J,B,h4,h5⟩:=t b c n P;exact⟨o,J,B,h4,.inr ⟨n,by unfold mW.sh;rw[P];rfl,h5 p y A⟩⟩
 have U:Go.eV.Good lS (Qo f z ws):=Nj ac;have ev:(V.prog.ki PR.funcs)=PR:=Rb;have I:Inv lS ⟨Frame.enter lS K X .normal,[floor],v⟩:=by
  have h:Inv lS ⟨Frame.enter lS K X .normal,[floor],eU v (sX v k)⟩:=
   ⟨Qo f z ws,k,G (Frame.enter (V.prog.ki (Qo f z ws).fs) K W .normal) [],U,λ_=>rfl,WR.sX ⟨H _ rfl rfl,F⟩,uJ U af (R _ rfl rfl) .normal (.inl rfl),⟨[],[],rfl,rfl,.nil⟩,⟨rfl,rfl⟩,⟨rfl,rfl⟩,⟨rfl,rfl⟩⟩
  exact h.eU v.tape
 have C:Go.eV.Reach lS (vA K (λx _=>x=.bool true)) ⟨Frame.enter lS K X .normal,[floor],v⟩:=by refine tC vA.callers (λc T hi Q=>?_) I λT hT=>?_;obtain Q|⟨y,A,B,h4,h5⟩:=Q;exact .inl (Go.eV.Left.eU (λx w T h=>h) c T hi Q);exact .inr ⟨y,A,B,h4,h5.eU T⟩;obtain⟨e,q,fr,Y,Q,Z,hl⟩:=hC T hT [floor];obtain rfl|⟨rfl,Y⟩:=Y;obtain⟨n,hn⟩:=Q;exact⟨n,fr,[floor],q,hn,.inl ⟨rfl,Z,_,rfl,hl⟩⟩;obtain⟨n,hn⟩:=Q;exact⟨n,fr,[floor],q,hn,.inr ⟨rfl,Z,hl.1,hl.2.1,Y⟩⟩
 have hI:Fx lS PR.funcs k (SB l ws) (λ_=>False) ⟨Frame.enter lS K X .normal,[floor],v⟩ #[G (Frame.enter (V.prog.ki PR.funcs) K W .normal) []] (G (Frame.enter (V.prog.ki PR.funcs) K W .normal) []) k #[] (λ_=>0):=by
  refine⟨I,S,rfl,rfl,⟨uJ S ae (R _ rfl rfl) .normal (.inl rfl),⟨[],[],rfl,rfl,.nil⟩,⟨rfl,rfl⟩,⟨rfl,rfl⟩,⟨rfl,rfl⟩⟩,⟨H _ rfl rfl,F⟩,⟨λi g hi hg=>?_,λj _=>Go.ConcN.Deaf_absent (by simp)⟩,?_,λb h=>h.elim,λ_ _ _ h=>h,λb c P hc=>?_,eF _,λ_ _=>rfl,⟨rfl,rfl,rfl⟩,⟨λg hg=>?_,rfl,λ⟨g,hg⟩=>by cases hg⟩⟩;have:i<1:=(ik.1 hg).1;omega;have h:=past_nil;exact⟨h.clean,λi a ha hm=>by simp[touchAt,Trace.act?]at ha,h.over,h.hears,λop ah=>by simp at ah⟩;obtain⟨n,P⟩:=P;obtain⟨_,_,y,_,A⟩:=t b c n P;obtain⟨cs,fz,_,_,_,rfl,_,B,_⟩:=(A (SB l ws) rfl rfl).out;exact⟨cs,vJ,fz,y,B⟩;have e:g=163:=by have:(g==163)=true:=hg;simpa using this
  subst e;rw[V.func163,show PR.funcs[163]? =some Tryz.f163 from Tryz.func163];intro e;have:=eX Func.ntmps (eP e);rw[Tryz.ntmps163]at this;cases this
 obtain⟨N,ai,q,aa,t',q',L,O,X',a',r1,D,r3,_⟩:=lead (fs:=PR.funcs) vA.callers (RL MM s k) _ C _ _ _ _ _ none _ _ hI
 have aj:Go.eV.Left lS K (λx _=>x=.bool true) L.fr L.cl L.v:=by
  obtain h|⟨y,A,B,h4,h5⟩:=r3;exact h;exfalso;have E:fX lS O L.fr a'.frame:=by
   have u:=D.gor.fr;generalize E:(G L.fr L.cl).frame=fr at u;generalize al:a'.frame=an at u;cases u with
   |fr hf=>subst E;exact hf
   | @hole g hS hh X ao hx=>
    have:L.fr=Frame.enter lS g X .normal:=E;rw[this]at B;cases B
  have hm:=E.mode;rw[B]at hm;generalize a'.frame.mode=m at hm;cases hm with
  |panicking hc=>
   unfold lI at hc;cases hc with
   |cons Y _=>
    obtain h|h:=Y.ok;exact D.holes.2.2 h;exact h 3 _ _ rfl
 have ak:O.hole K=false:=by
  cases h:O.hole K with
  |false=>rfl
  |true=>
   exfalso;exact D.holes.1 K h (V.zK K s)
 obtain⟨M,last,o,w2,t2,s1,s2,s3,s4⟩:=D.ends (sl:=aa) aj hf ad ak (by rw[ev];exact ag) (Post:=λx q=>x=.bool true/\Go.RowKit.Below k.mN k q) λx x' d hx hv=>by subst hx;cases hv;exact⟨rfl,D.world.2.1,D.world.1,D.world.2.2,D.grown,λb hb=>D.kept b hb⟩
 rw[ev]at r1 s1 s2 s3 s4;have ab:runNT PR (N+(M+1)) (solo (G (Frame.enter PR K W .normal) []) k) #[]=(.ended o w2,t2):=(runNT_then r1).trans s1;refine⟨N+M,last,o,w2,t2,ab,?_,s3,s4⟩;have y:runNT PR (N+M) (solo (G (Frame.enter PR K W .normal) []) k) #[]=runNT PR M (crowd ai q aa) t':=runNT_then r1;have A:=runNT_fst PR (N+M) (solo (G (Frame.enter PR K W .normal) []) k) #[];rw[y,runNT_fst,s2]at A;exact A.symm
inductive VW (ws:mW):eu->eu->Prop
 |bool (b:Bool):VW ws (.bool b) (.bool b)
 |int (k:IntKind) (n:Int):VW ws (.int k n) (.int k n)
 |nil (l c:Nat):VW ws (.slice none l c) (.slice none l c)
 |slice {j b n:Nat} (l c:Nat) (h:ws[j]? =some (b,n)):VW ws (.slice (some ⟨j,0,none⟩) l c) (.slice (some ⟨b,n,none⟩) l c)
def Ic{c:Type}(a b:Array c):Prop:=∀(j:Nat) p,a[j]? =some p->b[j]? =some p
def Ic.refl{b:Type}(a:Array b):Ic a a:=λ_ _ h=>h
def Ic.trans{d:Type}{a b c:Array d}(h:Ic a b)(k:Ic b c):Ic a c:=λj p x=>k j p (h j p x)
theorem Ic.push{b:Type}(a:Array b)(x:b):Ic a (a.push x):=λj p h=>by rw[pA,ez (Nat.ne_of_lt (ik.1 h).1)];exact h
def VW.mono{e d:mW}(h:VW e x y)(k:Ic e d):VW d x y:=by
 cases h with
 |bool b=>exact .bool b
 |int a b=>exact .int a b
 |nil l c=>exact .nil l c
 |slice l c h=>exact .slice l c (k _ _ h)
def VW.vr{d:mW}(h:VW d x y){ρ:fj}(e:ρ.r=d.r)(f:ρ.sh=d.sh):VR ρ x y:=by
 cases h with
 |bool b=>exact .bool b
 |int a b=>exact .int a b
 |nil l c=>exact .iR l c
 | @slice j b n l c h=>
  refine .slice l c ?_;have:=AR.mk (ρ:=ρ) (b:=j) (c:=b) 0 none (by rw[e];exact⟨n,h⟩);rw[f,mW.sh,h,eJ]at this;exact this
inductive JP (ws:mW):List eu->List eu->Prop
 |nil:JP ws [] []
 |cons {x y:eu} {l m:List eu} (h:VW ws x y) (t:JP ws l m):JP ws (x::l) (y::m)
theorem JP.length{a:mW}(h:JP a M Y):M.length=Y.length:=by
 induction h with
 |nil=>rfl
 |cons _ _ b=>simp[b]
def JP.get{b:mW}(h:JP b M Y):∀{i:Nat} {x:eu},M[i]? =some x->∃y,Y[i]? =some y/\VW b x y:=by
 induction h with
 |nil=>intro i x h;simp at h
 | @cons x y M Y h t c=>
  intro i z a;cases i with
  |zero=>simp at a;subst a;exact⟨y,rfl,h⟩
  |succ i=>simp at a;obtain⟨y,d,e⟩:=c a;exact⟨y,by simpa using d,e⟩
theorem JP.mono{b a:mW}(h:JP b M Y)(k:Ic b a):JP a M Y:=by
 induction h with
 |nil=>exact .nil
 |cons h _ c=>exact .cons (h.mono k) c
theorem JP.self{a:mW}:∀{l:fD},(∀x∈l,VW a x x)->JP a l l
 |[],_=>.nil
 |x::l,h=>.cons (h x (by simp)) (JP.self λy b=>h y (by simp[b]))
structure Seen(W:er)(ws:mW)(vs:Array (Array eu)):Prop where
 size:vs.size=ws.size
 at_:∀(j b n:Nat),ws[j]? =some (b,n)->∃cs vH t fz,vs[j]? =some cs/\W.heap[b]? =some (.cells vH t fz)/\∀(i:Nat) x,cs[i]? =some x->∃y,vH[i+n]? =some y/\VW ws x y
def Nk(c:Array fZ)(a:fR)(d:fD):Prop:=∀(k:Nat) x,d[k]? =some x->∃j b,a=some ⟨j,0,none⟩/\c[j]? =some b/\b[k]? =some x
def Nk.mono{c b:Array fZ}(h:Nk c a M)(k:Ic c b):Nk b a M:=λi x d=>by obtain⟨j,e,f,g,l⟩:=h i x d;exact⟨j,e,f,k _ _ g,l⟩
def Seen.none(W:er):Seen W #[] #[]:=⟨rfl,λj b n h=>by simp at h⟩
theorem Seen.add{d:mW}{u:Array fZ}(h:Seen w d u)(o p:Nat)(z:JP d M Y) (L:∀s,a=some s->s.spot=.none/\(∃x,w.shape? s.block=some x)/\∀(i:Nat) y,Y[i]? =some y->w.cell? (s.add i)=some y)(N:a=.none->M=[]):∃q r A,Seen w q r/\Ic d q/\Ic u r/\VW q (.slice A o p) (.slice a o p)/\Nk r A M/\(A=.none->a=.none):=by
 cases a with
 |none=>
  obtain rfl:=N rfl;exact⟨d,u,.none,h,.refl _,.refl _,.nil _ _,λk x g=>by simp at g,λh=>h⟩
 |some s=>
  obtain⟨b,l,I⟩:=s;obtain⟨rfl,⟨x,g⟩,O⟩:=L _ rfl;obtain⟨B,t,C,J⟩:∃B t C,w.heap[b]? =some (.cells B t C):=by simp only[World.shape?]at g;split at g;rename_i c e f h;exact⟨c,e,f,h⟩;cases g
  have D:=Ic.push d (b,l);have P:(d.push (b,l))[d.size]? =some (b,l):=by simp
  have K:(u.push M.toArray)[d.size]? =some M.toArray:=by simp[<-h.size]
  refine⟨d.push (b,l),u.push M.toArray,some ⟨d.size,0,.none⟩,⟨by simp[h.size],λj c n m=>?_⟩,D,Ic.push _ _,.slice o p P,λk x g=>⟨d.size,_,rfl,K,by simpa using g⟩,λe=>by cases e⟩;rw[pA]at m;split at m;rename_i e;subst e;cases m;refine⟨M.toArray,B,t,C,K,J,λi x g=>?_⟩;obtain⟨y,E,F⟩:=z.get (i:=i) (x:=x) (by simpa using g);have v:=O i y E;rw[je]at v;simp only[World.cell?,J]at v;refine⟨y,?_,F.mono D⟩;rw[Nat.add_comm];simpa using v;obtain⟨G,H,Q,R,E,F,v⟩:=h.at_ j c n m;refine⟨G,H,Q,R,Ic.push _ _ _ _ E,F,λi x g=>?_⟩;obtain⟨y,S,T⟩:=v i x g;exact⟨y,S,T.mono D⟩
def Tw(b:Array fZ)(w:er):Prop:=∀(j:Nat) a,b[j]? =some a->w.heap[j]? =some (.cells a vJ (0,a.size))
def Nk.cell{b:Array fZ}(h:Nk b a M)(c:Tw b w)(k:Nat)(d:M[k]? =some x):∃j,a=some ⟨j,0,.none⟩/\w.cell? ⟨j,k,.none⟩=some x:=by obtain⟨j,e,f,g,i⟩:=h k x d;exact⟨j,f,by simp only[World.cell?,c j e g];simpa using i⟩
def Nl{m:Nat->Bool}(I:l.all (Uz l)=true)(p:f.all (okF f false m)=true){F:Func}{J:Tmp}(L:V.prog.funcs[K]? =some F)(q:F.results=#[.tmp J])(d:K≠163)(s:l.contains K=true)(u:f.contains K=true) (z:PR.inits.idxOf? K=none){ws:mW}{A:Array fZ}(M:Seen w ws A){xs a:fZ}(B:∀k:fj,k.r=ws.r->k.sh=ws.sh->iD k xs a)
 (O:∀C:er,Tw A C->Calls V.prog K xs C (vn λv c=>v=.bool true/\Ext C c)):
 ∃N last o c H,runNT PR (N+1) (solo (G (Frame.enter PR K a .normal) []) w) #[]=(.ended o c,H)/\runN PR N (solo (G (Frame.enter PR K a .normal) []) w)=.next last/\Go.step PR last=.ended o c/\Go.Conc.Good PR (λx c=>x=.bool true/\Go.RowKit.Below w.heap.size w c) last o c H:=by
 refine Qq (v:={w with heap:=A.map λg=>.cells g vJ (0,g.size)}) (ws:=ws) I p L q d s u z (λj b n D=>?_) B λT hT=>?_;obtain⟨g,P,t,fz,Q,R,S⟩:=M.at_ j b n D;refine⟨.cells g vJ (0,g.size),_,by simp[Q],R,λk U E=>⟨_,_,_,_,_,rfl,rfl,λo W=>⟨iQ _,W⟩,λi x X=>?_⟩⟩;obtain⟨y,Y,Z⟩:=S i x X;exact⟨y,Y,Z.vr U E⟩;refine(O _ λj g D=>?_).mono λe c h=>?_;simp[eU,D];obtain⟨v,rfl,rfl,_⟩|h:=h;exact .inl rfl;exact .inr h
def Ww(f:Nat):Bool:=f==190||f==163
def Nm{r:ew}{s:Nat->Bool}(J:f.all (Uz f)=true)(t:r.all (okF r false s)=true){D:Func}{tm:Tmp}(L:V.prog.funcs[K]? =some D)(u:D.results=#[.tmp tm])(d:K≠163)(z:f.contains K=true)(A:r.contains K=true)
 (B:PR.inits.idxOf? K=none)(M:∀(C:iA) (E:fR) (O:Nat) (m:er),nz m E C->C.length<=9223372036854775807->Calls V.prog K #[.slice E C.length O] m (vn λv g=>v=.bool true/\Ext m g))
  {b cap:Nat}{p:iA}(c:p.length=b)(P:b<=9223372036854775807)(Q:∀h,a=some h->h.spot=none/\(∃x,w.shape? h.block=some x)/\∀i,i<b->w.cell? (h.add i)=some (.int .i64 (p.getD i 0)))(q:a=none->b=0):
 ∃N last o g F,runNT PR (N+1) (solo (G (Frame.enter PR K #[.slice a b cap] .normal) []) w) #[]=(.ended o g,F)/\runN PR N (solo (G (Frame.enter PR K #[.slice a b cap] .normal) []) w)=.next last/\Go.step PR last=.ended o g/\Go.Conc.Good PR (λx g=>x=.bool true/\Go.RowKit.Below w.heap.size w g) last o g F:=by
 obtain⟨ws,vs,H,R,_,_,S,T,_⟩:=(Seen.none w).add (a:=a) b cap (JP.self (l:=p.map (i64)) λx U=>by
  obtain⟨n,_,rfl⟩:=iX.1 U
  exact .int _ _) (λh e=>by
   obtain⟨W,X,Y⟩:=Q h e;refine⟨W,X,λi y I=>?_⟩;rw[ng]at I;obtain⟨n,q,rfl⟩:=jo.1 I;have hi:=(kS.1 q).1;rw[Y i (by omega),kL,q];rfl) (λe=>by
   have:=q e;rw[nC (c.trans this)];rfl)
 refine Nl J t L u d z A B R (xs:=#[.slice H b cap]) (λρ Z hs=>iD.one (S.vr Z hs)) λm hw=>?_;subst c;refine M p H cap m (λk hk=>?_) P;obtain⟨j,e1,e2⟩:=T.cell hw k (x:=i64 p[k]) (by simp[hk]);exact⟨j,0,e1,by rw[eJ];exact e2⟩
end Go.Proofs.W
namespace Go.Proofs.W
def Lm:ew:=[6,26,27,28,29,30,31,34,35,38,42,44,46,48,49,50,51,52,53,54,55,58,59,69,71,74,75,93,95,96,97,98,104,105,106,107,108,109,113,114,115,116,117,118,119,120,121,122,123,125,128,129,130,131,133,134,135,137,144,146,153,154,155,156,157,158,159,160,161,162,163,164,165,166,167,168,169,170,171,172,173,174,175,176,178,179,180,184,185,186,195,196,197,198,199,200,201,222,231]
def H3:ew:=[6,26,27,28,29,30,31,34,35,38,42,44,46,48,49,50,51,52,53,54,55,58,59,69,71,74,75,93,95,96,97,98,104,105,106,107,108,109,113,114,115,116,117,118,119,120,121,122,123,125,128,129,130,131,133,134,135,137,144,146,153,154,155,156,157,158,159,160,161,162,163,164,165,166,167,168,169,170,171,172,173,174,175,176,178,179,180,184,185,186,190,194,195,196,197,198,199,200,201,215,216,222,227,228,229,231]
def Nn:Lm.all (Uz Lm)=true:=by kernel_rfl
def JQ:H3.all (okF H3 false Ww)=true:=by kernel_rfl
end Go.Proofs.W
namespace Go.Proofs.YteeagjkaflglpaaGreat
open Go.ChangeShapes Go.WideShapes Go.ChangeAt Go.RowKit Go.Conc
def zI(Z:Os)(f:Z.Started)(H:Type)(enc:eD×eu->H):ReturnsInLeavingWide {} Tryz.checked Z 6 .any (Rows.roundFewestSpec.pre6 enc Tryz.prog Tryz.f6 Rows.roundFewestRow.domain false) (Rows.roundFewestSpec.post enc Tryz.prog Tryz.f6 false true false false):=by
 refine returnsInLeavingWide_of_change_sized (C:=Tryz.checked) Tryz.own f Tryz.func6 (ChangeSpec.witness6 (enc:=enc) (C:=Tryz.checked) false ⟨#[],#[ig],[]⟩ 8 (by kernel_rfl) (by kernel_rfl) (by kernel_rfl) (by kernel_rfl)) ?_;intro g D r ds gs N k hW _ _ _;have s:∀(j:Nat) t v,Tryz.f6.params[j]? =some t->r[j]? =some v->Value.okWide Tryz.prog g .any D t v:=k;have u:=hW;obtain⟨p,q,E,hV,rfl,_,_⟩:=hW;have hA:DataW.TrodAll enc Tryz.prog g 0 (λ_=>true) true Tryz.f6.params.toList r.toList ds p:=E;have F:Tryz.f6.params=#[27]:=by kernel_rfl
 rw[F]at hA s;obtain⟨v0,d0,rfl,rfl,h0⟩:=trodAll_one hA;obtain⟨rfl,rfl⟩:=trodVars_none hV;have I:=s 0 27 v0 rfl rfl;obtain⟨A,c,cap,rfl⟩:=okWide_slice Tryz.wD I;have P:=h0;obtain⟨aa,hf⟩:=h0;clear E k;simp only[List.append_nil]at u;have Q:∀x∈p,x.block<g.mN:=λx R=>by simpa using u.lt x R
 have y:∀(l:er),Go.RowKit.Below g.mN g l->DataW.Trod enc Tryz.prog l 0 (λb=>decide (b<g.mN)) true 27 (.slice A c cap) d0 p:=
  λl S=>Below.trod Tryz.laidOut (by kernel_rfl) (fQ (by kernel_rfl)) P S Q
 have m:∀(J:iA),J.jK=c->c<=9223372036854775807->(∀B,A=some B->B.spot=none/\(∃x,g.shape? B.block=some x)/\∀i,i<c->g.cell? (B.add i)=some (i64 (J.getD i 0)))->(A=none->c=0)->∃M last o K O,runNT Tryz.checked.prog (M+1) (solo (G (Frame.enter Tryz.checked.prog 6 #[.slice A c cap] .normal) []) g) #[]=(.ended o K,O)/\runN Tryz.checked.prog M (solo (G (Frame.enter Tryz.checked.prog 6 #[.slice A c cap] .normal) []) g)=.next last/\step Tryz.checked.prog last=.ended o K/\
   Conc.Good Tryz.checked.prog (λv l=>Rows.roundFewestSpec.post enc Tryz.checked.prog Tryz.f6 false true false false g #[.slice A c cap] v l) last o K O:=by
  intro J T S U L;obtain⟨M,last,o,K,O,X,Y,h3,h4⟩:=Go.Proofs.W.Nm Go.Proofs.W.Nn Go.Proofs.W.JQ (Go.Proofs.W.V.fn Tryz.func6 (by decide)) (tm:=2) (by kernel_rfl) (by decide) (by decide) (by decide) (by kernel_rfl) (λns la lc w X Y=>Go.Proofs.W.Cf X Y) T S U L (cap:=cap);refine⟨M,last,o,K,O,X,Y,h3,h4.mono λv hF=>?_⟩;obtain⟨rfl,d⟩:=hF;exact⟨_,_,_,[],p,[],u,trodAll_mk1 (shut_bool Tryz.VN true),trodAll_mk1 (y _ d),rfl,d.frame _,λh=>by cases h⟩
 obtain⟨n,R⟩|⟨a,ab,ac,J,n,_,hl,hm,T,R,z,ae⟩:=open_ints Tryz.wD Tryz.QC Tryz.Tx hf;simp[Value.cells]at n;obtain⟨rfl,rfl,rfl⟩:=n;exact m [] rfl (by omega) (λB h=>by cases h) λ_=>rfl;simp[Value.cells]at n;obtain⟨rfl,rfl,rfl⟩:=n;simp only[fF]at T;obtain⟨e1,e2⟩:=Ln Tryz.wD I;refine m (J.take c) (by simp;omega) (by simp only[maxLen]at hm;omega) (λB e=>?_) (λh=>by cases h);cases e;refine⟨e1,e2,λi hi=>?_⟩;rw[z i (by omega)];simp[kL,hi]
def No:Tryz.pinned.checked.prog.funcNamed Rows.roundFewestRow.func=some 6:=by kernel_rfl
def Qr:Tryz.f6.isInstance Tryz.pinned.checked.prog Rows.roundFewestRow.origin Rows.roundFewestRow.targs:=fQ (by kernel_rfl)
def Qs:Tryz.f6.isWrapper Tryz.pinned.checked.prog Rows.roundFewestRow.wrapper Rows.roundFewestRow.mainSum:=by unfold Func.isWrapper;first|(rw[eC (by decide+kernel)];kernel_rfl)|(rw[ez (by decide+kernel)];exact⟨rfl,rfl⟩)
def roundFewest_holds:Rows.RoundFewestSaid:=
 OpenClaim.holds_of_wide_leaving 6 Tryz.f6 rfl rfl rfl rfl rfl rfl rfl ⟨rfl,rfl,rfl,rfl,rfl⟩ rfl rfl rfl rfl rfl No Tryz.func6 Ig Qr Qs (λc a H b _=>zI c a H b)
#print axioms roundFewest_holds
end Go.Proofs.YteeagjkaflglpaaGreat
