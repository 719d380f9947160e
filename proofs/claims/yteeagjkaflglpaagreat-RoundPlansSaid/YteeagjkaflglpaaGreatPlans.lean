/- RoundPlans holds: the fewest canvassers, and the plan of the shifts, are the reference's. Conditions: none. -/
import Derived.Conc.CrowdTrace
import Derived.Below
import Derived.Deep.Slices
import Derived.Conc.LeavingOf
import Derived.Carry
import Derived.ChangeSlices
import Derived.WideShapes
import Derived.Test.YteeagjkaflglpaaGreatX05
set_option maxRecDepth 100000
set_option maxHeartbeats 8000000
set_option linter.all false
variable{m k i j o p s d:Nat}{w t e:cI}{x y z:cJ}{A B C:Nat->Prop}{R:Go.dz.dO}{l f:List Nat}{T U:cQ}{a:Option Go.Addr}{H N:Go.Proofs.W.Gd}{W X:Array cJ}{M Y:List cJ}{I J:Int}{D E:Bool}{K:dY}{S:cI->Prop}{P:cU}
namespace Go.Proofs.W
open Go.RowKit
def UN(a:List Dr)(c:m<a.length)(d:k<3):(a.flatMap dL)[m*3+k]? =(dL a[m])[k]? :=by have b:k<(dL a[m]).iN:=d;rw[eZ b];exact r9 (f:=dL) (n:=3) (λ_=>rfl) a m c k _ (eZ b)
def NI(b:List Dr):∀u∈b.flatMap dL,u.oneCell'=true:=λu c=>by have⟨d,_,a⟩:=lq.1 c;simp only[dL,eW,pB,mo]at a;obtain rfl|rfl|rfl:=a<;>rfl
def Ca(O:iR w a (H.doors.flatMap dL))(D:H.doors.length<=100000):Calls V.prog 36 #[gV H a m] w (fM λv E=>Ext w E/\∃b c,v=gV H b c/\mE w.heap.size E (.slice b H.doors.length c) H.doors):=by
 refine go (V.fn Tryz.func36 cK) Tryz.ntmps36 ?_;refine eH λX l F n G=>eS λI o i P h=>er [] 81 λY Z k p q=>?_;have d:=F.trans i;have s1:=F.size;have s2:=i.size;have s3:=k.size;refine cO (cN ((i.trans k).at_ G) rfl) (od (n0:=I.heap.size) SJ q p (re H.doors) ((O.ext d).ext k) (NI _) cL λv4 J K Q=>?_);have f:=Q I k (dg _);have R:=d.trans f;obtain⟨b,c,rfl,S,hc⟩:=mE.row K;have r:J.heap[l]? =some (.cells (gV H a m).cells 24):=f.at_ (i.at_ G);have s:=f.at_ h;refine dI r λT u g=>?_;replace g:T.heap[l]? =some (.cells (gL H b c).toArray 24):=g;have y:o≠l:=cK;have z:=u.fL s y;refine eI g (dI z λA L B=>?_);have C:A.heap[o]? =some (.cells (gL H b c).toArray 24):=B.trans (dE (λb=>some (Obj.cells b 24)) (ee (pK 24).toArray (gL H b c) rfl));have U:Sem.run V.prog (loadVar 24 (dq o 0)) A=.ok (gV H b c) A:=jr (gL H b c) C λj v hj=>cK;refine⟨gV H b c,U,_,rfl,(R.cS u n).cS L cL,b,c,rfl,?_⟩;have W:∀x,cV (.slice b H.doors.length c) x->∀M t,J.heap[x]? =some (.cells M t)->t=81:=λx N M t ht=>by grind [cZ.c_]
 exact mE.low (cZ.keep (cZ.keep K u λx N e=>cK) L (λx N e=>cK)) d.size
theorem mE.set{a:List Dr}(h:mE m w (.slice (some ⟨k,0,none⟩) a.length j) a)(p:w.heap[k]? =some (.cells W 81))(E:i<a.length)(g:t.heap[k]? =some (.cells (W.setIfInBounds (i*3+2) (.int .i64 I)) 81)):mE m t (.slice (some ⟨k,0,none⟩) (a.set i ⟨a[i].st,a[i].at_,I⟩).length j) (a.set i ⟨a[i].st,a[i].at_,I⟩):=by obtain⟨F,⟨G,_⟩|⟨s,H,u,v,e,c,J,K,x,y,L⟩⟩:=h;omega;injection e with e _ z;obtain rfl:k=s:=dE Addr.block (dQ e);rw[p]at c;injection c with c;injection c with c;subst c;subst z;have A:=re a;have b:=re (a.set i ⟨a[i].st,a[i].at_,I⟩);rw[qG]at b;refine⟨cK,.inr ⟨k,j,_,v,rfl,g,cK,cK,x,λf n=>?_,λf n B=>?_⟩⟩;rw[b]at n;obtain⟨q,r,rfl,o⟩:∃q r,f=q*3+r/\r<3:=⟨f/3,f%3,cL,cL⟩;have C:q<a.length:=cL;rw[UN _ cK o,List.getElem_set];have d:=y (q*3+r) cL;rw[UN a C o]at d;split;rename_i l;subst l;by_cases D:r=2;subst D;rw[oz cK];rfl;rw[fZ cL,d];obtain rfl|rfl:r=0\/r=1:=cL;rfl;rfl;grind;grind
def cZ.st{o b a c:Nat}{t:cQ}{p i k:dN}{w q:cI}{l d:eF}(h:cZ o t p w (.slice (some ⟨b,0,none⟩) a c) a i)(r:w.heap[b]? =some (.cells l t))(m:q.heap[b]? =some (.cells d t))(s:d.size=l.size)(u:k.length=i.length)(n:∀j,j<i.length->d[j]? =k[j]?)(g:∀j,i.length<=j->d[j]? =l[j]?)(I:0<a):cZ o t p q (.slice (some ⟨b,0,none⟩) a c) a k:=by obtain⟨v,⟨x,_⟩|⟨y,J,z,A,e,f,B,C,D,K,E⟩⟩:=h;omega;injection e with e _ F;obtain rfl:b=y:=dE Addr.block (dQ e);rw[r]at f;injection f with f;injection f with f;subst f;subst F;refine⟨by rw[u];exact v,.inr ⟨b,c,d,A,rfl,m,by rw[s];exact B,C,D,λj G=>n j cL,λj G H=>?_⟩⟩;rw[g j cL];exact E j cL cL
theorem HN:∀{l:eY} (i:Nat),I∈l->0<=sE I l i
 |y::r,i,h=>by simp only[sE];by_cases a:I=y;rw[cT a];exact Int.natCast_nonneg _;rw[cR a];exact HN (i+1) ((eW.1 h).resolve_left a)
def HQ:AJ (d:Int) (qo l)=decide (d∈l):=by
 have a:((d:Int)∈qo l)↔d∈l:=by unfold qo;rw[kF];constructor;rintro⟨e,b,h⟩;rw[<-Int.ofNat.inj h];exact b;exactλh=>⟨d,h,rfl⟩
 unfold AJ;by_cases h:d∈l;rw[decide_eq_true h,decide_eq_true (HN 0 (a.2 h))];rw[lL h,Lr 0 λc=>h (a.1 c)];rfl
section
variable{G:Gd}{da:Option Addr}{dc:Nat}{w:cI}{l:List Int}{la:Option Addr}{lc:Nat}
end
structure qB(b:Int)(x:Sx)(t:Td):Prop where
 tries:x.tries=t.times
 mornings:x.mornings=t.mornings
 evenings:x.evenings=t.evenings
 opened:x.opened=t.opened
 left:x.left=false
 up:∀i:Nat,i<3->py x i=true->(i:Int)<=t.day
 last:0<=t.day->py x t.day.toNat=true
 low:2*t.day<=b/\t.day<3
def qB.zero:qB 0 qV rj:=⟨rfl,rfl,rfl,rfl,rfl,λi a h=>by unfold py qV at h;revert h;split;intro h;cases h;split<;>(intro h;cases h),λh=>absurd h kA,kA,kA⟩
def qB.mono{x:Sx}{t:Td}(h:qB I x t)(a:I<=J):qB J x t:=⟨h.tries,h.mornings,h.evenings,h.opened,h.left,h.up,h.last,iD h.low,h.low.2⟩
def Bz(x:Sx)(s:Nat)(o:Bool)(a:s<6)(i:Nat)(b:i<3):py (ig x s o) i=(decide (i=s/2)||py x i):=by
 obtain rfl|rfl|rfl:i=0\/i=1\/i=2:=cL;all_goals
  obtain h|h|h:s/2=0\/s/2=1\/s/2=2:=cL;all_goals simp[py,ig,h]
theorem qB.step{b:Int}{x:Sx}{t:Td}(h:qB b x t)(q:Tq)(s:Nat)(f:q.shift=s)(d:s<6)(g:b<=s):qB s (ig x s q.opened) (N8 t q):=by have a:q.shift.toNat=s:=cL;refine⟨by simp[ig,N8,h.tries],by simp only[ig,N8,a,h.mornings],by simp only[ig,N8,a,h.evenings],by simp[ig,N8,h.opened],h.left,λi e c=>?_,λ_=>?_,?_⟩;show(i:Int)<=((q.shift.toNat/2:Nat):Int);rw[a];rw[Bz x s _ d i e]at c;simp only[Ka,j9]at c;obtain rfl|c:=c;exact Int.le_refl _;have:=h.up i e c;have:=h.low;omega;show py (ig x s q.opened) ((q.shift.toNat/2:Nat):Int).toNat=true;rw[a,ny,Bz x s _ d _ cL];simp;show 2*((q.shift.toNat/2:Nat):Int)<=s/\((q.shift.toNat/2:Nat):Int)<3;rw[a];omega
theorem qB.day{x:Sx}{t:Td}(h:qB I x t)(s:Nat)(b:s<6)(c:I<=s):py x (s/2)=true↔t.day=((s/2:Nat):Int):=by constructor;intro a;have d:=h.up (s/2) cL a;have e:=h.low;omega;intro a;have:=h.last cL;rwa[a,ny]at this
def qB.met{x:Sx}{t:Td}(h:qB I x t)(n:Int):ij n x=HH n t:=by unfold ij HH;rw[h.left,h.opened,h.tries,h.mornings,h.evenings,Bool.false_or]
def ol(l:List Tq)(q:Tq):eO (l++[q])=q.shift:=by unfold eO;rw[List.getLast?_concat]
theorem BA(x:H.days<=3):∀(l a:List Tq) (c:List Sx),c.length=H.doors.length->(∀d:Nat,d<H.doors.length->qB (eO a) (c.getD d qV) (rl d rj a))->yN H a l=(pd H c (eO a) l).1
 |[],a,c,_,_=>rfl
 |q::r,a,c,y,u=>by simp only[yN,pd];by_cases f:(l5 q.door 0 ((H.doors.iN:Int)-1)&&l5 q.shift 0 (2*H.days-1))=true;rw[cT f,cT f];simp only[l5,eU,j9]at f;have⟨d,g⟩:∃d:Nat,q.door=(d:Int):=⟨q.door.toNat,cL⟩;have⟨s,v⟩:∃s:Nat,q.shift=(s:Int):=⟨q.shift.toNat,cL⟩;have n:d<H.doors.iN:=cL;have i:s<6:=cL;have o:=u d n;by_cases j:q.shift<eO a;rw[cT j,cT j];rw[cR j,cR j];have z:q.shift.toNat=s:=cL;have p:q.door.toNat=d:=cL;rw[z,p,g];have b:=o.day s i cL;by_cases k:py (c.getD d qV) (s/2)=true;rw[cT (b.1 k),cT k];rw[cR λh=>k (b.2 h),cR k,<-o.met H.tries];by_cases m:ij H.tries (c.getD d qV)=true;rw[cT m,cT m];rw[cR m,cR m];have e:q.shift=eO (a++[q]):=(ol a q).symm;rw[e];refine BA x r (a++[q]) _ (eV y) λw t=>?_;rw[ol,wN,v];by_cases A:w=d;subst A;rw[cT g,gD,List.getElem?_set_self cL];exact o.step q s v i cL;rw[cR cL,gD,List.getElem?_set_ne cL,<-gD];exact(u w t).mono cL;rw[cR f,cR f]
def TJ(G:Gd)(l:List Tq):JP G l=nM G l:=by unfold JP nM;by_cases h:em G=0;rw[cT h,cT h];refine BA (eD h).days.2 l [] _ dt λd a=>?_;rw[gD,List.getElem?_replicate,cT a];exact qB.zero;rw[cR h,cR h]
def lT{c:Type}(f:c->dN)(n:Nat)(w:cI)(a:dV)(l:List c):Prop:=∀k (h:k<l.length),∃b o,a=some ⟨b,o,none⟩/\∀j v,(f l[k])[j]? =some v->w.cell? ⟨b,o+k*n+j,none⟩=some v
theorem lT.cells{i:Type}{f:i->dN}{n:Nat}{w:cI}{a:dV}{l:List i}(h:lT f n w a l)(k:0<n)(m:∀x,(f x).length=n):iR w a (l.flatMap f):=by obtain d|d:=mM l.length;exact .inl (by rw[oA d];rfl);have⟨b,o,e,_⟩:=h 0 d;refine .inr ⟨b,o,e,λj u p=>?_⟩;have c:=(kX.1 p).1;rw[Bv m]at c;have g:=Nat.div_add_mod j n;have y:=Nat.mod_lt j k;have q:j/n<l.length:=(Nat.div_lt_iff_lt_mul k).2 c;rw[Nat.mul_comm]at g;have r:j%n<(f l[j/n]).length:=cK;have s:=r9 m l (j/n) q (j%n) _ (eZ r);rw[g,p]at s;have⟨z,A,t,v⟩:=h (j/n) q;rw[e]at t;cases t;have:=v (j%n) _ (eZ r);rw[Ke,g]at this;rw[this,dQ s]
def lT.own{d:Type}{f:d->dN}{n g:Nat}{w:cI}{l:List d}(h:cZ g T M w z l.length (l.flatMap f))(r:M.length=n)(i:∀x,(f x).length=n):∃a c,z=.slice a l.length c/\lT f n w a l/\l.length<=c:=by obtain⟨s,⟨t,rfl⟩|⟨b,c,u,v,rfl,m,y,o,A,B,C⟩⟩:=h;exact⟨none,0,cK,λk e=>cL,cL⟩;refine⟨_,c,rfl,λk e=>⟨b,0,rfl,λj z p=>cN m ?_⟩,o⟩;have q:j<(f l[k]).iN:=cK;have D:=r9 i l k e j z p;grind
theorem kq.cells{w:cI}{a:dV}{l:List Tq}(h:kq w a l):iR w a (l.flatMap uS):=lT.cells (f:=uS) (n:=3) h cK λ_=>rfl
theorem gX.cells{w:cI}{a:dV}{l:List Dr}(h:gX w a l):iR w a (l.flatMap dL):=lT.cells (f:=dL) (n:=3) (λk d=>by
 obtain⟨b,o,e,g,i,m⟩:=h k d;refine⟨b,o,e,λj v c=>?_⟩;match j,c with
 |0,c=>cases c;grind
 |1,c=>cases c;grind
 |2,c=>cases c;grind) cK λ_=>rfl
def iL(n:Int):dN:=[.int .i64 n]
theorem kD.cells{w:cI}{a:dV}{l:eY}(h:kD w a l):iR w a (l.flatMap iL):=lT.cells (f:=iL) (n:=1) (λk d=>by
 obtain⟨b,o,e,g⟩:=h k d;refine⟨b,o,e,λj v c=>?_⟩;match j,c with
 |0,c=>cases c;grind) cK λ_=>rfl
def zl(a:Nat)(w:cI)(v:cJ)(l:List Tq):Prop:=cZ a 84 [.int .i64 0,.int .i64 0,.bool false] w v l.length (l.flatMap uS)
def HT(a:Nat)(w:cI)(v:cJ)(l:eY):Prop:=cZ a 3 [.int .i64 0] w v l.length (l.flatMap iL)
def zl.row{w:cI}{l:List Tq}(h:zl m w z l):∃a c,z=.slice a l.length c/\kq w a l/\l.length<=c:=lT.own h rfl λ_=>rfl
def HT.row{w:cI}{l:eY}(h:HT m w z l):∃a c,z=.slice a l.length c/\kD w a l/\l.length<=c:=by obtain⟨a,c,d,g,i⟩:=lT.own (f:=iL) (n:=1) h rfl λ_=>rfl;refine⟨a,c,d,λk j=>?_,i⟩;obtain⟨b,o,e,p⟩:=g k j;have:=p 0 _ rfl;grind
def VN{a:Type}{f:a->dN}(b:∀x,∀u∈f x,u.oneCell'=true)(l:List a):∀u∈l.flatMap f,u.oneCell'=true:=cK
def VO(x:Tq):∀u∈uS x,u.oneCell'=true:=λu a=>by simp only[uS,eW,pB,mo]at a;obtain rfl|rfl|rfl:=a<;>rfl
def QP{l:List Tq}{w:cI}(h:kq w a l)(c:l.length<=100000):Calls V.prog 37 #[.slice a l.length m] w (fM λv d=>Ext w d/\zl w.heap.size d v l):=by refine go (V.fn Tryz.func37 cK) Tryz.ntmps37 ?_;exact er [] 84 λj k e b g=>od (n0:=w.heap.size) UM g b (Bv (f:=uS) (n:=3) (λ_=>rfl) l) (h.ext e).cells (VN VO l) cL λv o i p=>⟨_,rfl,cK,i⟩
section
variable{x y:dW}{w:cI}
def W5(q:Tq):Sem.run V.prog (do eqGuard .neq 84 x y (.agg (uS q).toArray) (.agg (uS q).toArray);binOp .neq 84 (.agg (uS q).toArray) (.agg (uS q).toArray)) w=.ok (.bool false) w:=by have⟨a,b,c⟩:=q;show Sem.run jS (do eqGuard .neq 84 x y (.agg #[i64 a,i64 b,.bool c]) (.agg #[i64 a,i64 b,.bool c]);binOp .neq 84 (.agg #[i64 a,i64 b,.bool c]) (.agg #[i64 a,i64 b,.bool c])) w=.ok (.bool false) w;go_simp
def W7(q:Dr):Sem.run V.prog (do eqGuard .neq 81 x y (.agg (dL q).toArray) (.agg (dL q).toArray);binOp .neq 81 (.agg (dL q).toArray) (.agg (dL q).toArray)) w=.ok (.bool false) w:=by have⟨a,b,c⟩:=q;show Sem.run jS (do eqGuard .neq 81 x y (.agg #[i64 a,i64 b,i64 c]) (.agg #[i64 a,i64 b,i64 c]);binOp .neq 81 (.agg #[i64 a,i64 b,i64 c]) (.agg #[i64 a,i64 b,i64 c])) w=.ok (.bool false) w;go_simp
end
def HU{l:List Tq}{f:Option Addr}{w:cI}(q:kq w a l)(h:kq w f l)(p:l.length<=100000):
 Calls V.prog 41 #[.slice a l.length m,.slice f l.length k] w (fM λv g=>v=.bool true/\Ext w g):=by
 refine go (V.fn Tryz.func41 cK) Tryz.ntmps41 ?_;refine dm (dm (gQ (lh dt ?_)));refine fA l.length (λd (_:Unit)=>[(0,.slice a l.length m),(1,.slice f l.length k),(5,i64 d)]) (λd _ g=>Ext w g) () ⟨by trivial,Ext.refl _⟩ ?_;rintro d _ g x e;refine dm (dK ⟨λc=>?_,λr=>⟨_,rfl,rfl,e⟩⟩);have c:d<l.length:=cK;obtain⟨b,o,rfl,y⟩:=q d c;obtain⟨z,A,rfl,s⟩:=h d c;exact dD dC (jq d 3 c (dx (.agg (uS l[d]).toArray) (λi n=>ew (vs:=uS l[d]) (λj v t=>(e.trans n).cell cK) ⟨rfl,Ext.refl _⟩) (jq d 3 c (dx (.agg (uS l[d]).toArray) (λi n=>ew (vs:=uS l[d]) (λj v t=>(e.trans n).cell cK) ⟨rfl,Ext.refl _⟩) (dx (.bool false) (λi _=>⟨_,i,W5 _,rfl,Ext.refl _⟩) λB u=>lh rfl (cW ⟨c,(),by trivial,e.trans u⟩))))))
def Cb{q:dV}{w:cI}(J:gX w a H.doors)(x:gX w q H.doors)(E:H.doors.length<=100000):Calls V.prog 40 #[gV H a m,gV H q k] w (fM λv g=>v=.bool true/\Ext w g):=by
 refine Ry (V.fn Tryz.func40 cK) Tryz.ntmps40 (dP.seq dr ?_);refine eH λu F r K n=>eH λL s G M y=>?_;have N:=r.trans G;have n:=G.at_ n;refine dP.gN (dP.of dr (cO (cN n rfl) (dm (cO (cN y rfl) (dm (gQ (lh dt ?_)))))));refine dP.gN (dP.of dr ?_);refine fA H.doors.length (λc (_:Unit)=>[(2,di F),(3,di s),(5,i64 c)]) (λc _ g=>Ext L g) () ⟨by trivial,Ext.refl _⟩ ?_;rintro c _ I W e;have l:=N.trans e;refine cO (cN (e.at_ n) rfl) (dm (dK ⟨λf=>?_,λO=>?_⟩));have f:c<H.doors.length:=cK;have⟨b,o,z,P,Q,i⟩:=J c f;have⟨R,S,t,A,B,C⟩:=x c f;subst z t
 have T:∀{g} (h:Ext I g),∀j v,(dL H.doors[c])[j]? =some v->g.cell? (dq b (o+c*3+j))=some v:=λh j v d=>by
  match j,d with
  |0,d=>cases d;exact(l.trans h).cell P
  |1,d=>cases d;exact(l.trans h).cell Q
  |2,d=>cases d;exact(l.trans h).cell i
 have D:∀{g} (h:Ext I g),∀j v,(dL H.doors[c])[j]? =some v->g.cell? (dq R (S+c*3+j))=some v:=λh j v d=>by
  match j,d with
  |0,d=>cases d;exact(l.trans h).cell A
  |1,d=>cases d;exact(l.trans h).cell B
  |2,d=>cases d;exact(l.trans h).cell C
 exact dD dC (dl (cN (e.at_ n) rfl) (jq c 3 f (dx (.agg (dL H.doors[c]).toArray) (λu r=>ew (vs:=dL H.doors[c]) (T r) gd) (dl (cN (e.at_ y) rfl) (jq c 3 f (dx (.agg (dL H.doors[c]).toArray) (λu r=>ew (vs:=dL H.doors[c]) (D r) gd) (dx (.bool false) (λu _=>⟨_,u,W7 _,rfl,Ext.refl _⟩) λX U=>lh rfl (cW ⟨f,(),by trivial,e.trans U⟩))))))));refine dP.jj (l0:=[(2,di F),(3,di s)]) (by trivial) (dP.gN (mR.start (mR.B8 41 dr ?_)));have p:=e.at_ n;have i:=e.at_ y;refine cO (cN p rfl) (cO (cN i rfl) (fc (jX (decide_eq_true rfl) ?_)));refine cO (cN p rfl) (cO (cN i rfl) (fc (jX (decide_eq_true rfl) ?_)));refine cO (cN p rfl) (cO (cN i rfl) (fc (jX (decide_eq_true rfl) ?_)));refine cO (cN p rfl) (cO (cN i rfl) (fc (jX (decide_eq_true rfl) ?_)));refine cO (cN p rfl) (cO (cN i rfl) (fc (jX (decide_eq_true rfl) ?_)));exact cO (cN p rfl) (cO (cN i rfl) (fc (mR.fin (dP.of dr ⟨_,rfl,dE Value.bool (decide_eq_true rfl),l⟩))))
variable{G:Gd}{da:Option Addr}{dc:Nat}{w:cI}
def NJ{l:List Tq}{a:Option Addr}{c:Nat}(d:kq w a l)(e:l.length<=100000):Calls V.prog 126 #[.slice a l.length c] w (fM λv f=>v=.int .i64 (eO l)/\f=w):=by refine go (V.fn Tryz.func126 cK) Tryz.ntmps126 ?_;refine dm (fc ⟨λh=>?_,λh=>?_⟩);have h:l.length=0:=cK;exact⟨_,rfl,by rw[oA h];rfl,rfl⟩;have h:¬l.length=0:=cK;obtain⟨b,o,rfl,g⟩:=d (l.length-1) cL;refine dm (gC (fE (l.length-1) 3 cL (cO (g 1 _ rfl) ⟨_,rfl,?_,rfl⟩) cL));show Value.int .i64 _=_;unfold eO;grind
def tR(p:gX w da G.doors)(b:G.doors.length<=100000){l:List Tq}{j:Option Addr}{k:Nat}(m:kq w j l)(c:l.length<=100000)(e:l.length<=k)(s:Int):
 Calls V.prog 99 #[gV G da dc,.slice j l.length k,.int .i64 s] w (fM λv q=>v=.int .i64 (dG G l s 0)/\Ext w q):=by
 refine go (V.fn Tryz.func99 cK) Tryz.ntmps99 ?_;refine eH λu x f r n=>eI n (ek (QI (dc:=dc) (p.ext f) b (m.ext f) c e) λy o=>?_);rw[TJ];have d:=f.trans o;unfold dG;refine gQ ⟨λh=>?_,λh=>?_⟩;have h:¬nM G l=0:=fH h;exact⟨_,rfl,by rw[cR h];rfl,d⟩;have h:nM G l=0:=cK;have t:em G=0:=by unfold nM at h;grind
 have g:=(eD t).days;rw[cT h];unfold qT;refine cO (cN (o.at_ n) rfl) (oT (gC (dH (iG _ _ _ _) (eC ⟨λa=>?_,λa=>?_⟩))));have a:l5 s 0 (2*G.days-1)=false:=cK;exact⟨_,rfl,by rw[a];rfl,d⟩;have a:l5 s 0 (2*G.days-1)=true:=cK;refine dH (NJ (m.ext d) c) (dK ⟨λi=>?_,λi=>?_⟩);exact⟨_,rfl,by rw[a,cT (fH i)];rfl,d⟩;exact⟨_,rfl,by rw[a,cR (iP i)];rfl,d⟩
def Lz{l:eY}:decide (sE I l 0<0)=!AJ I l:=by grind [decide_eq_true,decide_eq_false,AJ,sE]
def qC(T:Int)(t:Td):Du:=
 ⟨if(decide (1<T)&&decide (t.mornings=0))&&(decide (1<T)&&decide (t.evenings=0))then max 2 (max 1 (T-t.times))else max 1 (T-t.times),decide (1<T)&&decide (t.mornings=0),decide (1<T)&&decide (t.evenings=0)⟩
section
variable{G:Gd}{da:Option Addr}{dc:Nat}{w:cI}
def QQ{l:List Tq}{la:dV}{lc:Nat}(hT:0<=G.tries/\G.tries<=1000)(hr:kq w la l)(z:l.length<=100000)(hs:∀q∈l,0<=q.shift/\q.shift<=1000)(d:Nat):
 Calls V.prog 141 #[gV G da dc,.slice la l.length lc,.int .i64 d] w (fM λv m=>v=.agg (xI d (qC G.tries (rl d rj l))).toArray/\Ext w m):=by
 have L:=vH d l;refine Tw Tryz.func141 Tryz.ntmps141 (dP.seq dr ?_);refine eH λw1 gb e1 aa hb=>eS λw2 o N ab A=>?_;have E2:=e1.trans N;refine dP.seq dr (ek (rZ (hr.ext E2) z hs d) λw3 F=>eS λw4 H O ac P=>dI P λI R g=>?_);generalize rl d rj l=t at*;have⟨b1,b2,b3⟩:=L;have g:I.heap[H]? =some (.cells (Im t).toArray 173):=g.trans (dE (λa=>some (Obj.cells a 173)) (ee (pK 173).toArray _ rfl));have s1:=e1.size;have s2:=N.size;have s3:=F.size;have ad:=dz.lt_of_heap hb;have ae:=dz.lt_of_heap A;have k:=R.fL (O.at_ (F.at_ (N.at_ hb))) (show¬gb=H by omega);have B:=R.fL (O.at_ (F.at_ A)) (show¬o=H by omega);have S:Ext w I:=((E2.trans F).trans O).cS R cL;refine dP.gN (dP.mono (Q:=λe C m=>e=.normal/\∃c,Sub [(3,di gb),(6,di o),(7,di H),(8,di c)] C/\Ext I m/\I.heap.size<=c/\m.heap[c]? =some (.cells (xI d ⟨0,decide (1<G.tries)&&decide (t.mornings=0),decide (1<G.tries)&&decide (t.evenings=0)⟩).toArray 101)) ?_ ?_);rintro e C w6 ⟨rfl,c,T,n,f,i⟩;generalize hM:(decide (1<G.tries)&&decide (t.mornings=0))=M at*;generalize hE:(decide (1<G.tries)&&decide (t.evenings=0))=E at*;have U:=n.at_ k;have W:=n.at_ g;have X:=n.at_ B;have D:¬o=c:=iD (dz.lt_of_heap B);refine dP.jj T (dP.seq dr ?_);refine cO (cN U rfl) (cO (cN W rfl) (gC (rI (dI i λJ y b=>?_))));have b:J.heap[c]? =some (.cells (xI d ⟨max 1 (G.tries-t.times),M,E⟩).toArray 101):=b;have p:=y.fL X D;have Y:Ext w J:=(S.trans n).cS y (iD S.size);have hq:qC G.tries t=⟨if M&&E then max 2 (max 1 (G.tries-t.times))else max 1 (G.tries-t.times),M,E⟩:=by unfold qC;rw[hM,hE]
 refine dP.jj (l0:=[(6,di o),(8,di c)]) (by trivial) (dP.gN (dP.mono (Q:=λe C m=>e=.normal/\Sub [(6,di o),(8,di c)] C/\Ext w m/\m.heap[o]? =some (.cells (pK 101).toArray 101)/\m.heap[c]? =some (.cells (xI d (qC G.tries t)).toArray 101)) ?_ ?_));rintro e C w8 ⟨rfl,T,E8,Z,r⟩;generalize qC G.tries t=u at*;refine dP.jj T (dP.of dr ?_);refine ew (vs:=xI d u) (λj v hj=>by rw[dj];exact cN r (eV hj)) (dI Z λw9 k9 s=>?_);have s:w9.heap[o]? =some (.cells (xI d u).toArray 101):=s.trans (dE (λa=>some (Obj.cells a 101)) (ee (pK 101).toArray _ rfl));exact⟨.agg (xI d u).toArray,jr _ s λj v hj=>by rw[dj];simpa using hj,_,rfl,rfl,E8.cS k9 cL⟩;rw[hq];refine dP.of dr (cO (cN b rfl) ⟨λK=>cO (cN b rfl) ⟨λh2=>?_,λh2=>?_⟩,λK=>?_⟩);subst K h2;refine cO (cN b rfl) (rI (dI b λw8 k8 r=>⟨rfl,by trivial,Y.cS k8 (iD S.size),k8.fL p D,r⟩));subst K h2;exact⟨rfl,by trivial,Y,p,b⟩;subst K;exact lh rfl ⟨rfl,by trivial,Y,p,b⟩;refine dP.of dr (cO (cN k rfl) (mP ⟨λh=>cO (cN g rfl) (fc (cO (cN k rfl) (mP ⟨λx=>cO (cN g rfl) (fc ?_),λx=>?_⟩))),λh=>cO (cN k rfl) (mP ⟨λx=>?_,λx=>?_⟩)⟩));rw[h];exact ez (.agg (xI d ⟨0,decide (t.mornings=0),decide (t.evenings=0)⟩).toArray) (eS λw6 c n f i=>dI i λJ y b=>⟨rfl,c,by trivial,n.cS y f,f,b⟩);rw[h]at x;cases x;rw[h]at x;cases x;rw[h];exact ez (.agg (xI d ⟨0,false,false⟩).toArray) (eS λw6 c n f i=>dI i λJ y b=>⟨rfl,c,by trivial,n.cS y f,f,b⟩)
end
def BB(t:Td)(k:Nat)(p:cM)(s:Nat):Bool:=(decide (0<k)&&decide (s/2<=p.getD (k-1) 0/2))||decide (((s/2:Nat):Int)=t.day)
def mG(t:Td)(f n k:Nat)(p:cM):List cM:=((List.range n).filter λj=>!BB t k p (f+j)).map λj=>p++[f+j]
def jx(t:Td)(f n:Nat):Nat->List cM
 |0=>[[]]
 |k+1=>(jx t f n k).flatMap (mG t f n k)
def wR(M E:Bool)(p:cM):Bool:=(p.any (λs=>decide (s%2=0))||!M)&&(p.any (λs=>decide (s%2=1))||!E)
def vK(G:Gd)(t:Td)(f:Nat):List cM:=(jx t f ((2*G.days).toNat-f) (qC G.tries t).tries.toNat).filter (wR (qC G.tries t).morning (qC G.tries t).evening)
def uC(t:Td)(f n k:Nat)(p:cM):(mG t f n k p).length<=n:=by unfold mG;rw[nR];exact dw (List.length_filter_le _ _) dt
theorem tS{t:Td}:∀{c:Nat} {p:cM},p∈jx t m k c->p.length=c/\∀s∈p,m<=s/\s<m+k
 |0,p,h=>by
  obtain rfl:p=[]:=by simpa[jx]using h
  exact⟨rfl,λs a=>by cases a⟩
 |c+1,p,h=>by simp only[jx,lq]at h;have⟨q,b,h⟩:=h;have b:=tS b;simp only[mG,kF,nA,fP]at h;obtain⟨j,⟨d,_⟩,rfl⟩:=h;refine⟨by simp[b.1],λs a=>?_⟩;obtain a|a:=jy.1 a;exact b.2 s a;obtain rfl:s=m+j:=eV a;omega
theorem mc{a c:Type}{g:a->List c}(b:∀x,(g x).length<=m):∀l:List a,(l.flatMap g).length<=l.length*m
 |[]=>dt
 |x::r=>by have:=mc b r;have:=b x;simp only[oB,lU,fi,Nat.succ_mul];omega
def BC{t:Td}{f n:Nat}(a:n<=6):∀{k:Nat},k<=3->(jx t f n k).length<=216:=by
 have b:(jx t f n 1).length<=6:=by have:=mc (λp=>uC t f n 0 p) (jx t f n 0);simp only[jx,fi,fO]at this⊢;omega
 have c:(jx t f n 2).length<=36:=by have:=mc (λp=>uC t f n 1 p) (jx t f n 1);have e:(jx t f n 2)=(jx t f n 1).flatMap (mG t f n 1):=rfl;rw[e];exact dw this (Nat.mul_le_mul b a)
 have d:(jx t f n 3).length<=216:=by have:=mc (λp=>uC t f n 2 p) (jx t f n 2);have e:(jx t f n 3)=(jx t f n 2).flatMap (mG t f n 2):=rfl;rw[e];exact dw this (Nat.mul_le_mul c a)
 intro k g;obtain rfl|rfl|rfl|rfl:k=0\/k=1\/k=2\/k=3:=cL;simp[jx];omega;omega;exact d
def EX{T:Int}{t:Td}(a:0<=T/\T<=3)(b:0<=t.times):1<=(qC T t).tries/\(qC T t).tries<=3:=by unfold qC;simp only;split<;>omega
def fe.at{d:List cM}(h:fe m w x d)(i:k<d.length):∃b c a e,x=.slice (some ⟨b,0,none⟩) d.length c/\w.cell? ⟨b,k,none⟩=some (.slice a d[k].length e)/\eK m w (.slice a d[k].length e) d[k]/\fN w a d[k]/\d[k].length<=e:=by obtain⟨r,⟨s,⟨t,rfl⟩|⟨b,c,v,y,rfl,j,z,A,B,l,C⟩⟩,D,f⟩:=h;omega;have⟨u,n,g⟩:=f k i;obtain⟨o,e,rfl,p,q⟩:=g.row;exact⟨b,c,o,e,rfl,cN j (by rw[l k cL];exact n),g,p,q⟩
section
variable{G:Gd}{da:Option Addr}{dc:Nat}{w:cI}
def EY(ok:G.Ok){l:List Tq}{N:dV}{lc:Nat}(hr:kq w N l)(af:l.length<=100000)(hs:∀q∈l,0<=q.shift/\q.shift<=1000)(d f:Nat)(hf:f<=1000):
 Calls V.prog 142 #[gV G da dc,.slice N l.length lc,.int .i64 d,.int .i64 f] w (fM λv g=>Ext w g/\fe w.heap.size g v (vK G (rl d rj l) f)):=by
 have⟨t,ht⟩:=jQ (rl d rj l);have aP:TC l.length t:=by grind [vH]
 have⟨b1,b2,b3⟩:=aP;have bf:=ok.days;have bg:=ok.tries;have⟨D2,bh⟩:=jQ ((2*G.days).toNat);have hD:(D2:Int)=2*G.days:=cL;have⟨n,hn⟩:=jQ (D2-f);have ak:n<=6:=cL;have bi:=EX (T:=G.tries) (t:=t) cL b1.1;have av:∀{w1:cI},Ext w w1->Calls V.prog 141 #[gV G da dc,.slice N l.length lc,i64 d] w1 (fM λv g=>v=.agg (xI d (qC G.tries t)).toArray/\Ext w1 g):=λe=>by rw[ht];exact QQ cL (hr.ext e) af hs d
 have aw:vK G (rl d rj l) f=(jx t f n (qC G.tries t).tries.toNat).filter (wR (qC G.tries t).morning (qC G.tries t).evening):=by grind [vK]
 rw[aw];have ax:∀{w1:cI},Ext w w1->Calls V.prog 140 #[.slice N l.length lc,i64 d] w1 (fM λv g=>v=.agg (Im t).toArray/\Ext w1 g):=λe=>by rw[ht];exact rZ (hr.ext e) af hs d
 generalize qC G.tries t=u at*;have⟨K,hK⟩:∃K:Nat,u.tries=K:=⟨u.tries.toNat,cL⟩;have aQ:u.tries.toNat=K:=cL;rw[aQ];have aR:K<=3:=cL;clear aw ht;refine Ry (V.fn Tryz.func142 cK) Tryz.ntmps142 (dP.seq dr ?_);refine eH λw1 gb e1 bj hb=>dP.seq dr<|dP.seq dr (eI hb (ek (av e1) λw2 e2=>eS λw3 ub e3 bc aS=>dI aS λw4 k4 al=>?_));have al:w4.heap[ub]? =some (.cells (xI d u).toArray 101):=al.trans (dE (λa=>some (Obj.cells a 101)) (ee (pK 101).toArray _ rfl));have s1:=e1.size;have s2:=e2.size;have aT:=k4.fL (e3.at_ (e2.at_ hb)) (show¬gb=ub by grind);have E4:Ext w w4:=((e1.trans e2).trans e3).cS k4 cL;refine dP.seq dr (er [fl] 27 λw5 ab e5 bk ay=>?_);have E5:=E4.trans e5;have s4:=E4.size;have s5:=E5.size
 have aU:fe w.heap.size w5 (fa ab 1 1) (jx t f n 0):=⟨[fl],⟨rfl,.inr ⟨ab,1,_,cL,rfl,ay,rfl,dg _,cK,λj _=>dt,λj hj bl=>cK⟩⟩,rfl,λk hk=>by
  obtain rfl:k=0:=by grind [jx]
  exact⟨_,rfl,cZ.nil _ _ _ _⟩⟩
 refine dP.gN (dP.gN (dP.of dr ?_));refine nu K (λk (v:cJ)=>[(1,.slice N l.length lc),(2,i64 d),(3,i64 f),(4,di gb),(9,fl),(10,di ub),(11,v),(12,i64 k)]) (λk v g=>Ext w5 g/\fe w.heap.size g v (jx t f n k)) (fa ab 1 1) ⟨by trivial,Ext.refl _,aU⟩ ?_;rintro k v6 w6 hk ⟨e6,O⟩;have az:=(e5.trans e6).at_ al;have aV:=(e5.trans e6).at_ aT;refine dP.gN (dP.of dr (cO (cN az rfl) (dK ⟨λbm=>?_,λbn=>?_⟩)));have aW:k<K:=cK;obtain⟨a6,c6,rfl,_,_⟩:=O.row;have ag:=BC (t:=t) (f:=f) ak (show k<=3 by omega);have E6:=E5.trans e6;refine dP.gN (dP.block (dP.seq dr (dP.gN (dP.gN (dP.of dr ?_)))));refine nu (jx t f n k).length (λi v=>[(1,.slice N l.length lc),(2,i64 d),(3,i64 f),(4,di gb),(9,fl),(10,di ub),(11,.slice a6 (jx t f n k).length c6),(12,i64 k),(13,v),(14,i64 i)]) (λi v g=>Ext w6 g/\fe w6.heap.size g v (((jx t f n k).take i).flatMap (mG t f n k))) (fl) ⟨by trivial,Ext.refl _,[],cZ.nil _ _ _ _,rfl,λk hk=>cK⟩ ?_;rintro i v7 w7 hi ⟨L,J⟩;refine dP.gN (dP.of dr (dm (dK ⟨λaA=>?_,λaB=>?_⟩)));have c:i<(jx t f n k).length:=cK;have⟨p,hp⟩:=jQ ((jx t f n k)[i]);have ac:=tS (eB c);rw[<-hp]at ac;have bo:((jx t f n k).take i).flatMap (mG t f n k)=((jx t f n k).take i).flatMap (mG t f n k):=rfl;have aX:(((jx t f n k).take i).flatMap (mG t f n k)).length<=216*6:=by have h1:=mc (λp=>uC t f n k p) ((jx t f n k).take i);have F:((jx t f n k).take i).length<=216:=cK;exact dw h1 (Nat.mul_le_mul F ak)
 have o:((jx t f n k).take (i+1)).flatMap (mG t f n k)=((jx t f n k).take i).flatMap (mG t f n k)++mG t f n k p:=by rw[iw c,List.flatMap_append,<-hp];simp
 generalize hP:((jx t f n k).take i).flatMap (mG t f n k)=P at*;refine dP.gN (dP.block (dP.gN (dP.of dr ?_)));refine nu n (λj v=>[(1,.slice N l.length lc),(2,i64 d),(3,i64 f),(4,di gb),(9,fl),(10,di ub),(11,.slice a6 (jx t f n k).length c6),(12,i64 k),(13,v),(14,i64 i),(15,i64 ((f+j:Nat):Int))]) (λj v g=>Ext w6 g/\fe w6.heap.size g v (P++((List.range j).filter λj=>!BB t k p (f+j)).map λj=>p++[f+j])) v7 ⟨by trivial,L,cK⟩ ?_;rintro j v8 w8 hj ⟨x,R⟩;have aY:=x.at_ aV;refine dP.gN (dP.of dr (cO (cN aY rfl) (oT (dK ⟨λaC=>?_,λaD=>?_⟩))));have aE:j<n:=cK;have bp:(((List.range j).filter λj=>!BB t k p (f+j)).map λj=>p++[f+j]).length<=j:=by grind
 have C:((List.range (j+1)).filter λj=>!BB t k p (f+j)).map (λj=>p++[f+j])=(((List.range j).filter λj=>!BB t k p (f+j)).map λj=>p++[f+j])++if BB t k p (f+j)then []else [p++[f+j]]:=by rw[mL,List.filter_append,oC,List.filter_cons];grind
 generalize ((List.range j).filter λj=>!BB t k p (f+j)).map (λj=>p++[f+j])=Q at*;have S:((f+j:Nat):Int)+1=((f+(j+1):Nat):Int):=cL;have⟨s,aZ⟩:=jQ (f+j);rw[<-aZ]at C S⊢;have bq:s<=2000:=cL;have⟨b6,am,a7,c7,a0,r,H,B,an⟩:=O.at c;rw[<-hp]at r H B an;obtain⟨rfl,rfl⟩:a6=some (dq b6 0)/\c6=am:=cK;have I:=x.cell r;refine dP.gN (dP.block (dP.gN (dP.gN (dP.mono (Q:=λe l' g=>e=.normal/\Sub [(1,.slice N l.length lc),(2,i64 d),(3,i64 f),(4,di gb),(9,fl),(10,di ub),(11,fa b6 (jx t f n k).length c6),(12,i64 k),(13,v8),(14,i64 i),(15,i64 (s:Int)),(69,.bool (BB t k p s))] l'/\Ext w8 g) ?_ ?_))));rintro e l' M ⟨rfl,hS,E⟩;refine dP.jj hS (dP.of dr ⟨λao=>?_,λao=>?_⟩);rw[ao,cT rfl,List.append_nil]at C;refine dP.of dr (cW ⟨aE,v8,⟨rfl,rfl,rfl,rfl,rfl,rfl,rfl,rfl,rfl,rfl,dE (λn=>some (Value.int .i64 n)) S,trivial⟩,x.trans E,?_⟩);rw[C];exact R.ext E;rw[ao,cR Bool.false_ne_true]at C;have ad:=x.trans E;have s6:=e6.size;have a1:=ad.size;refine dP.of dr (er [] 3 λa2 nb D aF U=>eX i c (cO (by rw[dj];exact(E.trans D).cell I) (od (n0:=M.heap.size) n8 U aF (by simp[gm]) (B.ext (ad.trans D)).cells (wz p) cL λq aG hq hE=>?_)));have ah:Ext M aG:=hE M D (dg _);refine er [i64 (s:Int)] 3 λbr bs ae bd aH=>gR n8 (cZ.ext hq ae) (ah.trans ae).size aH cL λq' aI g1 g2 g3=>?_;have aJ:Ext M aI:=(ah.trans ae).iI g2 (cZ.ext hq ae) (dg _);have ai:eK M.heap.size aI q' (p++[s]):=by unfold eK;rw[lU];simpa[gm]using g1
 obtain⟨a3,a4,rfl,_,_⟩:=ai.row;refine er [.slice a3 (p++[s]).length a4] 27 λbt bu aK be aL=>?_;have W:=aJ.trans aK;have aj:=(R.ext E).ext W;refine wM aj (ad.trans W).size (eK.low (cZ.ext ai aK) a1) aL cK λv' bv g4 g5 _=>dP.of dr (cW ⟨aE,v',⟨rfl,rfl,rfl,rfl,rfl,rfl,rfl,rfl,rfl,rfl,dE (λn=>some (Value.int .i64 n)) S,trivial⟩,(ad.trans W).tG g5 λb hb=>(aj.blk hb).1,?_⟩);grind;have aM:Ext w w8:=E6.trans x;refine dP.of dr (mP ⟨λh0=>?_,λh0=>?_⟩);have aN:0<k:=cK;have ap:k-1<p.length:=cL;obtain⟨b7,o7,rfl,aq⟩:=B (k-1) ap;have bw:=ac.2 _ (eB ap);have bx:p.getD (k-1) 0=p[k-1]:=getD_eq ap;refine li (n:=2) cK cL (eX i c (cO (by rw[dj];omega) (gC (eX (k-1) cL (cO (x.cell aq) (li (n:=2) cK cL (sv ⟨λF=>?_,λF=>?_⟩))) cL))));have F:s/2<=p[k-1]/2:=cK;exact⟨rfl,⟨rfl,rfl,rfl,rfl,rfl,rfl,rfl,rfl,rfl,rfl,rfl,dE (λb=>some (Value.bool b)) (show true=BB t k p s by grind [BB]),trivial⟩,Ext.refl _⟩;have F:¬s/2<=p[k-1]/2:=cK;refine li (n:=2) cK cL (ek (ax aM) λM E=>ez (i64 t.day) (fc ?_));exact⟨rfl,⟨rfl,rfl,rfl,rfl,rfl,rfl,rfl,rfl,rfl,rfl,rfl,dE (λb=>some (Value.bool b)) (show _=BB t k p s by grind [BB]),trivial⟩,E⟩;have aN:¬0<k:=cK;refine lh rfl (li (n:=2) cK cL (ek (ax aM) λM E=>ez (i64 t.day) (fc ?_)));exact⟨rfl,⟨rfl,rfl,rfl,rfl,rfl,rfl,rfl,rfl,rfl,rfl,rfl,dE (λb=>some (Value.bool b)) (show _=BB t k p s by simp[BB,aN]),trivial⟩,E⟩;obtain rfl:j=n:=cK;refine dP.of dr (cW ⟨c,v8,by trivial,x,?_⟩);rw[o];exact R;obtain rfl:i=(jx t f n k).length:=cK;rw[jN]at J;refine dP.of dr (dP.of dr (cW ⟨aW,v7,by trivial,e6.trans L,J.low cK⟩));obtain rfl:k=K:=cK;obtain⟨a6,c6,rfl,_,_⟩:=O.row;have ag:=BC (t:=t) (f:=f) ak aR;have E6:=E5.trans e6;refine dP.gN (dP.gN (dP.of dr ?_));have⟨A,hA⟩:=jQ (jx t f n k);have a5:∀p∈A,p.length<=3/\∀s∈p,s<=2000:=λp hp=>by grind [tS]
 rw[<-hA]at O ag⊢;refine nu A.length (λi v=>[(1,.slice N l.length lc),(2,i64 d),(3,i64 f),(4,di gb),(9,v),(10,di ub),(11,.slice a6 A.length c6),(16,i64 i)]) (λi v g=>Ext w6 g/\fe w.heap.size g v ((A.take i).filter (wR u.morning u.evening))/\∀b,cV v b->w6.heap.size<=b) (fl) ⟨by trivial,Ext.refl _,⟨[],cZ.nil _ _ _ _,rfl,λk hk=>cK⟩,λb hb=>by have⟨_,_,e⟩:=hb;grind⟩ ?_;rintro i v7 w7 hi ⟨L,J,aO⟩;refine dP.gN (dP.of dr (dm (dK ⟨λaA=>?_,λaB=>?_⟩)));have c:i<A.length:=cK;have⟨p,hp⟩:=jQ (A[i]);have ac:=a5 _ (eB c);have o:(A.take (i+1)).filter (wR u.morning u.evening)=(A.take i).filter (wR u.morning u.evening)++if wR u.morning u.evening p then [p]else []:=by rw[iw c,List.filter_append,<-hp,List.filter_cons];simp
 have⟨b6,am,a7,c7,a0,r,H,B,an⟩:=O.at c;rw[<-hp]at r H B an ac;obtain⟨rfl,rfl⟩:a6=some (dq b6 0)/\c6=am:=cK;refine dP.gN (dP.block (dP.seq dr (dP.gN (dP.gN (dP.of dr ?_)))));refine nu p.length (λj (_:Unit)=>[(1,.slice N l.length lc),(2,i64 d),(3,i64 f),(4,di gb),(9,v7),(10,di ub),(11,fa b6 A.length c6),(16,i64 i),(17,.bool ((p.take j).any λs=>decide (s%2=0))),(18,.bool ((p.take j).any λs=>decide (s%2=1))),(19,i64 j)]) (λj _ g=>Ext w7 g) () ⟨by trivial,Ext.refl _⟩ ?_;rintro j _ w8 hj x;have I:=(L.trans x).cell r;refine dP.gN (dP.of dr (eX i c (cO (by rw[dj];omega) (dm (dK ⟨λaC=>?_,λaD=>?_⟩)))));have y:j<p.length:=cK;obtain⟨b7,o7,rfl,aq⟩:=B j y;have aa:=(L.trans x).cell aq;have a8:(p.take (j+1)).any (λs=>decide (s%2=0))=((p.take j).any (λs=>decide (s%2=0))||decide (p[j]%2=0)):=by rw[iw y,List.any_append];simp
 have a9:(p.take (j+1)).any (λs=>decide (s%2=1))=((p.take j).any (λs=>decide (s%2=1))||decide (p[j]%2=1)):=by rw[iw y,List.any_append];simp
 generalize (p.take j).any (λs=>decide (s%2=0))=X at*;generalize (p.take j).any (λs=>decide (s%2=1))=Y at*;have d1:decide (((p[j]%2:Nat):Int)=0)=decide (p[j]%2=0):=by congr 1;exact propext cL
 have d2:decide (((p[j]%2:Nat):Int)=1)=decide (p[j]%2=1):=by congr 1;exact propext cL
 have z:∀{a b:Bool},a=(X||decide (p[j]%2=0))->b=(Y||decide (p[j]%2=1))->some (Value.bool a)=some (.bool ((p.take (j+1)).any λs=>decide (s%2=0)))/\some (Value.bool b)=some (.bool ((p.take (j+1)).any λs=>decide (s%2=1))):=λh1 F=>by rw[a8,a9,h1,F];grind
 have ar:w8.cell? (dq b6 (0+i))=some (Fu b7 o7 p.length c7):=cK;refine dP.gN (dP.block (dD dC ?_));refine⟨λh1=>⟨λF=>?_,λF=>?_⟩,λh1=>?_⟩;have⟨f1,f2⟩:=z (a:=true) (b:=true) cK cK;exactλM E=>dP.of dr (cW ⟨y,(),⟨rfl,rfl,rfl,rfl,rfl,rfl,rfl,rfl,f1,f2,rfl,trivial⟩,x.trans E⟩);have⟨f1,f2⟩:=z (a:=true) (b:=decide (((p[j]%2:Nat):Int)=1)) cK cK;exact gB i c (dl ar (gB j y (dl aa (.exact _ (λw _=>tC (m:=p[j]) (n:=2) cK gd) (.exact _ (λw _=>fc gd) λM E=>dP.of dr (cW ⟨y,(),⟨rfl,rfl,rfl,rfl,rfl,rfl,rfl,rfl,f1,f2,rfl,trivial⟩,x.trans E⟩))))));refine gB i c (dl ar (gB j y (dl aa (.exact _ (λw _=>tC (m:=p[j]) (n:=2) cK gd) (.exact _ (λw _=>fc gd) ⟨λF=>?_,λF=>?_⟩)))));have⟨f1,f2⟩:=z (a:=decide (((p[j]%2:Nat):Int)=0)) (b:=true) cK cK;exactλM E=>dP.of dr (cW ⟨y,(),⟨rfl,rfl,rfl,rfl,rfl,rfl,rfl,rfl,f1,f2,rfl,trivial⟩,x.trans E⟩);have⟨f1,f2⟩:=z (a:=decide (((p[j]%2:Nat):Int)=0)) (b:=decide (((p[j]%2:Nat):Int)=1)) cK cK;exact gB i c (dl ar (gB j y (dl aa (.exact _ (λw _=>tC (m:=p[j]) (n:=2) cK gd) (.exact _ (λw _=>fc gd) λM E=>dP.of dr (cW ⟨y,(),⟨rfl,rfl,rfl,rfl,rfl,rfl,rfl,rfl,f1,f2,rfl,trivial⟩,x.trans E⟩))))));obtain rfl:j=p.length:=cK;rw[jN];have⟨X,hX⟩:=jQ (p.any λs=>decide (s%2=0));have⟨Y,hY⟩:=jQ (p.any λs=>decide (s%2=1));have ba:wR u.morning u.evening p=((X||!u.morning)&&(Y||!u.evening)):=by grind [wR]
 rw[<-hX,<-hY];have au:=(L.trans x).at_ az;have⟨Z,hZ⟩:=jQ (wR u.morning u.evening p);rw[<-hZ]at ba o;refine dP.gN (dP.mono (Q:=λe l' g=>e=.normal/\Sub [(1,.slice N l.length lc),(2,i64 d),(3,i64 f),(4,di gb),(9,v7),(10,di ub),(11,fa b6 A.length c6),(16,i64 i),(135,.bool Z)] l'/\g=w8) ?_ ?_);rintro e l' M ⟨rfl,hS,rfl⟩;have bz:=x;have E8:=E6.trans (L.trans x);have R:=J.ext x;have bb:((A.take i).filter (wR u.morning u.evening)).length<=216:=dw (List.length_filter_le _ _) cK;refine dP.jj hS (dP.of dr ⟨λhz=>?_,λhz=>?_⟩);rw[hz,cT rfl]at o;refine eX i c (cO (by rw[dj];omega) (er [.slice a7 p.length c7] 27 λa2 nb D aF U=>wM (R.ext D) (E8.trans D).size ((cZ.ext H ((L.trans x).trans D))) U cL λv' aG g1 g2 g3=>?_));refine dP.of dr (cW ⟨c,v',by trivial,((L.trans x).trans D).tG g2 aO,cK,λb hb=>?_⟩);obtain h|h:=g3 b hb;grind;exact dw ((L.trans x).trans D).size h;rw[hz,cR Bool.false_ne_true,List.append_nil]at o;exact dP.of dr (cW ⟨c,v7,by trivial,L.trans x,cK,aO⟩);refine mR.start (mR.B8 14 dr ?_);have z:∀{b:Bool},b=Z->some (Value.bool b)=some (.bool Z):=λh=>cK;refine⟨λh1=>⟨λF=>?_,λF=>cO (cN au rfl) (eC ?_)⟩,λh1=>cO (cN au rfl) (eC ⟨λh3=>⟨λF=>?_,λF=>cO (cN au rfl) (eC ?_)⟩,λh3=>?_⟩)⟩;exact mR.fin ⟨rfl,⟨rfl,rfl,rfl,rfl,rfl,rfl,rfl,rfl,z cK,trivial⟩,rfl⟩;exact mR.fin ⟨rfl,⟨rfl,rfl,rfl,rfl,rfl,rfl,rfl,rfl,z cK,trivial⟩,rfl⟩;exact mR.fin ⟨rfl,⟨rfl,rfl,rfl,rfl,rfl,rfl,rfl,rfl,z cK,trivial⟩,rfl⟩;exact mR.fin ⟨rfl,⟨rfl,rfl,rfl,rfl,rfl,rfl,rfl,rfl,z cK,trivial⟩,rfl⟩;exact mR.fin ⟨rfl,⟨rfl,rfl,rfl,rfl,rfl,rfl,rfl,rfl,z cK,trivial⟩,rfl⟩;obtain rfl:i=A.length:=cK;rw[jN]at J;exact dP.of dr ⟨_,rfl,E6.trans L,J⟩
end
def QS{x:Sx}{t:Td}(h:qB I x t)(k:0<=t.mornings/\0<=t.evenings)(a:ij H.tries x=false):qC H.tries t=iX H x:=by
 have b:=h.tries;have c:=h.mornings;have d:=h.evenings;have e:sF H x=(decide (1<H.tries)&&decide (t.mornings=0)):=by unfold sF;rw[c];congr 1;
 have f:uH H x=(decide (1<H.tries)&&decide (t.evenings=0)):=by unfold uH;rw[d];congr 1;
 have l:H.tries<=t.times->1<H.tries/\(t.mornings=0\/t.evenings=0):=λm=>by unfold ij at a;rw[b,c,d]at a;simp only[Bool.or_eq_false_iff,Bool.and_eq_false_iff,decide_eq_false_iff_not]at a;omega
 unfold qC iX EC;rw[e,f,b];congr 1;generalize g:decide (1<H.tries)=B;generalize i:decide (t.mornings=0)=M;generalize j:decide (t.evenings=0)=E;have:B=true↔1<H.tries:=by rw[<-g];simp
 have:M=true↔t.mornings=0:=by rw[<-i];simp
 have:E=true↔t.evenings=0:=by rw[<-j];simp
 cases B<;>cases M<;>cases E<;>simp_all[Il]<;>omega
def LA(t:Td)(f n:Nat):Nat->Nat->List cM->List cM
 |0,_,a=>a
 |c+1,k,a=>LA t f n c (k+1) (a.flatMap (mG t f n k))
theorem BD(t:Td)(f n:Nat):∀(c k:Nat) (a:List cM),LA t f n c k a=a.flatMap λp=>LA t f n c k [p]
 |0,k,a=>by simp[LA]
 |c+1,k,a=>by simp only[LA];rw[BD t f n c (k+1) (a.flatMap _),List.flatMap_assoc];congr 1;funext p;rw[BD t f n c (k+1) ([p].flatMap _)];simp
theorem HV(t:Td)(f n:Nat):∀(c k:Nat) (a:List cM),LA t f n (c+1) k a=(LA t f n c k a).flatMap (mG t f n (k+c))
 |0,k,a=>rfl
 |c+1,k,a=>by have:=HV t f n c (k+1) (a.flatMap (mG t f n k));rw[show k+1+c=k+(c+1) by omega]at this;exact this
theorem LD(t:Td)(f n:Nat):∀k,jx t f n k=LA t f n k 0 [[]]
 |0=>rfl
 |k+1=>by rw[HV,<-LD t f n k,dj];rfl
def JX{e:Type}{L f sh:Nat}(g:Nat->List e)(n:f<=sh)(h:∀s,f<=s->s<sh->s<L->g s=[]):(List.range (L-f)).flatMap (λj=>g (f+j))=(List.range (L-sh)).flatMap λi=>g (sh+i):=by
 have b:∀(a m:Nat),(List.range m).flatMap (λj=>g (a+j))=(List.range' a m).flatMap g:=λa m=>by rw[List.range'_eq_map_range,List.flatMap_map]
 rw[b,b];have nil:∀(a m:Nat),(∀s,a<=s->s<a+m->g s=[])->(List.range' a m).flatMap g=[]:=λa m h=>by rw[List.flatMap_eq_nil_iff];intro s c;rw[List.mem_range'_1]at c;exact h s c.1 c.2
 obtain k|k:=Nat.le_total sh L;rw[show L-f=(sh-f)+(L-sh) by omega,<-List.range'_append_1,List.flatMap_append,show f+(sh-f)=sh by omega,nil f (sh-f) λs d l=>h s d cL cL,oD];rw[show L-sh=0 by omega,nil f (L-f) λs d l=>h s d cL cL];rfl
theorem wS{x:Sx}{t:Td}(A:qB I x t)(q:fK H<=6)(D:I<=m)(u:Du)(E:u.tries=k):∀(c a:Nat),a+c=k->∀(b:Nat) (p:cM) (sh:Nat),c<b->p.length=a->m<=sh->(a=0->sh=m)->(0<a->p.getD (a-1) 0+1=sh)->lA (fK H) x u b p sh=(LA t m (fK H-m) c a [p]).filter (wR u.morning u.evening)
 |0,a,v,b+1,p,sh,_,f,g,B,w=>by rw[lA,cT cL];simp only[LA,List.filter_cons,List.filter_nil];rfl
 |c+1,a,v,b+1,p,sh,F,f,g,B,w=>by
  rw[lA,cR cL];have G:=wS A q D u E c (a+1) cL
  have d:(LA t m (fK H-m) (c+1) a [p]).filter (wR u.morning u.evening)=(List.range (fK H-m)).flatMap λj=>(λs=>if BB t a p s then []else(LA t m (fK H-m) c (a+1) [p++[s]]).filter (wR u.morning u.evening)) (m+j):=by
   simp only[LA];rw[BD];simp only[oB,List.flatMap_nil,List.append_nil,mG];rw[List.flatMap_map,List.filter_flatMap];generalize List.range (fK H-m)=l;induction l with
   |nil=>rfl
   |cons j r n=>
    rw[List.filter_cons,oB];cases y:BB t a p (m+j)with
    |true=>simpa[y]using n
    |false=>simp[y,n]
  rw[d];refine Eq.trans ?_ (JX (sh:=sh) (λs=>if BB t a p s then []else(LA t m (fK H-m) c (a+1) [p++[s]]).filter (wR u.morning u.evening)) g λs K L M=>?_).symm;rw[List.flatMap_def,List.flatMap_def];refine dE List.flatten (List.map_congr_left λi C=>?_);have C:=fP.1 C;have z:qW x p (sh+i)=BB t a p (sh+i):=by
   have J:py x ((sh+i)/2)=decide ((((sh+i)/2:Nat):Int)=t.day):=by have:=A.day (sh+i) cL cL;rw[Bool.eq_iff_iff,this,j9];exact eq_comm
   unfold qW BB;rw[J,f,Bool.or_comm];congr 1;by_cases o:0<a;have e:p.getLast?.getD 0=p.getD (a-1) 0:=by rw[List.getLast?_eq_getElem?,gD,f]
   rw[e];have:=w o;congr 1;rw[decide_eq_decide];omega;simp[o]
  rw[z];cases y:BB t a p (sh+i)with
  |true=>rfl
  |false=>
   simp only[iH,fj];exact G b (p++[sh+i]) (sh+i+1) cL (by simp[f]) cL (λh=>cL) λ_=>by simp[<-f,gD]
  have o:0<a:=by obtain h|h:=mM a;have:=B h;omega;exact h
  have:=w o;have:BB t a p s=true:=by unfold BB;have:s/2<=p.getD (a-1) 0/2:=cL;rw[decide_eq_true o,decide_eq_true this];rfl
  simp only[this,ej]
def JY(c:H.Ok){x:Sx}{t:Td}(d:qB I x t)(g:0<=t.mornings/\0<=t.evenings)(i:0<=t.times)(j:ij H.tries x=false)(k:I<=m):vK H t m=ju H x m:=by
 have l:=c.days;have n:=c.tries;have e:=QS d g j;have a:=EX (T:=H.tries) (t:=t) cL i;have b:(qC H.tries t).tries<=max 1 H.tries:=by unfold qC;simp only;split;rename_i h;simp at h;omega;omega
 rw[e]at a b;unfold vK ju;rw[e];have⟨K,f⟩:∃K:Nat,(iX H x).tries=K:=⟨(iX H x).tries.toNat,cL⟩;rw[f,ny];rw[wS d (by unfold fK;omega) k (iX H x) f K 0 cL _ [] m (by unfold fK;omega) rfl (dg _) (λ_=>rfl) (λh=>cL),LD];rfl
structure W8(G:Gd)(l:List Tq):Prop where
 g:em G=0
 sh:∀q∈l,0<=q.shift/\q.shift<=1000
 len:(fw G l).2.length=G.doors.length
 both:∀d:Nat,d<G.doors.length->qB (eO l) ((fw G l).2.getD d qV) (rl d rj l)
theorem HW{G:Gd}(x:G.days<=3):∀(l a:List Tq) (b:List Sx),b.length=G.doors.length->(∀d:Nat,d<G.doors.length->qB (eO a) (b.getD d qV) (rl d rj a))->(pd G b (eO a) l).1=0->(∀q∈l,0<=q.shift/\q.shift<=1000)/\(pd G b (eO a) l).2.length=G.doors.length/\∀d:Nat,d<G.doors.length->qB (eO (a++l)) ((pd G b (eO a) l).2.getD d qV) (rl d rj (a++l))
 |[],a,b,g,f,_=>⟨λq y=>by simp at y,g,by rw[List.append_nil];exact f⟩
 |q::r,a,b,g,f,h=>by simp only[pd]at h⊢;by_cases i:(l5 q.door 0 ((G.doors.iN:Int)-1)&&l5 q.shift 0 (2*G.days-1))=true;rw[cT i]at h⊢;simp only[l5,eU,j9]at i;have⟨d,j⟩:∃d:Nat,q.door=(d:Int):=⟨q.door.toNat,cL⟩;have⟨s,p⟩:∃s:Nat,q.shift=(s:Int):=⟨q.shift.toNat,cL⟩;have k:d<G.doors.iN:=cL;have m:s<6:=cL;have z:=f d k;by_cases t:q.shift<eO a;rw[cT t]at h;cases h;rw[cR t]at h⊢;have A:q.shift.toNat=s:=cL;have n:q.door.toNat=d:=cL;rw[A,n]at h⊢;by_cases u:py (b.getD d qV) (s/2)=true;rw[cT u]at h;cases h;rw[cR u]at h⊢;by_cases v:ij G.tries (b.getD d qV)=true;rw[cT v]at h;cases h;rw[cR v]at h⊢;have e:q.shift=eO (a++[q]):=(ol a q).symm;rw[e]at h⊢;have:=HW x r (a++[q]) _ (eV g) (λw o=>?_) h;rw[List.append_assoc]at this;refine⟨λB c=>?_,this.2⟩;obtain rfl|c:=eW.1 c;omega;exact this.1 B c;rw[ol,wN,p];by_cases C:w=d;subst C;rw[cT j,gD,List.getElem?_set_self cL];exact z.step q s p m cL;rw[cR cL,gD,List.getElem?_set_ne cL,<-gD];exact(f w o).mono cL;rw[cR i]at h;cases h
def tT{G:Gd}{l:List Tq}(h:nM G l=0):W8 G l:=by
 have a:em G=0:=by unfold nM at h;by_cases b:em G=0;exact b;rw[cR b]at h;exact absurd h b
 have c:(fw G l).1=0:=by unfold nM at h;rwa[cT a]at h
 have:=HW (eD a).days.2 l [] _ dt (λd e=>by rw[gD,List.getElem?_replicate,cT e];exact qB.zero) c;exact⟨a,this.1,this.2.1,this.2.2⟩
section
variable{G:Gd}{da:Option Addr}{dc:Nat}{w:cI}{l:List Tq}{la:Option Addr}{lc:Nat}
end
section
variable{G:Gd}{da:Option Addr}{dc:Nat}{w:cI}{l:List Tq}{la:Option Addr}{lc:Nat}
end
variable{G:Gd}{da:Option Addr}{dc:Nat}{w:cI}
def zm{l:List Tq}(h:dG G l I J=0):em G=0/\nM G l=0:=by
 have a:nM G l=0:=by unfold dG at h;by_cases a:nM G l=0;exact a;rw[cR a]at h;exact absurd h a
 refine⟨?_,a⟩;unfold nM at a;by_cases b:em G=0;exact b;rw[cR b]at a;exact absurd a b
section
variable{G:Gd}{da:Option Addr}{dc:Nat}{w:cI}{l:List Tq}{la:Option Addr}{lc:Nat}
end
section
variable{G:Gd}{da:Option Addr}{dc:Nat}{w:cI}{l:List Tq}{la:Option Addr}{lc:Nat}
end
section
variable{x y:dW}{w:cI}
end
def lT.ext{c:Type}{f:c->dN}{l:List c}(h:lT f m w a l)(e:Ext w t):lT f m t a l:=λk d=>by have⟨b,o,g,i⟩:=h k d;exact⟨b,o,g,λj v n=>e.cell (i j v n)⟩
def JZ{a:Type}(f:a->dN)(n b:Nat)(w:cI)(l:List a):Prop:=∀k (h:k<l.length),∀j v,(f l[k])[j]? =some v->w.cell? ⟨b,0+k*n+j,none⟩=some v
theorem JZ.of{a:Type}{f:a->dN}{l:List a}{t:cQ}(b:∀x,(f x).length=m)(c:w.heap[k]? =some (.cells (l.flatMap f).toArray t)):JZ f m k w l:=λd e j v g=>by refine cN c ?_;rw[dj];simpa using r9 b l d e j v g
def JZ.ext{a:Type}{f:a->dN}{l:List a}(h:JZ f m k w l)(e:Ext w t):JZ f m k t l:=λb c j v d=>e.cell (h b c j v d)
def EZ{a:Type}(f:a->cJ)(b:Nat)(w:cI)(l:List a):Prop:=∀k (h:k<l.length),w.cell? ⟨b,0+k,none⟩=some (f l[k])
theorem EZ.of{a:Type}{f:a->cJ}{l:List a}{t:cQ}(b:w.heap[m]? =some (.cells (l.map f).toArray t)):EZ f m w l:=λk c=>by refine cN b ?_;rw[dj];simp[c]
def EZ.ext{a:Type}{f:a->cJ}{l:List a}(h:EZ f m w l)(e:Ext w t):EZ f m t l:=λk b=>e.cell (h k b)
structure Dk(w:cI)(la:Option Addr)(lc:Nat)(l:List Tq):Prop where
 row:kq w la l
 len:l.length<=31
 cap:l.length<=lc
 nil:la=none->l.length=0
theorem Dk.ext{l:List Tq}(h:Dk w a m l)(e:Ext w t):Dk t a m l:=⟨h.row.ext e,h.len,h.cap,h.nil⟩
structure QT(w:cI)(da:Option Addr)(G:Gd):Prop where
 row:gX w da G.doors
 len:G.doors.length<=20
theorem QT.ext(h:QT w a H)(e:Ext w t):QT t a H:=⟨h.row.ext e,h.len⟩
def HX:Calls V.prog 76 #[gV H a m] w (fM λv b=>v=.bool (decide (20<H.doors.length))/\Ext w b):=by refine jb Tryz.func76 Tryz.ntmps76 ?_;refine eH λf g c d e=>cO (cN e rfl) (dm (mP ⟨_,rfl,dE Value.bool ?_,c⟩));rw[Bool.eq_iff_iff];simp only[decide_eq_true_iff];omega
def zl.Yk{l:List Tq}(h:zl m w x l)(d:l.length<=31):∃a c,x=.slice a l.length c/\Dk w a c l:=by obtain⟨a,c,rfl,f,g⟩:=h.row;refine⟨a,c,rfl,f,d,g,λe=>?_⟩;subst e;obtain⟨_,⟨i,_⟩|⟨b,j,k,_,e,_⟩⟩:=h;exact i;injection e with e;cases e
def sG.q{l:List Ty}(h:sG m w x l):zl m w x (l.map V6):=by unfold zl;rw[nR,List.flatMap_map];exact h
section
variable{G:Gd}{L:Nat->Nat}
end
section
variable{G:Gd}{xs:List Sx}
end
section
variable{G:Gd}{xs:List Sx}{f:Nat}{ps:List (Nat×List Nat)}
end
section
variable{H G:Gd}{ns:List Nat}
section
variable{xs ys:List Sx}{S:List Nat}{f:Nat}
end
end
def eK.rowOf(h:eK m w (.slice a k i) l):fN w a l:=by have⟨b,c,e,d,f⟩:=h.row;grind
def ll.QU{c:List (Nat×cM)}(h:ll w a c)(e:Ext w t):ll t a c:=λk d=>by have⟨b,o,f,g,i,j,l,m,n⟩:=h k d;exact⟨b,o,f,g,i,e.cell j,e.cell l,m.ext e,n⟩
section
variable{G:Gd}{l:List Ty}{s f:Nat}{S:List Nat}
end
theorem mh.keep{c:List (Nat×cM)}(h:mh m w x c)(e:dA A w t)(d:∀b,m<=b->¬A b):mh m t x c:=by have⟨i,j,f,l⟩:=h;exact⟨i,j,cZ.keep f e λb a=>d b (cZ.blk f a).1,λk n=>by have⟨u,o,g⟩:=l k n;exact⟨u,o,cZ.keep g e λb a=>d b (cZ.blk g a).1⟩⟩
def DE.own(h:DE m w t)(k:dA (cV x) t e)(c:∀a,cV x a->w.heap.size<=a):DE m w e:=
 ⟨(h.1.trans k (H:=λa=>a=m\/w.heap.size<=a) (λ_ _ h=>.inl h) λa _ b=>.inr (c a b)).trans (dA.refl (λ_=>False) _) (λa b h=>h.elim id λh=>cL) λ_ _ h=>h.elim,λd=>(h.2 d).keep k λa b=>zp (c a b) d.lt⟩
structure BE(t0:cQ)(n0:Nat)(a b:cI):Prop where
 k:dA (λx=>n0<=x) a b
 p:∀(x:Nat) cs t,t≠t0->a.heap[x]? =some (.cells cs t)->b.heap[x]? =some (.cells cs t)
 q:∀(x:Nat) cs,a.heap[x]? =some (.cells cs t0)->∃tX:Array cJ,b.heap[x]? =some (.cells tX t0)/\tX.size=cs.size
abbrev QV:=BE 24
def Yl(i:cQ)(j:Nat):gJ (BE i j):=
 ⟨λw=>⟨dA.refl _ w,λ_ _ _ _ h=>h,λ_ d h=>⟨d,h,rfl⟩⟩,λa b c h k=>⟨h.k.trans k.k (λ_ _ h=>h) λ_ _ h=>h,λx d t g e=>k.p x d t g (h.p x d t g e),λx d e=>by have⟨f,l,n⟩:=h.q x d e;have⟨m,o,r⟩:=k.q x f l;grind⟩,λw=>⟨(Ext.drew w).keep _,λx d t _ e=>(Ext.drew w).at_ e,λx d e=>⟨d,(Ext.drew w).at_ e,rfl⟩⟩⟩
def Ym(a:Nat):gJ (QV a):=Yl 24 a
def Ext.eu(h:Ext w t)(c:cQ)(d:Nat):BE c d w t:=⟨h.keep _,λx b e _ a=>h.at_ a,λx b a=>⟨b,h.at_ a,rfl⟩⟩
def Ext.et(h:Ext w t)(a:Nat):QV a w t:=h.eu 24 a
def cZ.et(h:cZ k U M w x i Y)(e:BE T m w t)(f:U≠T):cZ k U M t x i Y:=by obtain⟨a,h|⟨b,c,d,g,j,l,n⟩⟩:=h;exact⟨a,.inl h⟩;exact⟨a,.inr ⟨b,c,d,g,j,e.p b d U f l,n⟩⟩
theorem BE.ext(h:BE T m w t)(a:w.heap.size<=m):Ext w t:=h.k.ext λx b=>cL
def BG{b:Type}(f:cI->dV->List b->Prop)(l:List b)(e:Int)(u:cJ)(w:cI):Prop:=∃a c,u=.tuple #[.slice a l.length c,.int .i64 e]/\f w a l
def HY{b:Type}(f:cI->dV->List b->Prop)(l:List b)(u:cJ)(w:cI):Prop:=∃a c,u=.slice a l.length c/\f w a l
section
variable{w:cI}{kx:cJ->Prop}{kr kp kl:io->Prop}{lb ea:Bool}
def xV{a:dN}(b:∀j v,a[j]? =some v->w.cell? ⟨m,o+j,none⟩=some v)(k:kx (.agg a.toArray))(c:GS T=some true:=by rfl)(d:Pq T=some a.length:=by rfl):xv Ext Ext w (λf g=>jL V.prog (Instr.loadAt T (.pointer (some ⟨m,o,none⟩))) f g) kx kr kp lb kl ea:=
 .exact _ (λ_ e=>ew (λj v h=>e.cell (b j v h)) gd c d) k
def po{a:dV}(b:w.heap[k]? =some (.cells (gL H a m).toArray 24))(c:kx (gV H a m)):xv Ext Ext w (λd f=>jL V.prog (Instr.loadAt 24 (.pointer (some ⟨k,0,none⟩))) d f) kx kr kp lb kl ea:=
 .exact _ (λ_ e=>eI (e.at_ b) gd) c
def J0{x y:dW}{m:Int}{a:IntKind}(h:kx (.bool false)):xv Ext Ext w (λb f=>jL V.prog (do eqGuard .neq T x y (.int a m) (.int a m);binOp .neq T (.int a m) (.int a m)) b f) kx kr kp lb kl ea:=
 .exact _ (λ_ _=>gQ ⟨dE Value.bool dt,Ext.refl _⟩) h
end
def Ext.cl{w a:cI}{b:dN}(e:Ext w a)(h:∀j v,b[j]? =some v->w.cell? ⟨m,o+j,none⟩=some v):∀j v,b[j]? =some v->a.cell? ⟨m,o+j,none⟩=some v:=λj v k=>e.cell (h j v k)
section
variable{α:Type}{f:cI->Option Addr->List α->Prop}{l:List α}{A:Int}
def BG.st(d:∀{w c:cI} {a:dV} {l:List α},f w a l->Ext w c->f c a l):∀v a b,BG f l A v a->Ext a b->BG f l A v b:=λ_ _ _ ⟨x,y,g,h⟩ e=>⟨x,y,g,d h e⟩
def HY.st(d:∀{w c:cI} {a:dV} {l:List α},f w a l->Ext w c->f c a l):∀v a b,HY f l v a->Ext a b->HY f l v b:=λ_ _ _ ⟨x,y,g,h⟩ e=>⟨x,y,g,d h e⟩
def BG.cs{v:cJ}{w:cI}{P:cJ->Prop}(h:BG f l A v w)(k:∀x y,f w x l->P (.tuple #[.slice x l.length y,.int .i64 A])):P v:=by obtain⟨x,y,rfl,h⟩:=h;exact k x y h
end
def VP{w:cI}{r:dB}{n:eF}{v:cJ}(d:dN)(o:w.heap[k]? =some (.cells n T))(f:n.size=d.length)(p:m<=k)(s:∀g,BE T m w g->g.heap[k]? =some (.cells d.toArray T)->r g)(l:v.cells=d.toArray:=by rfl)(u:sD d=true:=by rfl)(y:Pq T=some d.length:=by rfl):Ed V.prog (Instr.storeAt T (.pointer (some ⟨k,0,none⟩)) v) w r:=by refine jp o (by rw[l];simp[f]) (λg q z=>?_) (by rw[l];exact gK u) (by rw[l];exact y);have c:fC g k d.toArray T:=z.trans (dE (λa=>some (Obj.cells a T)) (by rw[l];exact ee n d f));refine s g ⟨q.trans (dA.refl (λ_=>False) _) (λx _ b=>by subst b;exact p) λ_ _ h=>h.elim,λx i t A b=>q.fL b λe=>?_,λx i b=>?_⟩ c;subst e;exact kS b o A;by_cases j:x=k;subst j;rw[o]at b;injection b with b;injection b with b;subst b;exact⟨_,c,by simp[f]⟩;exact⟨i,q.fL b j,rfl⟩
def VQ(b:Nat)(s:Int)(u:cJ)(w:cI):Prop:=∃a f g,u=.slice (some ⟨a,0,none⟩) 4 4/\a≠b/\w.heap[a]? =some (.cells [.int .i64 s,.int .i64 f,.int .i64 g,.int .i64 s].toArray 3)
def VQ.de{s:Int}(u:cJ)(a b:cI)(h:VQ m s u a)(e:DE m a b):VQ m s u b:=by have⟨d,f,g,i,c,j⟩:=h;exact⟨d,f,g,i,c,e.1.fL j c⟩
def QX(A:Int)(u:cJ)(_:cI):Prop:=u=.int .i64 A
def QX.st{A:Int}:∀v a b,QX A v a->Ext a b->QX A v b:=λ_ _ _ h _=>h
def Xx{R:io}{w:cI}:∀a,Ext w a->∀u,R u a->R u a/\Ext a a:=λ_ _ _ h=>⟨h,Ext.refl _⟩
def zF{n:Nat}{l:cM}(a:l.Pairwise (·<·))(b:n<=5)(c:∀d∈l,d<n):l.length<=5:=by have h:∀d∈l,d<5:=cK;rw[<-Bj a h];exact l7 (eo l) 5
section
variable{G:Gd}{da:Option Addr}{dc:Nat}{w:cI}{la:Option Addr}{lc:Nat}
def Cc(H:em G=0)(S:gX w da G.doors){l:List Nat}(hr:fN w la l)(T:l.Pairwise (·<·))(U:∀d∈l,d<G.doors.length)(hc:l.length<=lc):
 Calls V.prog 148 #[gV G da dc,.slice la l.length lc] w (fM λv D=>Ext w D/\eK w.heap.size D v (dF G (eo l))):=by
 have W:=eD H;have I:=W.many;have n:=zF T I U;refine go (V.fn Tryz.func148 cK) Tryz.ntmps148 ?_;refine eH λX gb J aa hb=>cX (yM l.length l la lc X rfl n (hr.ext J) hc) ?_;rintro v E ⟨Y,u⟩;have E2:=J.trans Y;have K:=Y.at_ hb;have⟨f,i⟩:=jQ (yH l);have u:fe X.heap.size E v f:=by rw[i];exact u
 have x:0<f.length:=by rw[i];exact NA _ l rfl
 have L:f.length<=3125:=by rw[i];exact dw (uz l.length l n) (dw (Nat.pow_le_pow_right dt n) cK)
 have j:∀r∈f,(∀d∈r,d<G.doors.length)/\r.length<=1000:=λr h=>by rw[i]at h;exact⟨HF U r h,iD (xT _ l rfl r h)⟩
 have M:∀r∈f,0<=mJ G r:=λr h=>(rK (n9 W) r).1;have y:∀{b},uW G f f.length b->f.getD b []=dF G (eo l):=λh=>by rw[i]at h⊢;exact h.fin T cK n
 clear i;obtain⟨a,c,rfl,_,_⟩:=u.row;refine fA (f.length-1) (λk (b:Nat)=>[(2,di gb),(5,.slice a f.length c),(6,i64 b),(7,i64 ((k+1:Nat):Int))]) (λk b D=>Ext E D/\uW G f (k+1) b) 0 ⟨by trivial,Ext.refl _,uW.init x⟩ ?_;rintro k b w3 hk ⟨m,F⟩;have o:=F.1;have q:f.getD b []=f[b]:=cK;have⟨Z,c1,a8,c8,e,t,N,O,_⟩:=u.at o;cases e;have z:=m.at_ K;have P:=E2.trans m;have t:E.cell? ⟨Z,0+b,none⟩=some (.slice a8 f[b].length c8):=cK;refine dm (dK ⟨λab=>?_,λac=>?_⟩);have p:k+1<f.length:=cK;have⟨ad,ae,a7,c7,e,A,af,Q,_⟩:=u.at p;cases e;have A:E.cell? ⟨Z,0+(k+1),none⟩=some (.slice a7 f[k+1].length c7):=cK;have B:=j _ (eB p);have C:=j _ (eB o);have g:=F.step p M;rw[q]at g;refine dD dC ?_;refine po z<|gB (k+1) p<|dl (m.cell A) ?_;refine ik _ (λw4 s=>xU (dc:=dc) H (S.ext (P.trans s)) (Q.ext (m.trans s)) B.1 B.2) ?_;refine po z<|gB b o<|dl (m.cell t) ?_;refine ik _ (λw4 s=>xU (dc:=dc) H (S.ext (P.trans s)) (O.ext (m.trans s)) C.1 C.2)<|GT λw4 s=>⟨λh=>?_,λh=>?_⟩;rw[cT (fH h)]at g;exact cW ⟨cL,k+1,by trivial,m.trans s,g⟩;rw[cR (iP h)]at g;exact cW ⟨cL,b,by trivial,m.trans s,g⟩;have R:k+1=f.length:=cK;rw[R]at F;have hS:=y F;rw[q]at hS;refine eX b o (cO (m.cell t) ⟨_,rfl,P,?_⟩);rw[<-hS];exact(eK.low N J.size).ext m
end
def HZ(d:Nat)(w:cI)(v:cJ)(c:List cM):Prop:=∃a:dN,cZ d 27 [.slice none 0 0] w v c.length a/\a.length=c.length/\(∀k (h:k<c.length),∃u,a[k]? =some u/\eK d w u c[k])/\∀(i j:Nat) (u e:cJ) (b:Nat),a[i]? =some u->a[j]? =some e->cV u b->cV e b->i=j
def HZ.own{a:List cM}(h:HZ m w x a):fe m w x a:=by have⟨b,c,d,e,_⟩:=h;exact⟨b,c,d,e⟩
theorem HZ.ext{a:List cM}(h:HZ m w x a)(e:Ext w t):HZ m t x a:=by have⟨b,c,d,f,g⟩:=h;refine⟨b,c.ext e,d,λk i=>?_,g⟩;have⟨u,j,l⟩:=f k i;exact⟨u,j,cZ.ext l e⟩
def LG{b:nB}{R:Array Bool}{g n1:Nat}{c:List cM}(E:cZ g 27 [.slice none 0 0] w x c.length M)(L:M.length=c.length)(S:∀b (h:b<c.length),∃y,M[b]? =some y/\eK g w y c[b])(F:∀(i j:Nat) (y N:cJ) (m:Nat),M[i]? =some y->M[j]? =some N->cV y m->cV N m->i=j)(G:g<=w.heap.size)(d:∀y∈M,∀m,cV y m->m<n1)(H:eK g w y l)(n:∀m,cV y m->n1<=m)(U:w.heap[m]? =some (.cells [y].toArray 27))(o:c.length+1<=1000000) (A:∀B p,HZ g p B (c++[l])->dA (cV x) w p->b B p):y8 V.prog (builtin .append #[66,66] T R #[x,.slice (some ⟨m,0,none⟩) 1 k]) w b:=by
 have q:y.oneCell'=true:=by obtain⟨a,k,rfl,_⟩:=H.row;rfl
 refine gR Jh E G U o (λB p W I g3=>A B p ⟨M++[y],eV W,by simp[L],λi r=>?_,λi j C O m r s J K=>?_⟩ I) rfl (by simp[sD,q]);obtain t|X:=gu i c.length;have⟨C,F,P⟩:=S i t;refine⟨C,by rw[uJ cL];exact F,?_⟩;rw[ml t];exact P.keep I (gU P E kA);obtain rfl:i=c.length:=by simp at r;omega
 refine⟨y,by rw[uK cL];simp[L],?_⟩;simp only[sj (dg _),lK,nQ];exact H.keep I (gU H E kA);have Y:=(kX.1 r).1;have Z:=(kX.1 s).1;simp only[lU,fi,fO]at Y Z;have e:∀{b:Nat} {z:cJ},b<M.length->(M++[y])[b]? =some z->M[b]? =some z:=λA u=>by rwa[uJ A]at u
 have f:∀{b:Nat} {z:cJ},¬b<M.length->(M++[y])[b]? =some z->z=y/\b=M.length:=λ{b z} A u=>by have hl:=(kX.1 u).1;simp only[lU,fi,fO]at hl;obtain rfl:b=M.length:=cL;simp at u;exact⟨u.symm,rfl⟩
 by_cases Q:i<M.length;have D:=e Q r;by_cases v:j<M.length;exact F i j C O m D (e v s) J K;obtain⟨rfl,_⟩:=f v s;have:=d C (pA D) m J;have:=n m K;omega;obtain⟨rfl,D⟩:=f Q r;by_cases v:j<M.length;have:=d O (pA (e v s)) m K;have:=n m J;omega;rw[D,(f v s).2]
def QY(h:cZ m U [z] w (.slice (some ⟨j,0,none⟩) k o) k M)(H:i<k)(e:x.cells=#[x])(s:x.oneCell'=true)(t:∀b,cZ m U [z] b (.slice (some ⟨j,0,none⟩) k o) k (M.set i x)->dA (λl=>l=j) w b->S b)(u:Pq T=some 1:=by rfl):Ed V.prog (Instr.storeAt T (.pointer (some ⟨j,0+i,none⟩)) x) w S:=by obtain⟨n,⟨I,_⟩|⟨v,J,p,y,U,A,q,B,C,D,E⟩⟩:=h;omega;injection U with U _ F;obtain rfl:j=v:=dE Addr.block (dQ U);subst F;simp only[fi,fO,pW,dj]at n q;refine jp A (by rw[e];show 0+i+1<=_;omega) (λb G g=>t b ⟨eV n,.inr ⟨j,o,p.setIfInBounds i x,y,rfl,?_,eV q,B,C,λf c=>?_,λf c d=>?_⟩⟩ G) (λl r=>by rw[e]at r;rw[iv.1 r];exact s) (by rw[e];exact u);rw[g,e];show some (Obj.cells (p.setIfInBounds (0+i) _) _)=_;rw[dj];rw[qG]at c;by_cases a:i=f;subst a;rw[oz cL,List.getElem?_set_self cL];rw[fZ a,List.getElem?_set_ne a];exact D f c;rw[qG]at c;rw[Array.size_setIfInBounds]at d;rw[fZ cL];exact E f c d
def TK(h:cZ m 27 [.slice none 0 0] w (.slice (some ⟨j,0,none⟩) k o) k M)(c:i<k)(d:∃a l o,x=.slice a l o)(e:∀b,cZ m 27 [.slice none 0 0] b (.slice (some ⟨j,0,none⟩) k o) k (M.set i x)->dA (λf=>f=j) w b->S b):Ed V.prog (Instr.storeAt 27 (.pointer (some ⟨j,0+i,none⟩)) x) w S:=by obtain⟨a,l,g,rfl⟩:=d;exact QY h c rfl rfl e
def NK(o:Option (List cM))(a:Nat)(u:cJ)(w:cI):Prop:=∀D,o=some D->fe a w u D
def N9(o:Option (List cM))(a:Nat)(v:cJ)(w:cI):Prop:=∃u,v=.tuple #[u,.bool o.isSome]/\NK o a u w
def NK.st{o:Option (List cM)}{c:Nat}:∀v a b,NK o c v a->Ext a b->NK o c v b:=λ_ _ _ h e D d=>(h D d).ext e
theorem N9.st{o:Option (List cM)}{c:Nat}:∀v a b,N9 o c v a->Ext a b->N9 o c v b:=λ_ _ _ ⟨u,d,f⟩ e=>⟨u,d,NK.st _ _ _ f e⟩
def N9.cs{o:Option (List cM)}{a:Nat}{P:cJ->Prop}(h:N9 o a x w)(k:∀u,NK o a u w->P (.tuple #[u,.bool o.isSome])):P x:=by obtain⟨u,rfl,h⟩:=h;grind
def QZ(A:Bool)(u:cJ)(_:cI):Prop:=u=.bool A
def QZ.st{A:Bool}:∀v a b,QZ A v a->Ext a b->QZ A v b:=λ_ _ _ h _=>h
theorem NK.low{o:Option (List cM)}{a b:Nat}(h:NK o a x w)(c:b<=a):NK o b x w:=λD d=>(h D d).low c
section
variable{G:Gd}{da:Option Addr}{dc:Nat}
def H0(a:G.Ok){g:cM}(b:∀d∈g,d<G.doors.length):(∀d∈dF G (eo g),d<G.doors.length)/\(dF G (eo g)).length<=1000:=by have h:=(oi a (eo g)).1;have c:=ko.eo (G:=G) a.many (l:=g) b;exact⟨λd e=>c.2 d (h.mem_iff.1 e),by grind [rQ]⟩
def NL{b:List cM}{d i:Nat}{r:cM}(c:(d::r).Pairwise (·<·))(h:∀g∈b,g.Pairwise (·<·)/\∀x∈g,∀y∈d::r,x<y):∀g∈gh b d i,g.Pairwise (·<·)/\∀x∈g,∀y∈r,x<y:=by have e:=List.pairwise_cons.1 c;unfold gh;intro g a;split at a;rename_i f;obtain a|rfl:=sO a;grind;grind;grind
theorem wT(hG:em G=0)(m:Nat)(hm:m<=5):∀(l:List Nat) (a:Option Addr) (c:Nat) (gs:List (List Nat)) (gv:Value) (n0:Nat) (w:World),gX w da G.doors->l.Pairwise (·<·)->(∀g∈gs,g.Pairwise (·<·)/\∀x∈g,∀y∈l,x<y)->(∀d∈l,d<G.doors.length)->(∀g∈gs,∀d∈g,d<G.doors.length)->gs.length<=m->fN w a l->l.length<=c->fe n0 w gv gs->Calls V.prog 152 #[gV G da dc,.slice a l.length c,gv,.int .i64 m] w (fM λv w'=>Ext w w'/\N9 (lS G m l gs) w.heap.size v w')
 |[],a,c,gs,gv,n0,w,hd,_,Xy,_,Yn,Y7,_,_,hg=>by
  have ok:=eD hG;refine go (V.fn Tryz.func152 cK) Tryz.ntmps152 ?_;refine eH λw1 gb e1 Y3 hb=>dm (fc (jX dt ?_));obtain⟨ga,gc,rfl,_,_⟩:=hg.row;refine fA gs.length (λk v=>[(2,.slice ga gs.length gc),(3,.int .i64 m),(4,di gb),(10,v),(11,.int .i64 k)]) (λk v w'=>Ext w1 w'/\fe w1.heap.size w' v (vG G (gs.take k))/\∀g∈gs.take k,yK G g=true) (.slice none 0 0) ⟨⟨rfl,rfl,rfl,rfl,rfl,trivial⟩,Ext.refl _,⟨[],cZ.nil _ _ _ _,rfl,λk hk=>by simp[vG]at hk⟩,λg hg=>cK⟩ ?_;rintro k v w2 hk ⟨e2,hv,hs⟩;have E2:=e1.trans e2;have QK:=e2.at_ hb;refine dm (dK ⟨λWY=>?_,λY5=>?_⟩)
  ·have Bp:k<gs.length:=cK;have⟨b1,c1,a7,c7,e,Y8,Y9,ZO,Yo⟩:=(hg.ext E2).at Bp;cases e;have Za:=Yn _ (List.getElem_mem Bp);have⟨ZP,ZQ⟩:=H0 ok Za;have Xz:gs.take (k+1)=gs.take k++[gs[k]]:=List.take_succ_eq_append_getElem Bp;refine dD dC ?_;refine po QK<|gB k Bp<|dl (by rw[Nat.zero_add];omega) ?_;refine .rel (λu w3=>eK w1.heap.size w3 u (dF G (eo gs[k]))) (λu a b h e=>cZ.ext h e) (λw3 e3=>cX (Cc (dc:=dc) hG (hd.ext (E2.trans e3)) (ZO.ext e3) (Xy _ (List.getElem_mem Bp)).1 Za Yo) λu w4 ⟨e4,h4⟩=>⟨h4.low (e2.trans e3).size,e4⟩) ?_;refine .rel (λu w3=>eK w1.heap.size w3 u (dF G (eo gs[k]))) (λu a b h e=>cZ.ext h e) (λw3 e3=>?_) ?_
   ·repeat intro _
    exact⟨cK,Ext.refl _⟩
   intro w3 e3 u hu;repeat intro _
   obtain⟨a9,c9,rfl,ZR,hc9⟩:=hu.row;have Zb:=e3.at_ QK;have E3:=E2.trans e3;refine dD dC ?_;refine po Zb<|ik _ (λw4 e4=>JQ (dc:=dc) hG (hd.ext (E3.trans e4)) (ZR.ext e4) ZP ZQ) ?_;refine .exact (.int .i64 (iA G (dF G (eo gs[k])))) (λw1 _=>ez _ ⟨rfl,Ext.refl _⟩) (dl (cN Zb rfl) (AE λw4 e4=>⟨λh2=>?_,λh2=>?_⟩))
   ·have h2:G.minutes<iA G (dF G (eo gs[k])):=of_decide_eq_true h2;have hq:lS G m [] gs=none:=by
     rw[Bn,if_neg λh=>by have h:=mF.1 h.2 _ (List.getElem_mem Bp);have h:iA G (dF G (eo gs[k]))<=G.minutes:=of_decide_eq_true h;omega]
    rw[hq];exact⟨_,rfl,E3.trans e4,_,rfl,λD hD=>cK⟩
   ·have h2:¬G.minutes<iA G (dF G (eo gs[k])):=of_decide_eq_false h2;have hk5:(vG G (gs.take k)).length<=5:=by simp[vG];omega
    refine er [.slice a9 (dF G (eo gs[k])).length c9] 27 λw5 nb e5 W9 ZS=>wM (hv.ext ((e3.trans e4).trans e5)) (((e2.trans e3).trans e4).trans e5).size (cZ.ext hu (e4.trans e5)) ZS cL λv' w6 g1 g2 _=>cW ⟨Bp,v',⟨rfl,rfl,rfl,rfl,rfl,trivial⟩,(((e2.trans e3).trans e4).trans e5).tG g2 λb hb=>(hv.blk hb).1,?_,λg hg=>?_⟩
    ·rw[Xz,vG,List.map_append];exact g1
    ·rw[Xz]at hg;rcases List.mem_append.1 hg with hg|hg
     ·grind
     ·rw[List.mem_singleton.1 hg];exact decide_eq_true cL
  ·obtain rfl:k=gs.length:=cK;rw[List.take_length]at hv hs;refine dm (fc ⟨_,rfl,E2,v,?_,λD hD=>?_⟩)
   ·rw[Bn];by_cases h:gs.length=m
    ·rw[if_pos ⟨h,mF.2 hs⟩];simp[h]
    ·rw[if_neg λh'=>h h'.1];have h:¬(gs.length:Int)=m:=cL;simp[h]
   ·rw[Bn]at hD;split at hD
    ·cases hD
     exact hv.low e1.size
    grind
 |d::r,a,c,gs,gv,n0,w,hd,ha,Xy,Yp,Yn,Y7,hr,hc,hg=>by
  have ok:=eD hG;refine go (V.fn Tryz.func152 cK) Tryz.ntmps152 ?_;refine eH λw1 gb e1 Y3 hb=>dm (fc (lh (decide_eq_false cK) ?_));obtain⟨ga,gc,rfl,hL,hgc⟩:=hg.row;have Zc:r.length<=4:=by have:=zF ha ok.many Yp;grind
  have UO:∀g∈gs,g.length<=4:=λg hg=>by
   have hp:=Xy g hg;have:(g++[d]).length<=5:=zF (n:=G.doors.length) (List.pairwise_append.2 ⟨hp.1,List.pairwise_singleton _ _,λx hx y hy=>cK⟩) ok.many λx hx=>by grind
   grind
  have Yq:∀{i:Nat},i=min (gs.length+1) m->(∀j,j<i->lS G m r (gh gs d j)=none)->lS G m (d::r) gs=none:=λh h2=>by grind [Df,qu]
  refine fA (min (gs.length+1) m) (λi (_:Unit)=>[(1,.slice a (d::r).length c),(2,.slice ga gs.length gc),(3,.int .i64 m),(4,di gb),(13,.int .i64 i)]) (λi _ w'=>Ext w1 w'/\∀j,j<i->lS G m r (gh gs d j)=none) () ⟨⟨rfl,rfl,rfl,rfl,rfl,trivial⟩,Ext.refl _,λj hj=>cL⟩ ?_;rintro i _ w2 hi ⟨e2,Zd⟩;have E2:=e1.trans e2;have Xa:i=min (gs.length+1) m->Ext w w2/\N9 (lS G m (d::r) gs) w.heap.size (.tuple #[.slice none 0 0,.bool false]) w2:=λh=>by rw[Yq h Zd];exact⟨E2,_,rfl,λD hD=>cK⟩
  refine dm (sv ⟨λhle=>dK ⟨λWY=>?_,λWY=>?_⟩,λhle=>lh rfl ?_⟩)
  ·have hig:i<=gs.length:=cK;have him:i<m:=cK;have s2:=E2.size;refine fA gs.length (λk v=>[(1,.slice a (d::r).length c),(2,.slice ga gs.length gc),(3,.int .i64 m),(4,di gb),(13,.int .i64 i),(14,v),(15,.int .i64 k)]) (λk v w'=>Ext w2 w'/\HZ w2.heap.size w' v (gs.take k)) (.slice none 0 0) ⟨⟨rfl,rfl,rfl,rfl,rfl,rfl,rfl,trivial⟩,Ext.refl _,[],cZ.nil _ _ _ _,rfl,λk hk=>cK,λi j u u' b hi=>cK⟩ ?_;rintro k nv w3 hk ⟨e3,TL⟩;refine dm (dK ⟨λZT=>?_,λZU=>?_⟩)
   ·have Bp:k<gs.length:=cK;have E3:=E2.trans e3;obtain⟨b7,o7,a7,c7,rfl,Y8,Y9,_⟩:=(hL.ext E3) k Bp;have ZV:=UO _ (List.getElem_mem Bp);refine er [] 3 λw4 nb e4 W9 ZW=>eX k Bp (cO (e4.cell Y8) (xS [] ZW dt W9 rfl (Y9.ext e4) cL λu w5 g1 e5=>?_));have hu:eK w3.heap.size w5 u gs[k]:=by
     simp only[List.length_nil,Nat.zero_add,List.nil_append]at g1;exact g1
    obtain⟨a8,c8,rfl,_,_⟩:=hu.row;have⟨us,h1,h2,h3,h4⟩:=TL;have XA:=e4.trans e5;refine er [.slice a8 gs[k].length c8] 27 λw6 TM e6 Yr Ys=>LG (n1:=w3.heap.size) ((h1.ext XA).ext e6) h2 (λi hi=>by have⟨x,q1,q2⟩:=h3 i hi;exact⟨x,q1,cZ.ext (cZ.ext q2 XA) e6⟩) h4 ((e3.trans XA).trans e6).size (λx hx b hb=>?_) (cZ.ext (eK.low hu e3.size) e6) (λb hb=>(cZ.blk hu hb).1) Ys cK λv' w7 g1 g2=>cW ⟨Bp,v',⟨rfl,rfl,rfl,rfl,rfl,rfl,rfl,trivial⟩,((e3.trans XA).trans e6).tG g2 λb hb=>(h1.blk hb).1,?_⟩
    ·obtain⟨i,hi,rfl⟩:=List.getElem_of_mem hx;have⟨x,q1,q2⟩:=h3 i cL;rw[List.getElem?_eq_getElem hi]at q1;rw[Option.some.inj q1]at hb;exact(cZ.blk q2 hb).2
    ·rw[List.take_succ_eq_append_getElem Bp];grind
   obtain rfl:k=gs.length:=cK;rw[List.take_length]at TL;refine(λ(main:∀(w4:World) (Ze:Value) (Q0:List (List Nat)),Ext w2 w4->HZ w2.heap.size w4 Ze Q0->(∃Xb:i<Q0.length,gh gs d i=Q0.set i (Q0[i]++[d])/\Q0[i].length<=4)->dP V.prog _ _ [(1,.slice a (d::r).length c),(2,.slice ga gs.length gc),(3,.int .i64 m),(4,di gb),(13,.int .i64 i),(14,Ze)] w4 _)=>dm (fc ⟨λh=>?tagA,λh=>dP.jj (l0:=[(1,.slice a (d::r).length c),(2,.slice ga gs.length gc),(3,.int .i64 m),(4,di gb),(13,.int .i64 i),(14,nv)]) ⟨rfl,rfl,rfl,rfl,rfl,rfl,trivial⟩ (main w3 nv gs e3 TL ?tagB)⟩)) ?tagC;case tagA=>
    have h:i=gs.length:=Int.ofNat.inj (of_decide_eq_true h);have⟨us,h1,h2,h3,h4⟩:=TL;refine er [.slice none 0 0] 27 λw4 nb e4 W9 hb=>LG (n1:=w4.heap.size) (l:=[]) (h1.ext e4) h2 (λk hk=>by have⟨x,q1,q2⟩:=h3 k hk;exact⟨x,q1,cZ.ext q2 e4⟩) h4 (e3.trans e4).size (λx hx b hb=>?_) (cZ.nil _ _ _ _) (λb hb=>by have⟨_,_,hb⟩:=hb;grind) hb cL λv' w5 g1 g2=>dP.jj (l0:=[(1,.slice a (d::r).length c),(2,.slice ga gs.length gc),(3,.int .i64 m),(4,di gb),(13,.int .i64 i),(14,v')]) ⟨rfl,rfl,rfl,rfl,rfl,rfl,trivial⟩ (main w5 v' (gs++[[]]) ((e3.trans e4).tG g2 λb hb=>(h1.blk hb).1) g1 ⟨cK,?_,?_⟩)
    ·obtain⟨k,hk,rfl⟩:=List.getElem_of_mem hx;have⟨x,q1,q2⟩:=h3 k cL;rw[List.getElem?_eq_getElem hk]at q1;rw[Option.some.inj q1]at hb;exact Nat.lt_of_lt_of_le (cZ.blk q2 hb).2 e4.size
    ·subst h;rw[gh,if_neg dt];simp
    ·subst h;simp
   case tagB=>
    have h:¬i=gs.length:=λe=>of_decide_eq_false h (congrArg Int.ofNat e);have hl:i<gs.length:=cL;exact⟨hl,by rw[gh,if_pos hl,getD_eq hl],UO _ (List.getElem_mem hl)⟩
   case tagC=>
    rintro w4 nv Q0 e4 ⟨us,h1,h2,h3,h4⟩ ⟨Xb,Xz,ZV⟩;have⟨u,hu,XB⟩:=h3 i Xb;obtain⟨nb,nc,rfl,W9,Zf⟩:=h1.cell cL;obtain⟨b1,o1,rfl,Zg⟩:=hr 0 dt;have ZX:∀b,cV u b->w2.heap.size<=b/\b<w4.heap.size:=λb hb=>cZ.blk XB hb;have Yt:¬cV u nb:=gU h1 XB cK nb ⟨_,_,rfl⟩;have hb1:=o8 Zg;have ZY:¬cV u b1:=λh=>cK;have ZZ:=(E2.trans e4).cell Zg;refine gZ 10 dC (im (cV u)) (λa b h=>h.keep _) ?_;refine .exact (.pointer (some ⟨nb,0+i,none⟩)) (λw1 e=>eX i Xb ⟨rfl,Ext.refl _⟩) ?_;refine .exact u (λw1 e=>cO (e.fq cK Yt) ⟨rfl,Ext.refl _⟩) ?_;refine .exact (.pointer (some ⟨b1,o1+0,none⟩)) (λw1 e=>eX 0 dt ⟨rfl,Ext.refl _⟩) ?_;refine .exact (.int .i64 d) (λw1 e=>cO (e.fq ZZ ZY) ⟨rfl,Ext.refl _⟩) ?_;refine .early rfl (λx w1=>∃TM,x=.slice (some ⟨TM,0,none⟩) 1 1/\w4.heap.size<=TM/\w1.heap[TM]? =some (.cells [.int .i64 d].toArray 3)) (λu a b h e=>by have⟨TM,q1,q2,q3⟩:=h;exact⟨TM,q1,q2,e.at_ q3⟩) (λw1 e=>er [.int .i64 d] 3 λw5 TM e5 Yr QK=>⟨⟨TM,rfl,iD e.size,QK⟩,e5⟩) ?_;refine .spec (λx w1=>eK w2.heap.size w1 x (Q0[i]++[d])) (λu a b h e=>cZ.ext h e) (λw1 e x hx=>?_) ?_
    ·obtain⟨TM,rfl,q2,q3⟩:=hx;refine gR n8 (cZ.ext XB e) (e4.trans e).size q3 cL λv' w5 g1 g2 _=>⟨?_,g2⟩;unfold eK;simpa[gm]using g1
    refine .late rfl (λx _=>x=.pointer (some ⟨nb,0+i,none⟩)) (λ_ _ _ h _=>h) (λw1 e _ _ _ _=>eX i Xb ⟨rfl,Ext.refl _⟩) ?_;rintro w5 e5 p rfl x hx _ _;have Xc:Ext w2 w5:=e4.tG e5 λb hb=>(ZX b hb).1;have⟨xa,xc,Z0,_⟩:=hx.row;have Zh:cZ w2.heap.size 27 [.slice none 0 0] w5 (.slice (some ⟨nb,0,none⟩) Q0.length nc) Q0.length us:=cZ.keep h1 e5 λb hb QK=>gU h1 XB cK b hb QK;refine TK Zh Xb ⟨_,_,_,Z0⟩ λw6 h16 k6=>?_;have e6:Ext w2 w6:=Xc.cS k6 W9;have Xd:fe w2.heap.size w6 (.slice (some ⟨nb,0,none⟩) Q0.length nc) (gh gs d i):=by
     rw[Xz];refine⟨us.set i x,cK,cK,λk hk=>?_⟩;rw[List.length_set]at hk;by_cases Yu:i=k
     ·subst Yu;refine⟨x,cK,?_⟩;rw[List.getElem_set_self];exact cZ.keep hx k6 λb hb e=>by subst e;exact gU Zh hx cK _ ⟨_,_,rfl⟩ hb
     ·have⟨y,q1,q2⟩:=h3 k hk;refine⟨y,cK,?_⟩;rw[List.getElem_set_ne Yu];refine cZ.keep (cZ.keep q2 e5 λb hb QK=>Yu (h4 i k u y b hu q1 QK hb)) k6 λb hb e=>?_;subst e;exact gU h1 q2 cK _ ⟨_,_,rfl⟩ hb
    have Z1:(gh gs d i).length=Q0.length:=cK;have Z2:=oy gs d i;have Z3:(gh gs d i).length<=m:=by split at Z2<;>omega
    rw[<-Z1]at Xd⊢;have E6:=E2.trans e6;have Ys:=(e2.trans e6).at_ hb;refine dD dC ?_;refine po Ys<| .exact (.slice (wG (some ⟨b1,o1,none⟩) 1 c) r.length (c-1)) (λw7 e7=>A8 1 dt hc ⟨rfl,Ext.refl _⟩) ?_;refine .rel (N9 (lS G m r (gh gs d i)) w6.heap.size) N9.st (λw7 e7=>cX (wT hG m hm r _ _ (gh gs d i) _ w2.heap.size w7 (hd.ext (E6.trans e7)) (List.pairwise_cons.1 ha).2 (NL ha Xy) (λx hx=>Yp x (List.mem_cons_of_mem _ hx)) (rh Yn (Yp d List.mem_cons_self)) Z3 ((hr.ext (E6.trans e7)).drop 1 cK) (by simp at hc;omega) (Xd.ext e7)) λv w8 ⟨e8,x,h8,h9⟩=>⟨⟨x,h8,h9.low e7.size⟩,e8⟩) ?_;refine .rel (N9 (lS G m r (gh gs d i)) w6.heap.size) N9.st Xx ?_;refine .rel (NK (lS G m r (gh gs d i)) w6.heap.size) NK.st (by rintro _ _ _ ⟨_,rfl,h⟩;exact⟨h,Ext.refl _⟩) ?_;refine .rel (QZ (lS G m r (gh gs d i)).isSome) QZ.st (by rintro _ _ _ ⟨_,rfl,_⟩;exact⟨rfl,Ext.refl _⟩) ?_;refine .rel (NK (lS G m r (gh gs d i)) w6.heap.size) NK.st (by(repeat intro _);exact⟨cK,Ext.refl _⟩) ?_;refine .rel (QZ (lS G m r (gh gs d i)).isSome) QZ.st (by(repeat intro _);exact⟨cK,Ext.refl _⟩) ?_;rintro w7 e7 _ rfl x hx;repeat intro _
    have E7:=E6.trans e7;have Xe:i<min (gs.length+1) m:=cL;cases hq:lS G m r (gh gs d i)with
    |none=>exact lh rfl (cW ⟨Xe,(),⟨rfl,rfl,rfl,rfl,rfl,trivial⟩,(e2.trans e6).trans e7,λj hj=>by grind⟩)
    |some D=>
     have hf:lS G m (d::r) gs=some D:=by rw[Df G m d r gs Y7,l9 Xe Zd hq]
     rw[hf];refine jX rfl ⟨_,rfl,E7,x,rfl,λD' Z4=>?_⟩;cases Z4;exact(hx D hq).low E6.size
  ·have WY:¬i<m:=cK;exact⟨_,rfl,Xa cL⟩
  ·have hle:¬i<=gs.length:=cK;exact⟨_,rfl,Xa cL⟩
end
section
variable{G:Gd}{da:Option Addr}{dc:Nat}{w:cI}
def BH(z:em G=0)(p:gX w da G.doors){l:List Nat}{a:Option Addr}{c:Nat}(F:fN w a l)(q:l.Pairwise (·<·))(n:∀d∈l,d<G.doors.length)(H:l.length<=c):
 Calls V.prog 102 #[gV G da dc,.slice a l.length c] w (fM λv o=>Ext w o/\N9 (fh G (eo l)) w.heap.size v o):=by
 have A:=eD z;have B:=A.many;have I:=zF q B n;have f:=ko.eo (G:=G) B (l:=l) n;have r:eh (eo l)=l:=Bj q λd p=>iD (n d p);have C:=Nz A f;rw[r]at C;rw[<-C];refine jb Tryz.func102 Tryz.ntmps102 ?_;refine eH λJ K L M N=>?_;refine fA (l.length+1) (λm (_:Unit)=>[(1,.slice a l.length c),(2,di K),(6,i64 m)]) (λm _ o=>Ext J o/\∀j,j<m->lS G j l []=none) () ⟨by trivial,Ext.refl _,λj O=>cL⟩ ?_;rintro m _ P W ⟨s,e⟩;have i:=L.trans s;refine dm (sv ⟨λb=>?_,λb=>?_⟩);have Q:m<=l.length:=iD (fH b);refine eI (s.at_ N) (cX (wT (dc:=dc) z m cL l a c [] (.slice none 0 0) 0 P (p.ext i) q (λg t=>by cases t) n (λg t=>by cases t) (gi _) (F.ext i) H ⟨[],cZ.nil _ _ _ _,rfl,λk R=>by simp at R⟩) ?_);rintro _ X ⟨E,u,rfl,S⟩;cases x:lS G m l []with
 |none=>exact lh rfl (cW ⟨cL,(),by trivial,s.trans E,λj O=>by obtain h|h:=gu j m;exact e j h;obtain rfl:j=m:=cL;exact x⟩)
 |some D=>
  have T:((List.range (l.length+1)).findSome? λm=>lS G m l [])=some D:=l9 cL e x;rw[T];refine jX rfl ⟨_,rfl,i.trans E,u,rfl,λY y=>?_⟩;cases y;exact(S D x).low i.size
 have b:¬m<=l.length:=iD (iP b);obtain rfl:m=l.length+1:=cL;rw[qu e];exact⟨_,rfl,i,_,rfl,λD U=>by cases U⟩
end
abbrev Io:=Option Addr×Nat×Nat
def zn(i:Bool)(m a:Int)(d s:Io):dN:=[.bool i,.int .i64 m,.int .i64 a,.slice d.1 d.2.1 d.2.2,.slice s.1 s.2.1 s.2.2]
def Oa(i:Bool)(m a:Int)(d s:Io):cJ:=.agg (zn i m a d s).toArray
def H1(i:Bool)(m a:Int)(j:Bool)(n b:Int):Bool:=!i||(j&&(decide (n<m)||(decide (n=m)&&decide (b<a))))
def sd{i:Bool}{m a:Int}{d s:Io}:ir (pK 125).toArray 0 (zn i m a d s)=(zn i m a d s).toArray:=ee (pK 125).toArray (zn i m a d s) rfl
def VS(h:w.heap[m]? =some (.cells M.toArray k)):∀j v,M[j]? =some v->w.cell? ⟨m,0+j,none⟩=some v:=λj v a=>by rw[dj];grind [cN]
def H2(i j:Bool)(m a n b:Int)(d s r t:Io)(w:cI):Calls V.prog 183 #[Oa i m a d s,Oa j n b r t] w (fM λv u=>v=(if H1 i m a j n b then Oa j n b r t else Oa i m a d s)/\Ext w u):=by
 refine Ry (V.fn Tryz.func183 cK) Tryz.ntmps183 (dP.seq dr ?_);refine eH λS p G H I=>eH λT q C J K=>eS λx o y L D=>?_;have f:x.heap[p]? =some (.cells (zn i m a d s).toArray 125):=(C.trans y).at_ I;have g:x.heap[q]? =some (.cells (zn j n b r t).toArray 125):=y.at_ K;have E:=(G.trans C).trans y;have⟨c,M⟩:=jQ (H1 i m a j n b);rw[<-M];refine dP.gN (dP.gN (dP.mono (Q:=λe F u=>e=.normal/\Sub [(2,di p),(3,di q),(4,di o),(32,.bool c)] F/\u=x) ?_ ?_));rintro _ F _ ⟨rfl,N,rfl⟩;refine dP.jj N (dP.of dr ⟨λh=>?_,λh=>?_⟩);rw[h,cT rfl];refine ew (VS g) (dI D λz A l=>?_);have l:z.heap[o]? =some (.cells (zn j n b r t).toArray 125):=l.trans (dE (λa=>some (Obj.cells a 125)) sd);exact⟨_,jr _ l cK,_,rfl,rfl,E.cS A cK⟩;rw[h,cR Bool.false_ne_true];refine dP.of dr<|ew (VS f) (dI D λz A l=>?_);have l:z.heap[o]? =some (.cells (zn i m a d s).toArray 125):=l.trans (dE (λa=>some (Obj.cells a 125)) sd);exact⟨_,jr _ l cK,_,rfl,rfl,E.cS A cK⟩;have k:∀{b:Bool},b=c->some (Value.bool b)=some (.bool c):=cK;have B:some gT=some gT:=rfl;refine mR.start (mR.B8 13 dr ?_);refine cO (cN f rfl) (eC ⟨λO=>?_,λO=>cO (cN g rfl) ⟨λP=>cO (cN g rfl) (cO (cN f rfl) (dK ?_)),λP=>?_⟩⟩);refine mR.jj (l0:=[(2,di p),(3,di q),(4,di o),(8,.bool true),(11,undef),(17,undef)]) (by trivial) (mR.B8 15 dr (jX rfl (mR.fin ⟨rfl,⟨rfl,rfl,rfl,k ?_,trivial⟩,rfl⟩)));grind [H1]
 ·refine mR.jj (l0:=[(2,di p),(3,di q),(4,di o),(8,.bool false),(11,.bool true),(17,.bool (decide (n<m)))]) (by trivial) (mR.B8 15 dr ?_);refine⟨λR=>jX rfl (lh rfl (mR.fin ⟨rfl,⟨rfl,rfl,rfl,k ?_,trivial⟩,rfl⟩)),λR=>cO (cN g rfl) (cO (cN f rfl) (fc ⟨λl=>cO (cN g rfl) (cO (cN f rfl) (dK (jX rfl (lh rfl (mR.fin ⟨rfl,⟨rfl,rfl,rfl,k ?_,trivial⟩,rfl⟩))))),λl=>jX rfl (lh rfl (mR.fin ⟨rfl,⟨rfl,rfl,rfl,k ?_,trivial⟩,rfl⟩))⟩))⟩;all_goals
   grind [H1]
 refine mR.jj (l0:=[(2,di p),(3,di q),(4,di o),(8,.bool false),(11,.bool false),(17,undef)]) (by trivial) (mR.B8 15 dr (lh rfl (lh rfl (mR.fin ⟨rfl,⟨rfl,rfl,rfl,k ?_,trivial⟩,rfl⟩))));grind [H1]
section
variable{G:Gd}{da:Option Addr}{dc:Nat}{w:cI}
def pV(G:Gd)(l:List Tq)(a:eY)(i:Nat):Bool:=!HH G.tries (rl (i:Nat) rj l)&&!AJ (i:Nat) a
def me(G:Gd)(l:List Tq)(a:eY):cM:=(List.range G.doors.length).filter (pV G l a)
def Dl(n:G.doors.length<=100000){l:List Tq}{o:dV}{u:Nat}(z:kq w o l)(e:l.length<=100000)(A:∀q∈l,0<=q.shift/\q.shift<=1000){but:eY}{ba:dV}{bc:Nat}(B:kD w ba but)(p:but.length<=100000):
 Calls V.prog 101 #[gV G da dc,.slice o l.length u,.slice ba but.length bc] w (fM λv f=>Ext w f/\eK w.heap.size f v (me G l but)):=by
 refine go (V.fn Tryz.func101 cK) Tryz.ntmps101 ?_;refine eH λx C y D E=>fA G.doors.length (λk v=>[(1,.slice o l.length u),(2,.slice ba but.length bc),(3,di C),(7,v),(8,i64 k)]) (λk v f=>Ext x f/\eK x.heap.size f v ((List.range k).filter (pV G l but))) (fl) ⟨by trivial,Ext.refl _,cZ.nil _ _ _ _⟩ ?_;rintro k v N O ⟨d,g⟩;have r:=y.trans d;have h:=d.at_ E;refine cO (cN h rfl) (dm (dK ⟨λF=>?_,λH=>?_⟩));have c:k<G.doors.length:=cK;have b:(List.range (k+1)).filter (pV G l but)=(List.range k).filter (pV G l but)++if pV G l but k then [k]else []:=by rw[mL,List.filter_append,List.filter_cons];grind
 have I:((List.range k).filter (pV G l but)).length<=100000:=cK;refine dD dC (po h (ik _ (λi a=>rZ (z.ext (r.trans a)) e A k) (ik _ (λi a=>ES _) (mY ⟨λJ=>?_,λJ=>?_⟩))));refine iW dC _ (λi a=>Di but k ba bc i (B.ext (r.trans a)) p) (GT λi a=>⟨λs=>?_,λs=>?_⟩);rw[Lz]at s;have j:pV G l but k=true:=by grind [pV]
 rw[j,cT rfl]at b;refine er [i64 k] 3 λP Q m K t=>gR n8 (cZ.ext (cZ.ext g a) m) ((d.trans a).trans m).size t cL λL R S M T=>cW ⟨c,L,by trivial,?_,?_⟩;exact((d.trans a).trans m).iI M (cZ.ext (cZ.ext g a) m) (dg _);grind [List.length_append,eK,gm];rw[Lz]at s;have j:pV G l but k=false:=by grind [pV]
 rw[j,cR Bool.false_ne_true,List.append_nil]at b;exact cW ⟨c,v,by trivial,d.trans a,by rw[b];exact cZ.ext g a⟩;have j:pV G l but k=false:=by grind [pV]
 rw[j,cR Bool.false_ne_true,List.append_nil]at b;exactλi a=>lh rfl (cW ⟨c,v,by trivial,d.trans a,by rw[b];exact cZ.ext g a⟩);obtain rfl:k=G.doors.length:=cK;exact⟨_,rfl,r,eK.low g y.size⟩
end
def Zi(a b:Int):Int:=IntKind.i64.wrap (BitVec.ofInt 64 a&&&BitVec.ofInt 64 b).toNat
section
variable{w:cI}{k:cJ->cI->Prop}{t:cQ}{x y:dW}
def Q2(r:Int)(a:Zi I J=r)(h:k (.int .i64 r) w):jL V.prog (do eqGuard .and t x y (.int .i64 I) (.int .i64 J);binOp .and t (.int .i64 I) (.int .i64 J)) w k:=⟨_,w,rfl,by subst a;exact h⟩
def Q3(a:m<=64)(h:k (.int .i64 (I.fdiv (2^m))) w):jL V.prog (do eqGuard .shr t x y (.int .i64 I) (.int .i64 m);binOp .shr t (.int .i64 I) (.int .i64 m)) w k:=by
 refine⟨_,w,?_,h⟩;show Sem.run jS (Op.shift .shr .i64 I .i64 m) w=_;unfold Op.shift;rw[cR cL];have:min (m:Int).toNat IntKind.i64.bits=m:=by simp[IntKind.bits];omega
 rw[this];rfl
def H3(b:m<=64)(a:IntKind.i64.wrap (I*2^m)=J)(h:k (.int .i64 J) w):jL V.prog (do eqGuard .shl t x y (.int .i64 I) (.int .i64 m);binOp .shl t (.int .i64 I) (.int .i64 m)) w k:=by
 refine⟨_,w,?_,h⟩;show Sem.run jS (Op.shift .shl .i64 I .i64 m) w=_;unfold Op.shift;rw[cR cL];have:min (m:Int).toNat IntKind.i64.bits=m:=by simp[IntKind.bits];omega
 rw[this,<-a];rfl
end
def VT:∀s:Nat,s<32->∀d:Nat,d<5->Zi ((s:Int).fdiv (2^d)) 1=if s.testBit d then 1 else 0:=by decide+kernel
def Dm:∀n:Nat,n<=5->IntKind.i64.wrap (1*2^n)=((2^n:Nat):Int):=by decide+kernel
section
variable{G:Gd}{da:Option Addr}{dc:Nat}{w:cI}
def V7(n s:Nat):cM:=(List.range n).filter λi=>s.testBit i
def sH(G:Gd)(s:Nat):Int:=match fh G s with
 |none=> -1
 |some D=>(D.length:Nat)
def hH(G:Gd):eY:=(List.range (2^G.doors.length)).map (sH G)
def TN:∀n:Nat,n<=5->∀s:Nat,s<2^n->eo (V7 n s)=s:=by decide+kernel
def Q4(n s:Nat):V7 (n+1) s=V7 n s++if s.testBit n then [n]else []:=by rw[V7,mL,List.filter_append,List.filter_cons];cases s.testBit n<;>rfl
def TO(n s:Nat):(V7 n s).length<=n:=dw (List.length_filter_le _ _) dt
def Xf{n:Nat}(h:n<=5):2^n<=32:=dw (Nat.pow_le_pow_right cK h) cK
def Fa(O:em G=0)(E:gX w da G.doors):Calls V.prog 151 #[gV G da dc] w (fM λv f=>Ext w f/\HT w.heap.size f v (hH G)):=by
 have ok:=eD O;have F:=ok.many;have hp:=Xf F;refine go (V.fn Tryz.func151 cK) Tryz.ntmps151 ?_;refine eH λB P Q aa hg=>fA (2^G.doors.length) (λs v=>[(1,di P),(3,v),(4,i64 s)]) (λs v f=>Ext B f/\HT B.heap.size f v ((List.range s).map (sH G))) (fl) ⟨by trivial,Ext.refl _,cZ.nil _ _ _ _⟩ ?_;rintro s v R hs ⟨l,S⟩;have T:=Q.trans l;have o:=l.at_ hg;refine cO (cN o rfl) (dm (H3 cL (Dm _ F) (dK ⟨λab=>?_,λac=>?_⟩)));have j:s<2^G.doors.length:=cK;refine fA G.doors.length (λi u=>[(1,di P),(3,v),(4,i64 s),(5,u),(6,i64 i)]) (λi u f=>Ext R f/\eK R.heap.size f u (V7 i s)) (fl) ⟨by trivial,Ext.refl _,cZ.nil _ _ _ _⟩ ?_;rintro i u w3 hi ⟨m,H⟩;have p:=m.at_ o;have ad:=TO i s;refine cO (cN p rfl) (dm (dK ⟨λU=>?_,λW=>?_⟩));have q:i<G.doors.length:=cK;have a:=Q4 i s;refine Q3 cL (Q2 _ (VT s cL i cL) (fc ⟨λr=>?_,λr=>?_⟩));have r:s.testBit i=true:=by grind
 rw[r,cT rfl]at a;refine er [i64 i] 3 λw4 X n t I=>gR n8 (cZ.ext H n) (m.trans n).size I cL λg x C y Y=>cW ⟨q,g,by trivial,(m.trans n).iI y (cZ.ext H n) (dg _),?_⟩;grind [List.length_append,eK,gm];have r:s.testBit i=false:=by grind
 rw[r,cR Bool.false_ne_true,List.append_nil]at a;exact cW ⟨q,u,by trivial,m,cK⟩;obtain rfl:i=G.doors.length:=cK;obtain⟨ua,uc,rfl,J,K⟩:=H.row;have z:=TN _ F s j;have Z:=BH (dc:=dc) O (E.ext (T.trans m)) J (List.Pairwise.filter _ List.pairwise_lt_range) (λd E=>by have:=(nA.1 E).1;grind) K;rw[z]at Z;refine eI p (cX Z ?_);rintro _ w4 ⟨n,D,rfl,hD⟩;have A:=m.trans n;have b:=cZ.ext S A;have a:(List.range (s+1)).map (sH G)=(List.range s).map (sH G)++[sH G s]:=by rw[mL,oC];rfl
 have ae:((List.range s).map (sH G)).length=s:=dt;have c:∀{x:cI} {g:cJ},cZ B.heap.size 3 [i64 0] x g (((List.range s).map (sH G)).length+1) (((List.range s).map (sH G)).flatMap iL++[i64 (sH G s)])->HT B.heap.size x g ((List.range (s+1)).map (sH G)):=λh=>by rw[a];unfold HT;rw[lU,List.flatMap_append];exact h
 cases M:fh G s with
 |none=>
  have N:sH G s= -1:=by rw[sH,M]
  rw[N]at c;exact lh rfl (er [i64 (-1)] 3 λx X e t k=>gR n8 (cZ.ext b e) ((l.trans A).trans e).size k cL λg w6 C y Y=>cW ⟨j,g,by trivial,((l.trans A).trans e).iI y (cZ.ext b e) (dg _),c C⟩)
 |some L=>
  have N:sH G s=(L.length:Nat):=by rw[sH,M]
  rw[N]at c;obtain⟨a7,c7,rfl,_⟩:=(hD L M).row;exact jX rfl (dm (er [i64 (L.length:Nat)] 3 λx X e t k=>gR n8 (cZ.ext b e) ((l.trans A).trans e).size k cL λg w6 C y Y=>cW ⟨j,g,by trivial,((l.trans A).trans e).iI y (cZ.ext b e) (dg _),c C⟩))
 obtain rfl:s=2^G.doors.length:=cK;exact⟨_,rfl,T,cZ.low S Q.size⟩
end
abbrev uD:=Option (Int×Int×List (List Nat))
def vL:uD->uD->uD
 |none,b=>b
 |some a,none=>some a
 |some a,some b=>if b.1<a.1\/b.1=a.1/\b.2.1<a.2.1 then some b else some a
def jz(a:eY)(v:Nat):Int:=a.getD v 0
def UP(a:eY)(o:uD)(v:Nat):Bool:=decide (0<=jz a v)&&match o with
 |none=>true
 |some r=>decide (jz a v<=r.1)
def ja(d:Nat)(sets:cM)(c:cM):cM:=c.foldl (λs x=>s.set x (s.getD x 0+2^d)) sets
def wU(a:eY)(o:uD)(d:Nat):cM->cM->Bool
 |_,[]=>true
 |s,x::r=>UP a o ((ja d s [x]).getD x 0)&&wU a o d (ja d s [x]) r
def j6(b:eY):cM->Int->Int->Option (Int×Int)
 |[],m,a=>some (m,a)
 |v::r,m,a=>if jz b v<0 then none else j6 b r (max m (jz b v)) (a+jz b v)
def sC(a:eY)(d:Nat)(sets:cM)(b:cM->cM->uD)(o:uD)(c:cM):uD:=
 if wU a o d sets c then vL o (b c (ja d sets c))else o
def se(a:eY):List (Nat×List cM)->List cM->cM->uD
 |[],e,sets=>(j6 a sets 0 0).map λp=>(p.1,p.2,e)
 |(d,f)::b,e,sets=>f.foldl (sC a d sets λc g=>se a b (e++[c]) g) none
def pw(l:cM):Nat:=(l.map λd=>2^d).sum
theorem pq(d:Nat):∀(c s:cM),(ja d s c).length=s.length
 |[],s=>rfl
 |x::r,s=>by show(ja d (s.set x _) r).length=_;rw[pq d r,qG]
theorem tU(d:Nat):∀(c s:cM),m∉c->(ja d s c).getD m 0=s.getD m 0
 |[],s,_=>rfl
 |x::r,s,h=>by show(ja d (s.set x _) r).getD m 0=_;rw[tU d r _ cK];grind
theorem LH(d:Nat)(y:Nat):∀(c s:cM),c.Nodup->(ja d s c).getD y 0<=s.getD y 0+2^d
 |[],s,_=>Nat.le_add_right _ _
 |x::r,s,h=>by show(ja d (s.set x _) r).getD y 0<=_;have a:=List.nodup_cons.1 h;by_cases e:x=y;subst e;rw[tU d r _ a.1];grind;refine dw (LH d y r _ a.2) ?_;grind
def NM(d:Nat)(s c:cM)(x:Nat):ja d s (c++[x])=(ja d s c).set x ((ja d s c).getD x 0+2^d):=by unfold ja;grind
theorem Dn(a:eY)(o:uD)(d x:Nat):∀(c s:cM),wU a o d s (c++[x])=(wU a o d s c&&UP a o ((ja d s (c++[x])).getD x 0))
 |[],s=>by simp[wU]
 |y::r,s=>by have h:=Dn a o d x r (ja d s [y]);grind [Bool.and_assoc,UP,wU,ja]
theorem BI(b:eY)(v:Nat):∀(l:cM) (m a:Int),j6 b (l++[v]) m a=(j6 b l m a).bind λp=>j6 b [v] p.1 p.2
 |[],m,a=>rfl
 |x::r,m,a=>by show(if jz b x<0 then none else j6 b (r++[v]) _ _)=Option.bind (if jz b x<0 then none else j6 b r _ _) _;split;rfl;exact BI b v r _ _
theorem BJ{b:eY}:∀{l:cM} {m a:Int} (k:Nat),j6 b (l.take k) m a=none->j6 b l m a=none
 |[],m,a,k,h=>cK
 |x::r,m,a,0,h=>by cases h
 |x::r,m,a,k+1,h=>by rw[List.take_succ_cons]at h;simp only[j6]at h⊢;split at h;grind;rename_i c;rw[cR c];exact BJ k h
def NN{num:eY}{sets:cM}{go:cM->cM->uD}{a:List cM}(b:i<a.length):(a.take (i+1)).foldl (sC num d sets go) none=sC num d sets go ((a.take i).foldl (sC num d sets go) none) a[i]:=by rw[iw b,si];rfl
def nV(w:cI)(a:dV)(l:cM):Prop:=∀k (h:k<l.length),∃b o c,a=some ⟨b,o,none⟩/\w.heap[b]? =some (.cells c 3)/\c[o+k]? =some (.int .i64 l[k])
def nX(w:cI)(a:dV)(c:List cM):Prop:=∀k (h:k<c.length),∃b o d e f,a=some ⟨b,o,none⟩/\w.heap[b]? =some (.cells d 27)/\d[o+k]? =some (.slice e c[k].length f)/\nV w e c[k]/\c[k].length<=f
def xW(F:dn)(w:cI):Prop:=∀b a t,F b->w.heap[b]? =some (.cells a t)->¬(t=3\/t=27)
def nV.keep(h:nV w a l)(k:dA A w t)(e:xW A w):nV t a l:=λi f=>by have⟨b,o,c,g,d,j⟩:=h i f;exact⟨b,o,c,g,k.fL d (λm=>e b c 3 m d (.inl rfl)),j⟩
theorem nX.keep{l:List cM}(h:nX w a l)(k:dA A w t)(c:xW A w):nX t a l:=λi f=>by have⟨b,o,d,g,j,m,e,n,p,q⟩:=h i f;exact⟨b,o,d,g,j,m,k.fL e (λr=>c b d 27 r e (.inr rfl)),n,p.keep k c,q⟩
def H4(w:cI):xW (λ_=>False) w:=λ_ _ _ h=>h.elim
def wV(h:w.heap[m]? =some (.cells W k))(b:¬(k=3\/k=27):=by decide):xW (λx=>x=m) w:=λx c t d a=>by subst d;rw[h]at a;cases a;exact b
def TP(h:cZ m k M w x i Y)(b:¬(k=3\/k=27):=by decide):xW (cV x) w:=λd c t a f=>by have⟨l,g,e⟩:=a;obtain⟨j,⟨_,h⟩|⟨n,o,p,q,r,s,u⟩⟩:=h;grind;grind
def nV.ext(h:nV w a l)(e:Ext w t):nV t a l:=h.keep (e.keep λ_=>False) (H4 w)
def nX.ext{l:List cM}(h:nX w a l)(e:Ext w t):nX t a l:=h.keep (e.keep λ_=>False) (H4 w)
def nV.row(h:nV w a l):fN w a l:=λi c=>by have⟨b,o,d,e,f,g⟩:=h i c;grind [cN]
theorem nX.row{l:List cM}(h:nX w a l):wA w a l:=λi c=>by have⟨b,o,n,d,e,f,g,j,k,m⟩:=h i c;exact⟨b,o,d,e,f,cN g j,k.row,m⟩
def eK.TQ(h:eK m w x l):∃a c,x=.slice a l.length c/\nV w a l/\l.length<=c:=by obtain⟨o,⟨e,d⟩|⟨b,c,g,e,d,i,p,j,q,n,r⟩⟩:=h;rw[e];exact⟨none,0,d,λk f=>cL,gi _⟩;refine⟨_,c,d,λk f=>⟨b,0,g,rfl,i,?_⟩,j⟩;rw[dj,n k cK];simp[gm,eZ f]
def LI{c:Nat}{ls:List cM}(h:cZ m 27 [.slice none 0 0] w (.slice a ls.length c) ls.length M)(i:∀k (d:k<ls.length),∃x c,M[k]? =some (.slice x ls[k].length c)/\nV w x ls[k]/\ls[k].length<=c):nX w a ls/\ls.length<=c:=by
 obtain⟨j,⟨f,g⟩|⟨b,y,l,f,g,n,z,o,A,p,B⟩⟩:=h;rw[f];exact⟨λk d=>cL,gi _⟩;injection g with q C r;subst q r;refine⟨λk d=>?_,o⟩;have⟨x,s,t,u,v⟩:=i k d;refine⟨b,0,l,x,s,rfl,n,?_,u,v⟩;rw[dj];have e:k<M.length:=by simp at j;omega
 exact(p k e).trans t
theorem fe.TQ{b:List cM}(h:fe m w x b):∃a c,x=.slice a b.length c/\nX w a b/\b.length<=c:=by
 have⟨i,d,j,e⟩:=h;obtain⟨a,c,rfl,_⟩:=d.len;have⟨l,n⟩:=LI d λk f=>by have⟨u,o,g⟩:=e k f;obtain⟨p,c,rfl,q,r⟩:=g.TQ;grind
 grind
def H5(w:cI)(a:dV)(c:List (List cM)):Prop:=∀k (h:k<c.length),∃b o d e,a=some ⟨b,o,none⟩/\w.cell? ⟨b,o+k,none⟩=some (.slice d c[k].length e)/\nX w d c[k]/\c[k].length<=e
theorem H5.ext{c:List (List cM)}(h:H5 w a c)(e:Ext w t):H5 t a c:=λk d=>by have⟨b,o,f,g,i,j,l,m⟩:=h k d;exact⟨b,o,f,g,i,e.cell j,l.ext e,m⟩
theorem nX.cells{w:cI}{a:dV}{d:List cM}(h:nX w a d):∃e:dN,e.length=d.length/\iR w a e/\(∀u∈e,∃x n c,u=.slice x n c)/\∀k (g:k<d.length),∃x c,e[k]? =some (.slice x d[k].length c)/\nV w x d[k]/\d[k].length<=c:=by
 have t:∀k,k<d.length->∃u:cJ,∃b o,a=some (dq b o)/\w.cell? (dq b (o+k))=some u/\∃(g:k<d.length) (x:dV) (c:Nat),u=.slice x d[k].length c/\nV w x d[k]/\d[k].length<=c:=λk g=>by have⟨b,o,H,v,y,l,z,A,B,C⟩:=h k g;exact⟨_,b,o,l,cN z A,g,v,y,rfl,B,C⟩
 have⟨e,D,m⟩:=tM d.length t;refine⟨e,D,?_,λu E=>?_,λk g=>?_⟩;obtain F|F:=mM d.length;exact .inl (oA cL);have⟨b,o,l,_⟩:=m 0 cL;refine .inr ⟨b,o,l,λj u p=>?_⟩;have i:j<e.length:=by obtain h|h:=gu j e.length;exact h;rw[T6 h]at p;cases p
 have⟨I,J,f,r,_⟩:=m j i;rw[l]at f;injection f with f;injection f with f s;subst f s;rw[eZ i]at p;rw[<-dQ p];exact r;obtain⟨k,g,rfl⟩:=List.getElem_of_mem E;have⟨_,_,_,_,_,x,c,q,_⟩:=m k g;exact⟨x,_,c,q⟩;have⟨_,_,_,_,G,x,c,f,r,s⟩:=m k cL;exact⟨x,c,by rw[eZ cL,f],r,s⟩
abbrev H6:Io:=(none,0,0)
def Q5(o:uD)(ds:Io)(i:Bool)(m a:Int)(d s:Io)(w:cI):Prop:=match o with
 |none=>i=false/\m=0/\a=0/\d=H6/\s=H6
 |some r=>i=true/\m=r.1/\a=r.2.1/\d=ds/\s.2.1=r.2.2.length/\nX w s.1 r.2.2/\r.2.2.length<=s.2.2
def Cd(o:uD)(ds:Io)(v:cJ)(w:cI):Prop:=∃i m a d s,v=Oa i m a d s/\Q5 o ds i m a d s w
def Z5(o:uD)(ds:Io)(b:Nat)(w:cI):Prop:=∃i m a d s,w.heap[b]? =some (.cells (zn i m a d s).toArray 125)/\Q5 o ds i m a d s w
theorem Q5.keep{o:uD}{ds:Io}{m a:Int}{d s:Io}{F:dn}(h:Q5 o ds E m a d s w)(k:dA F w t)(b:xW F w):Q5 o ds E m a d s t:=by
 cases o with
 |none=>exact h
 |some r=>have⟨c,e,f,g,i,j,l⟩:=h;exact⟨c,e,f,g,i,j.keep k b,l⟩
theorem Q5.ext{o:uD}{ds:Io}{m a:Int}{d s:Io}(h:Q5 o ds E m a d s w)(e:Ext w t):Q5 o ds E m a d s t:=by
 cases o with
 |none=>exact h
 |some r=>have⟨b,c,f,g,i,j,k⟩:=h;exact⟨b,c,f,g,i,j.ext e,k⟩
def Cd.st{o:uD}{ds:Io}:∀v a b,Cd o ds v a->Ext a b->Cd o ds v b:=λ_ _ _ ⟨i,m,a,d,s,c,f⟩ e=>⟨i,m,a,d,s,c,f.ext e⟩
def Q5.better{o p:uD}{ds:Io}{j:Bool}{m a n b:Int}{d s e f:Io}(h:Q5 o ds E m a d s w)(c:Q5 p ds j n b e f w):Cd (vL o p) ds (if H1 E m a j n b then Oa j n b e f else Oa E m a d s) w:=by
 cases o with
 |none=>
  obtain⟨rfl,_⟩:=h;exact⟨j,n,b,e,f,rfl,c⟩
 |some r=>
  have i:=h;obtain⟨rfl,rfl,rfl,_⟩:=h;cases p with
  |none=>
   obtain⟨rfl,_⟩:=c;exact⟨_,_,_,_,_,rfl,i⟩
  |some q=>
   have l:=c;obtain⟨rfl,rfl,rfl,_⟩:=c;have g:vL (some r) (some q)=if q.1<r.1\/q.1=r.1/\q.2.1<r.2.1 then some q else some r:=rfl
   rw[g];by_cases k:q.1<r.1\/q.1=r.1/\q.2.1<r.2.1;rw[cT k,cT (by grind [H1])];exact⟨_,_,_,_,_,rfl,l⟩;rw[cR k,cR (by grind [H1])];exact⟨_,_,_,_,_,rfl,i⟩
def Yv(a b c d:cJ)(e f g k:Nat):L:=[(0,a),(1,b),(2,c),(4,d),(8,di e),(10,di f),(13,di g),(14,.int .i64 (k:Nat))]
section
variable{num:List Int}{na da aa:Option Addr}{nc dc ac D:Nat}{ds:List Nat}{all:List (List (List Nat))}
theorem Q7(ct:ds.length<=5)(cu:all.length=ds.length)(cv:num.length<=1000)(hD:D<=100)(bQ:∀M∈all,M.length<=1000/\∀c∈M,c.Nodup/\c.length<=1000/\∀x∈c,x<D)(aI:∀z∈num,-1000<=z/\z<=1000)(bR:∀d∈ds,d<5):∀(r:Nat) (f:List cM) (sa:dV) (sc:Nat) (sets:cM) (ta:dV) (tc:Nat) (w:cI),f.length+r=ds.length->kD w na num->fN w da ds->H5 w aa all->nX w sa f->f.length<=sc->fN w ta sets->sets.length=D->(∀v∈sets,v+pw (ds.drop f.length)<num.length)->
 Calls V.prog 150 #[.slice na num.length nc,.slice da ds.length dc,.slice aa all.length ac,Oa false 0 0 H6 (sa,f.length,sc),.slice ta sets.length tc] w (fM λv G=>Ext w G/\Cd (se num ((ds.zip all).drop f.length) f sets) (da,ds.length,dc) v G):=by
 intro r;induction r with
 |zero=>
  intro f sa sc sets ta tc w hr hn hd ha hs a3 ht a4 aw;have ad:(ds.zip all).drop f.length=[]:=List.drop_eq_nil_of_le cK;rw[ad];refine Ry (V.fn Tryz.func150 cK) Tryz.ntmps150 (dP.seq dr ?_);refine eH λw1 Q e1 ax ay=>eS λw2 rb e2 az R=>?_;have U:w2.heap[Q]? =some (.cells (zn false 0 0 H6 (sa,f.length,sc)).toArray 125):=e2.at_ ay;have s1:=e1.size;have aA:¬rb=Q:=cK;refine dP.jj (l0:=[(0,.slice na num.length nc),(1,.slice da ds.length dc),(4,.slice ta sets.length tc),(8,di Q),(10,di rb)]) (by trivial) ?_;refine dP.gN (dP.of dr (cO (cN U rfl) (dm (dm (fc (jX (decide_eq_true (by show(f.length:Int)=_;omega)) ?_))))));refine dI U λw3 k3 aM=>dI aM λH k4 aN=>?_;have aN:H.heap[Q]? =some (.cells (zn true 0 0 (da,ds.length,dc) (sa,f.length,sc)).toArray 125):=aN;have E4:Ext w H:=((e1.trans e2).cS k3 ax).cS k4 ax;have I:=k4.fL (k3.fL R aA) aA;refine fA sets.length (λk (p:Int×Int)=>[(0,.slice na num.length nc),(4,.slice ta sets.length tc),(8,di Q),(10,di rb),(11,i64 k)]) (λk p G=>dA (λx=>x=Q) H G/\G.heap[Q]? =some (.cells (zn true p.1 p.2 (da,ds.length,dc) (sa,f.length,sc)).toArray 125)/\j6 num (sets.take k) 0 0=some p/\(-1000*(k+1)<=p.2/\p.2<=1000*k)) (0,0) ⟨by trivial,dA.refl _ _,aN,rfl,dt,dt⟩ ?_;rintro k ⟨m,a⟩ w5 hk ⟨k5,W,a5,cw,cx⟩;have E5:=E4.cS k5 ax;refine dm (dK ⟨λbS=>?_,λbT=>?_⟩);have ae:k<sets.length:=cK;obtain⟨b,o,rfl,hc⟩:=ht k ae;have hv:=aw _ (eB ae);have A:=BI num sets[k] (sets.take k) 0 0;rw[<-iw ae,a5]at A;have A:j6 num (sets.take (k+1)) 0 0=j6 num [sets[k]] m a:=A;generalize sets[k]=v at*;have hv:v<num.length:=cL;obtain⟨b2,o2,rfl,bU⟩:=hn v hv;have hz:=aI _ (eB hv);have a6:jz num v=num[v]:=by rw[jz,gD,eZ hv];rfl
  generalize num[v]=z at*;have A:j6 num (sets.take (k+1)) 0 0=if z<0 then none else some (max m z,a+z):=by grind [j6]
  refine eX k ae (cO (E5.cell hc) (eX v hv (cO (E5.cell bU) (dK ⟨λaf=>?_,λag=>?_⟩))));have af:z<0:=fH af;rw[cT af]at A;have aO:se num [] f sets=none:=by grind [BJ,se]
  rw[aO];have ah:=k5.fL I aA;refine ez (.agg (pK 125).toArray) (dI ah λw6 k6 h6=>?_);have h6:w6.heap[rb]? =some (.cells (zn false 0 0 H6 H6).toArray 125):=h6.trans (dE (λa=>some (Obj.cells a 125)) (sd (i:=false) (m:=0) (a:=0) (d:=H6) (s:=H6)));exact⟨_,jr _ h6 (λj v hj=>by rw[dj];simpa using hj),_,rfl,E5.cS k6 (dw e1.size az),_,_,_,_,_,rfl,rfl,rfl,rfl,rfl,rfl⟩;have ag:¬z<0:=iP ag;rw[cR ag]at A;refine cO (cN W rfl) (rI (cO (cN W rfl) (cW (dI W λw6 k6 h6=>dI h6 λw7 k7 h7=>cW ⟨ae,(max m z,a+z),by trivial,(k5.trans k6 (λ_ _ h=>h) λ_ _ h=>h).trans k7 (λ_ _ h=>h) λ_ _ h=>h,h7,A,cK,cK⟩))));obtain rfl:k=sets.length:=cK;rw[jN]at a5;have aP:se num [] f sets=some (m,a,f):=by grind [se]
  rw[aP];have ah:=k5.fL I aA;refine ew (VS W) (dI ah λw6 k6 h6=>?_);have h6:w6.heap[rb]? =some (.cells (zn true m a (da,ds.length,dc) (sa,f.length,sc)).toArray 125):=h6.trans (dE (λa=>some (Obj.cells a 125)) sd);have E6:=E5.cS k6 (dw e1.size az);exact⟨_,jr _ h6 (λj v hj=>by rw[dj];simpa using hj),_,rfl,E6,_,_,_,_,_,rfl,rfl,rfl,rfl,rfl,rfl,hs.ext E6,a3⟩
 |succ r ih=>
  intro f sa sc sets ta tc w hr hn hd ha hs a3 ht a4 aw;have hk:f.length<ds.length:=cL;have aQ:f.length<all.length:=cL;obtain⟨d,aR⟩:∃d,d=ds[f.length]:=⟨_,rfl⟩;obtain⟨M,a7⟩:∃M,M=all[f.length]:=⟨_,rfl⟩;have ad:(ds.zip all).drop f.length=(d,M)::(ds.zip all).drop (f.length+1):=by rw[pz cK,List.getElem_zip,<-aR,<-a7]
  have aS:ds.drop f.length=d::ds.drop (f.length+1):=by rw[pz hk,<-aR]
  have a8:pw (ds.drop f.length)=2^d+pw (ds.drop (f.length+1)):=by rw[aS];rfl
  obtain⟨cy,bV⟩:=bQ M cK;have cm:d<5:=bR d cK;rw[ad];refine Ry (V.fn Tryz.func150 cK) Tryz.ntmps150 (dP.seq dr ?_);refine eH λw1 Q e1 ax ay=>eS λw2 rb e2 az R=>?_;have U:w2.heap[Q]? =some (.cells (zn false 0 0 H6 (sa,f.length,sc)).toArray 125):=e2.at_ ay;have s1:=e1.size;refine dP.jj (l0:=[(0,.slice na num.length nc),(1,.slice da ds.length dc),(2,.slice aa all.length ac),(4,.slice ta sets.length tc),(8,di Q),(10,di rb)]) (by trivial) ?_;refine dP.gN (dP.of dr (cO (cN U rfl) (dm (dm (fc (lh (lL (by show¬(f.length:Int)=_;omega)) ?_))))));refine dP.seq dr (eS λw3 bb e3 cz ai=>dP.seq dr (cO (cN (e3.at_ U) rfl) (dm ?_)));have ai:w3.heap[bb]? =some (.cells (zn false 0 0 H6 H6).toArray 125):=ai;have aM:=e3.at_ U;have a9:=e3.at_ R;have s2:=e2.size;have E3:=(e1.trans e2).trans e3;have bW:w.heap.size<=bb:=cL;have l1:=dz.lt_of_heap ay;have l2:=dz.lt_of_heap R;have n1:¬Q=bb:=cL;have n2:¬rb=bb:=cL;obtain⟨go,bX⟩:∃go:cM->cM->uD,go=λc B=>se num ((ds.zip all).drop (f.length+1)) (f++[c]) B:=⟨_,rfl⟩;have bY:se num ((d,M)::(ds.zip all).drop (f.length+1)) f sets=M.foldl (sC num d sets go) none:=by rw[bX];rfl
  rw[bY];refine dP.jj (l0:=Yv (.slice na num.length nc) (.slice da ds.length dc) (.slice aa all.length ac) (.slice ta sets.length tc) Q rb bb f.length) (by trivial)<|dP.gN (dP.seq dr ?_);refine nu M.length (λi (_:Unit)=>(15,i64 i)::Yv (.slice na num.length nc) (.slice da ds.length dc) (.slice aa all.length ac) (.slice ta sets.length tc) Q rb bb f.length) (λi _ G=>dA (λx=>x=bb) w3 G/\Z5 ((M.take i).foldl (sC num d sets go) none) (da,ds.length,dc) bb G) () ⟨by trivial,dA.refl _ _,_,_,_,_,_,ai,rfl,rfl,rfl,rfl,rfl⟩ ?_;rintro i _ H hi ⟨k4,hB⟩;have E4:Ext w H:=E3.cS k4 bW;obtain⟨ab,ao,ca,cc,rfl,aT,bc,be⟩:=ha f.length aQ;rw[<-a7]at aT bc be;refine dP.gN (dP.of dr (eX f.length aQ (cO (E4.cell aT) (dm (dK ⟨λbS=>?_,λbT=>?_⟩)))));have aj:i<M.length:=cK;obtain⟨c,bf⟩:∃c,c=M[i]:=⟨_,rfl⟩;obtain⟨bg,cn,bZ⟩:=bV c cK;have aU:=NN (num:=num) (d:=d) (sets:=sets) (go:=go) aj;rw[<-bf]at aU;generalize (M.take i).foldl (sC num d sets go) none=g at*;obtain⟨b1,o1,cA,xa,xc,rfl,bh,aB,aV,b0⟩:=bc i aj;have ak:=cN bh aB;rw[<-bf]at ak aV b0;obtain⟨bi,bm,ba,bd,bs,al,X⟩:=hB;refine dP.gN (dP.block (dP.seq dr (eX f.length aQ (cO (E4.cell aT) (eX i aj (cO (E4.cell ak) ?_))))));refine dP.seq dr (er [] 3 λw5 cB e5 bj W=>od (n0:=H.heap.size) n8 W bj (by simp[gm]) (ht.ext (E4.trans e5)).cells (wz sets) cL λq w6 hq hE=>?_);have aW:Ext H w6:=hE H e5 (dg _);have hq:eK H.heap.size w6 q sets:=hq;obtain⟨qa,qc,rfl,_,_⟩:=hq.row;have E6:=E4.trans aW;have co:=aW.at_ al;refine dP.seq dr (dP.gN (dP.seq dr ?_));refine nu c.length (λj (_:Unit)=>(16,.slice xa c.length xc)::(17,.slice qa sets.length qc)::(18,.bool (wU num g d sets (c.take j)))::(19,i64 j)::(15,i64 i)::Yv (.slice na num.length nc) (.slice da ds.length dc) (Fu ab ao all.length ac) (.slice ta sets.length tc) Q rb bb f.length) (λj _ G=>dA (cV (.slice qa sets.length qc)) w6 G/\eK H.heap.size G (.slice qa sets.length qc) (ja d sets (c.take j))) () ⟨by trivial,dA.refl _ _,hq⟩ ?_;rintro j _ w7 hj ⟨k7,aC⟩;have J:Ext H w7:=aW.iI k7 hq (dg _);have E7:=E4.trans J;have aJ:=J.at_ al;have aX:=pq d (c.take j) sets;refine dP.gN (dP.of dr (dm (dK ⟨λcp=>?_,λcq=>?_⟩)));have C:j<c.length:=cK;obtain⟨x,hx⟩:∃x,x=c[j]:=⟨_,rfl⟩;have N:x<sets.length:=by rw[hx,a4];exact bZ _ (eB C)
  have bk:c.take (j+1)=c.take j++[x]:=by rw[hx];simp
  have A:=NM d sets (c.take j) x;have t:=Dn num g d x (c.take j) sets;rw[<-bk]at A t
  have b3:x∉c.take j:=λhm=>by
   have b4:(c.take j++[x]).Nodup:=by rw[<-bk];exact bg.sublist (List.take_sublist _ _)
   exact(List.nodup_append.1 b4).2.2 x hm x (iv.2 rfl) rfl
  have b5:=tU d (c.take j) sets b3;generalize ja d sets (c.take j)=B at*;have b6:B.getD x 0+2^d<num.length:=by have h1:=aw _ (eB N);rw[a8]at h1;rw[b5,gD,eZ N];simp only[kG];omega
  have aY:cZ H.heap.size 3 [i64 0] w7 (.slice qa sets.length qc) sets.length (gm B):=by have h:=aC;unfold eK at h;grind
  obtain⟨Y,rfl,aD⟩:∃Y,qa=some (dq Y 0)/\H.heap.size<=Y:=by obtain⟨_,⟨h0,_⟩|⟨Y,b7,b8,q1,Z,_⟩⟩:=aY;omega;injection Z with Z;exact⟨Y,Z,q1⟩
  have bl:∀{G:cI} {l:cM},cZ H.heap.size 3 [i64 0] G (fa Y sets.length qc) sets.length (gm l)->l.length=sets.length->G.cell? (dq Y (0+x))=some (i64 ((l.getD x 0:Nat))):=λ{G l} h hl=>by obtain⟨_,⟨h0,_⟩|⟨cC,b7,b8,q1,Z,q3,q4,q5,q6,q7,q8⟩⟩:=h;omega;injection Z with Z _ q9;injection Z with Z;injection Z with Z;subst Z;have bo:x<l.length:=cL;rw[dj];refine cN q3 ((q7 x (by simpa[gm]using bo)).trans ?_);simp[gm,eZ bo,gD]
  have bp:=bl aY aX;have hP:(0:Int)<=((2^d:Nat):Int):=Int.natCast_nonneg _;obtain⟨bx,ox,rfl,am⟩:=aV.row j C;rw[<-hx]at am;obtain⟨bq,oq,rfl,br⟩:=hd f.length hk;rw[<-aR]at br;refine dP.gN (dP.block (dP.seq dr (dD dC (gB j C (dl (E7.cell am) (gB j C (dl (E7.cell am) (gB x N (dl bp (gB f.length hk (dl (E7.cell br) (dx _ (λw1 _=>H3 cL (Dm d cL) ⟨rfl,dC.refl _⟩) (vn (gB x N λw8 e8=>?_))))))))))))));refine QY (cZ.ext aY e8) N rfl rfl λw9 bt k9=>?_;obtain⟨O,S⟩:∃O,O=B.set x (B.getD x 0+2^d):=⟨_,rfl⟩;have bu:(gm B).set x (i64 ((B.getD x 0:Nat)+(2^d:Nat)))=gm O:=by rw[S];simp[gm,List.map_set]
  rw[bu]at bt;rw[<-S]at A;rw[A]at t⊢;have b9:O.length=sets.length:=by rw[S,qG];grind
  have an:O.getD x 0<num.length:=by rw[S,gD,List.getElem?_set_self cL];exact b6
  have bv:=bl bt b9;generalize O.getD x 0=v2 at*;obtain⟨bn,on,rfl,bw⟩:=hn v2 an;have a6:jz num v2=num[v2]:=by rw[jz,gD,eZ an];rfl
  have hz:=aI _ (eB an);generalize num[v2]=z at*;have cD:H.heap.size<=Y:=aD;have bz:Ext H w9:=(J.trans e8).cS k9 aD;have E9:=E4.trans bz;have aK:=bz.at_ al;have K9:dA (cV (fa Y sets.length qc)) w6 w9:=(k7.trans (e8.keep _) (λ_ _ h=>h) λ_ _ h=>h).trans k9 (λ_ _ h=>h) λx _ h=>by have h:x=Y:=h;rw[h];exact⟨_,_,rfl⟩
  have cb:UP num g v2=(decide (0<=z)&&(!bi||decide (z<=bm))):=by
   unfold UP;rw[a6];cases g with
   |none=>obtain⟨rfl,_⟩:=X;rfl
   |some r=>obtain⟨rfl,rfl,_⟩:=X;rfl
  rw[cb]at t;have aE:∀{b:Bool},b=wU num g d sets (c.take (j+1))->some (Value.bool b)=some (.bool (wU num g d sets (c.take (j+1)))):=λh=>by rw[h]
  have aF:eK H.heap.size w9 (fa Y sets.length qc) O:=by unfold eK;grind
  have KK:∀{P:cI},Ext w9 P->dA (cV (fa Y sets.length qc)) w6 P:=λe=>K9.trans (e.keep _) (λ_ _ h=>h) λ_ _ h=>h;refine dD dC ⟨λh1=>?_,λh1=>?_⟩;rw[h1]at t;refine gB j C (dl (E9.cell am) (gB x N (dl bv (gB v2 an (dl (E9.cell bw) (WJ ⟨λh2=>?_,λh2=>?_⟩))))));rw[h2]at t;refine dl (cN aK rfl) (mY ⟨λh3=>?_,λh3=>?_⟩);rw[h3]at t;intro P n;refine dP.of dr ?_;exact cW ⟨C,(),⟨rfl,rfl,aE (by rw[t];rfl),rfl,rfl,rfl,rfl,rfl,rfl,rfl,rfl,rfl,rfl,trivial⟩,KK n,cZ.ext aF n⟩;rw[h3]at t;refine gB j C (dl (E9.cell am) (gB x N (dl bv (gB v2 an (dl (E9.cell bw) (dl (cN aK rfl) (Us λP n=>?_)))))));refine dP.of dr ?_;exact cW ⟨C,(),⟨rfl,rfl,aE (by rw[t];rfl),rfl,rfl,rfl,rfl,rfl,rfl,rfl,rfl,rfl,rfl,trivial⟩,KK n,cZ.ext aF n⟩;rw[h2]at t;intro P n;refine dP.of dr ?_;exact cW ⟨C,(),⟨rfl,rfl,aE (by rw[t];rfl),rfl,rfl,rfl,rfl,rfl,rfl,rfl,rfl,rfl,rfl,trivial⟩,KK n,cZ.ext aF n⟩;rw[h1]at t;refine lh rfl ?_;intro P n;refine dP.of dr ?_;exact cW ⟨C,(),⟨rfl,rfl,aE (by rw[t];rfl),rfl,rfl,rfl,rfl,rfl,rfl,rfl,rfl,rfl,rfl,trivial⟩,KK n,cZ.ext aF n⟩;obtain rfl:j=c.length:=cK;rw[jN]at aC aX⊢;obtain⟨B,ap⟩:∃B,B=ja d sets c:=⟨_,rfl⟩;rw[<-ap]at aC aX;have cd:=J.at_ (k4.fL aM n1);have F:sC num d sets go g c=if wU num g d sets c then vL g (go c B)else g:=by rw[ap];rfl
  refine dP.of dr ⟨λhf=>?_,λhf=>?_⟩
  ·rw[hf,cT rfl]at F;obtain⟨us,ce,cf,bA,cg⟩:=(hs.ext E7).cells;refine er [] 27 λw8 Y e8 aD ch=>cO (cN (e8.at_ cd) rfl) (od (n0:=w7.heap.size) Jh ch aD pY (cf.ext e8) (λu hu=>by obtain⟨_,_,_,rfl⟩:=bA u hu;rfl) cK λZ w9 bB ci=>?_);have bC:Ext w7 w9:=ci w7 e8 (dg _);refine er [.slice xa c.length xc] 27 λP cE n cr bD=>gR Jh (cZ.ext bB n) (bC.trans n).size bD cK λq3 bE cj ck _=>?_;have T:Ext w7 bE:=(bC.trans n).iI ck (cZ.ext bB n) (dg _);obtain⟨la,lc,rfl,cF,_⟩:=cj.len;have aZ:(f++[c]).length=f.length+1:=dt;obtain⟨bF,bG⟩:=LI (ls:=f++[c]) (c:=lc) (by rw[aZ];omega) λk hk=>by obtain h|h:=gu k f.length;obtain⟨x,c2,r1,r2,r3⟩:=cg k h;refine⟨x,c2,?_,?_,?_⟩;rw[uJ cL,r1,ml h];rw[ml h];exact r2.ext T;rw[ml h];grind;obtain rfl:k=f.length:=cK;refine⟨xa,xc,?_,?_,?_⟩;rw[uK cL,ce,lK];simp;simp only[List.getElem_concat_length];exact aV.ext (E7.trans T);simp only[List.getElem_concat_length];grind
   refine ez (Oa false 0 0 H6 (la,f.length+1,lc)) (eS λcG lb bH bI bJ=>dI bJ λaG bK aq=>?_);have aq:aG.heap[lb]? =some (.cells (zn false 0 0 H6 (la,f.length+1,lc)).toArray 125):=aq.trans (dE (λa=>some (Obj.cells a 125)) (sd (i:=false) (m:=0) (a:=0) (d:=H6) (s:=(la,f.length+1,lc))));have L:Ext w7 aG:=(T.trans bH).cS bK (dw T.size bI);have a0:Ext bE aG:=bH.cS bK bI;have a1:=E7.trans L;have ar:=L.at_ aJ;have bL:=cZ.ext aC L;have cH:(ds.zip all).drop (f++[c]).length=(ds.zip all).drop (f.length+1):=cK;have cl:go c B=se num ((ds.zip all).drop (f++[c]).length) (f++[c]) B:=cK;have bM:B.length=sets.length:=cK;have bN:∀v∈B,v+pw (ds.drop (f++[c]).length)<num.length:=λv hv=>by obtain⟨k,hk,rfl⟩:=List.getElem_of_mem hv;have h1:=LH d k c sets bg;rw[<-ap]at h1;have bO:k<sets.length:=cL;have h2:=aw _ (eB bO);rw[a8]at h2;rw[aZ];simp only[gD,eZ hk,eZ bO,kG]at h1;omega
   have a2:∀E,Ext aG E->Calls V.prog 150 #[.slice na num.length nc,.slice da ds.length dc,Fu ab ao all.length ac,Oa false 0 0 H6 (la,f.length+1,lc),.slice qa sets.length qc] E (fM λv G=>Ext E G/\Cd (go c B) (da,ds.length,dc) v G):=λE y=>by have h:=ih (f++[c]) la lc B qa qc E cK (hn.ext (a1.trans y)) (hd.ext (a1.trans y)) (ha.ext (a1.trans y)) (bF.ext (a0.trans y)) bG (by obtain⟨a',c',q1,Z,_⟩:=(eK.row (cZ.ext bL y));grind) cL bN;rw[<-cl,aZ,bM]at h;exact h
   refine dD dC (xV (VS ar) (xV (VS aq) ?_));refine .rel (Cd (go c B) (da,ds.length,dc)) Cd.st (λE y=>cX (a2 E y) λv aH ⟨au,av⟩=>⟨av,au⟩)<| .rel (Cd (vL g (go c B)) (da,ds.length,dc)) Cd.st (λE y v hv=>?_) ?_;obtain⟨j',n',b',d',s',rfl,hX⟩:=hv;exact ek (H2 _ _ _ _ _ _ _ _ _ _ _) λaH au=>⟨((X.ext (J.trans (L.trans (y.trans au)))).better (hX.ext au)),au⟩;intro E y u hu v hv;have hu:Cd (vL g (go c B)) (da,ds.length,dc) u E:=hu;obtain⟨i',m',a',d',s',rfl,hX⟩:=hu;repeat intro _
   have aL:=y.at_ ar;refine dI aL λaH bP av=>?_;have av:aH.heap[bb]? =some (.cells (zn i' m' a' d' s').toArray 125):=av.trans (dE (λa=>some (Obj.cells a 125)) (ee (zn bi bm ba bd bs).toArray (zn i' m' a' d' s') rfl));have K:dA (λx=>x=bb) w3 aH:=(k4.trans ((J.trans (L.trans y)).keep _) (λ_ _ h=>h) λ_ _ h=>h).trans bP (λ_ _ h=>h) λ_ _ h=>h;refine dP.of dr ?_;exact cW ⟨aj,(),by trivial,K,by rw[aU,F];exact⟨_,_,_,_,_,av,hX.keep bP (wV aL)⟩⟩
  rw[hf,cR Bool.false_ne_true]at F;exact dP.of dr (cW ⟨aj,(),by trivial,k4.trans (J.keep _) (λ_ _ h=>h) λ_ _ h=>h,by rw[aU,F];exact⟨_,_,_,_,_,aJ,X.ext J⟩⟩);obtain rfl:i=M.length:=cK;rw[jN]at hB;obtain⟨bi,bm,ba,bd,bs,al,X⟩:=hB;have I:=k4.fL a9 n2;refine dP.of dr (ew (VS al) (dI I λw5 k5 h5=>?_));have h5:w5.heap[rb]? =some (.cells (zn bi bm ba bd bs).toArray 125):=h5.trans (dE (λa=>some (Obj.cells a 125)) sd);exact⟨_,jr _ h5 (λj v hj=>by rw[dj];simpa using hj),_,rfl,E4.cS k5 (dw e1.size az),_,_,_,_,_,rfl,X.keep k5 (wV I)⟩
end
theorem H7{t:Td}:∀{a:Nat} {p:cM},p∈jx t m k a->p.Pairwise (·<·)/\∀x∈p,x<=p.getD (a-1) 0
 |0,p,h=>by
  obtain rfl:p=[]:=by grind [jx]
  simp
 |a+1,p,h=>by
  simp only[jx,lq]at h;have⟨q,b,h⟩:=h;have⟨l,_⟩:=tS b;have⟨n,c⟩:=H7 b;simp only[mG,kF,nA,fP]at h;obtain⟨j,⟨o,d⟩,rfl⟩:=h
  have e:∀x∈q,x<m+j:=λx f=>by
   have g:=c x f;have i:0<a:=by grind
   simp only[BB,decide_eq_true i,Bool.true_and,sM,Bool.or_eq_false_iff,decide_eq_false_iff_not]at d;omega
  grind
def BK(a:H.Ok){t:Td}(d:0<=t.times):(vK H t m).length<=216/\∀c∈vK H t m,c.Nodup/\c.length<=3/\∀x∈c,m<=x/\x<(2*H.days).toNat:=by have e:=a.days;have f:=a.tries;have g:=EX (T:=H.tries) (t:=t) cL d;have h:(qC H.tries t).tries.toNat<=3:=cL;refine⟨dw (List.length_filter_le _ _) (BC cL h),λc i=>?_⟩;have b:=(nA.1 i).1;have⟨j,k⟩:=tS b;refine⟨(H7 b).1.imp cL,cL,cK⟩
def NO(G:Gd):(hH G).length=2^G.doors.length:=by simp[hH]
theorem LJ:∀(n:Nat) (l:cM),l.Nodup->(∀d∈l,d<n)->pw l<2^n
 |0,l,_,h=>by
  cases l with
  |nil=>exact Nat.one_pos
  |cons d r=>exact absurd (h d fF) (Nat.not_lt_zero _)
 |n+1,l,b,h=>by
  have c:∀(l:cM) (x:Nat),pw (x::l)=2^x+pw l:=λ_ _=>rfl
  have a:pw l=pw (l.filter (·≠n))+if n∈l then 2^n else 0:=by
   clear h;induction l with
   |nil=>grind
   |cons x r f=>
    have g:=List.nodup_cons.1 b;rw[c,f g.2];by_cases e:x=n;grind;grind
  have i:=LJ n (l.filter (·≠n)) (b.filter _) cK;grind
def Fb{a:Nat}{w d:cI}{e:List cM}{F:dn}(h:fe a w x e)(k:dA F w d)(j:∀b,F b->b<a):fe a d x e:=by
 have⟨l,m,o,p⟩:=h;have c:∀{t:cQ} {f:dN} {u:cJ} {n:Nat} {g:dN},cZ a t f w u n g->cZ a t f d u n g:=λh=>h.keep k λb q r=>by have:=j b r;have:=(cZ.blk h q).1;omega
 exact⟨l,c m,o,λi s=>by have⟨u,v,y⟩:=p i s;exact⟨u,v,c y⟩⟩
def nY(G:Gd)(l:List Tq)(f:Nat)(a:cM):uD:=se (hH G) (a.zip (a.map λd:Nat=>vK G (rl (d:Nat) rj l) f)) [] (List.replicate (2*G.days).toNat 0)
section
variable{G:Gd}{da:Option Addr}{dc:Nat}{w:cI}
def Do(hG:em G=0)(hd:gX w da G.doors){l:List Tq}{la:dV}{lc:Nat}(hr:kq w la l)(W:l.length<=100000)(hs:∀q∈l,0<=q.shift/\q.shift<=1000)(f:Nat)(hf:f<=1000){ds:cM}{I:dV}{P:Nat}(X:fN w I ds)(Y:ds.Nodup)(Z:∀d∈ds,d<G.doors.length):
 Calls V.prog 100 #[gV G da dc,.slice la l.length lc,.int .i64 f,.slice I ds.length P] w (fM λv Q=>Ext w Q/\Cd (nY G l f ds) (I,ds.length,P) v Q):=by
 have ok:=eD hG;have A:=ok.many;have az:=ok.days;have aj:ds.length<=5:=dw (wQ _ _ Y Z) A;have⟨p,J⟩:=jQ (λd:Nat=>vK G (rl (d:Nat) rj l) f:Nat->List (List Nat));have ab:∀d,(p d).length<=216/\∀c∈p d,c.Nodup/\c.length<=3/\∀x∈c,f<=x/\x<(2*G.days).toNat:=λd=>by rw[J];exact BK ok (vH d l).1.1
 have hq:nY G l f ds=se (hH G) (ds.zip (ds.map p)) [] (List.replicate (2*G.days).toNat 0):=by rw[J];rfl
 rw[hq];refine go (V.fn Tryz.func100 cK) Tryz.ntmps100 ?_;refine eH λw1 gb e1 aA hg=>eS λR rb e2 ak ad=>?_;have E2:=e1.trans e2;have ae:=e2.at_ hg;refine fA ds.length (λi v=>[(1,.slice la l.length lc),(2,i64 f),(3,.slice I ds.length P),(4,di gb),(8,di rb),(9,v),(10,i64 i)]) (λi v Q=>Ext R Q/\∃K:dN,cZ R.heap.size 66 [fl] Q v i K/\K.length=i/\∀j (h:j<ds.length),j<i->∃x c,K[j]? =some (.slice x (p ds[j]).length c)/\nX Q x (p ds[j])/\(p ds[j]).length<=c) (fl) ⟨by trivial,Ext.refl _,[],cZ.nil _ _ _ _,rfl,cK⟩ ?_;rintro i v r hi ⟨e3,K,B,aB,af⟩;have E3:=E2.trans e3;have ag:=e3.at_ ae;have hF:∀b,cV v b->R.heap.size<=b/\b<r.heap.size:=λb hb=>B.blk hb;refine dm (dK ⟨λay=>?_,λaC=>?_⟩)
 ·have M:i<ds.length:=cK;have Ek:∀{g:cI},dA (cV v) r g->Ext R g:=λe=>e3.tG e cK;obtain⟨ob,oo,rfl,al⟩:=X i M;have⟨L,hL⟩:=jQ (p ds[i]);have am:=(ab ds[i]).1;rw[<-hL]at am;refine gZ 10 dC (im (cV v)) (λa b h=>h.keep _)<| .exact (gV G da dc) (λg e=>eI ((Ek e).at_ ae) gd)<| .exact (qI ob (oo+i)) (λg e=>eX i M gd)<| .exact (i64 (ds[i]:Nat)) (λg e=>cO ((E2.trans (Ek e)).cell al) gd) ?_;refine .rel (λu g=>fe r.heap.size g u L) (λu a b h e=>Fb h e cK) (λg e=>cX (EY (dc:=dc) ok (hr.ext (E2.trans (Ek e))) W hs ds[i] f hf) λu S ⟨F,A⟩=>⟨by rw[hL,J];exact A.low e.size,F⟩) ?_;refine .rel (λu g=>∃m y,u=fa m 1 1/\r.heap.size<=m/\g.heap[m]? =some (.cells [y].toArray 66)/\fe r.heap.size g y L) (λu a b ⟨m,y,E,t,T,q4⟩ e=>⟨m,y,E,t,e.fL T cK,Fb q4 e cK⟩) (λg e y U=>?_) ?_
  ·have U:fe r.heap.size g y L:=U;have an:=U;obtain⟨a',c',rfl,_⟩:=an.row;repeat intro _
   exact er [.slice a' L.length c'] 66 λS m F N O=>⟨⟨m,_,rfl,iD e.size,O,U.ext F⟩,F⟩
  refine .spec (λu g=>∃y,cZ R.heap.size 66 [fl] g u (i+1) (K++[y])/\fe r.heap.size g y L) (λu a b ⟨y,E,t⟩ e=>⟨y,E.ext e,t.ext e⟩) (λg e y U=>?_) ?_
  ·obtain⟨m,y,rfl,t,T,q4⟩:∃m u,y=fa m 1 1/\r.heap.size<=m/\g.heap[m]? =some (.cells [u].toArray 66)/\fe r.heap.size g u L:=U;have ao:=q4;obtain⟨a',c',rfl,_⟩:=ao.row;repeat intro _
   exact gR WQ (B.ext e) (dw e3.size e.size) T cL λv' S g1 g2 _=>⟨⟨_,g1,Fb q4 g2 cK⟩,g2⟩
  refine .late rfl (λu g=>∃y,cZ R.heap.size 66 [fl] g u (i+1) (K++[y])/\fe r.heap.size g y L) (λu a b ⟨y,E,t⟩ e=>⟨y,E.ext e,t.ext e⟩) (λg e=>?_) ?_
  ·intro v1 h1;repeat intro _
   exact⟨h1,Ext.refl _⟩
  rintro g n v' ⟨y,ap,aq⟩;repeat intro _
  refine cW ⟨M,v',by trivial,Ek n,K++[y],ap,cK,λj hj aD=>?_⟩;obtain h|h:=gu j i;have⟨x,c,E,t,T⟩:=af j hj h;exact⟨x,c,cK,t.keep n (TP B),T⟩;obtain rfl:j=i:=cL;rw[<-hL];obtain⟨x,c,rfl,E,t⟩:=aq.TQ;exact cK
 ·obtain rfl:i=ds.length:=cK;obtain⟨aa,ac,rfl,aE,_⟩:=B.len;have⟨o,ar⟩:=jQ ((2*G.days).toNat);have hD:2*G.days=(o:Nat):=cL;have ah:(ds.map p).length=ds.length:=nR _;have au:H5 r aa (ds.map p):=λk hk=>by have ai:k<ds.length:=cL;have⟨x,c,E,t,T⟩:=af k ai ai;obtain⟨h0,⟨h1,h2⟩|⟨b,c',cs,h1,h2,h3,h4,A,h6,h7,h8⟩⟩:=B;omega;injection h2 with r1 r2 r3;subst r1 r3;refine⟨b,0,x,c,rfl,cN h3 ?_,?_,?_⟩;grind;grind;grind
  have H:=e3.at_ ad;have aF:=Xf A;have av:=NO G;rw[<-ar];refine dD dC<|po ag<| .rel (λu g=>HT r.heap.size g u (hH G)) (λu a b h e=>cZ.ext h e) (λg n=>cX (Fa (dc:=dc) hG (hd.ext (E3.trans n))) λu S ⟨F,A⟩=>⟨cZ.low A n.size,F⟩)<| .exact (Oa false 0 0 H6 H6) (λg n=>ez _ gd)<|dl (cN ag rfl)<| .exact (i64 (o:Nat)) (λg n=>oT ⟨cK,Ext.refl _⟩) ?_;refine .rel (λu g=>∃m,u=fa m o o/\g.heap[m]? =some (.cells (gm (List.replicate o 0)).toArray 3)) (λu a b ⟨m,E,t⟩ e=>⟨m,E,e.at_ t⟩) (λg n=>Ev n8 (dg _) cL λS m F N O=>⟨⟨m,rfl,by rw[O,AN];simp[gm]⟩,F⟩) ?_;refine .rel (Cd (se (hH G) (ds.zip (ds.map p)) [] (List.replicate o 0)) (I,ds.length,P)) Cd.st (λg n=>?_) ?_
  ·intro u hu v B;repeat intro _
   have B:HT r.heap.size g v (hH G):=B;obtain⟨m,rfl,N⟩:∃m,u=fa m o o/\g.heap[m]? =some (.cells (gm (List.replicate o 0)).toArray 3):=hu;obtain⟨na,nc,rfl,aw,_⟩:=B.row;have C:=Q7 (num:=hH G) (na:=na) (da:=I) (aa:=aa) (nc:=nc) (dc:=P) (ac:=ac) (D:=o) (ds:=ds) (all:=ds.map p) aj ah cL cL
    (λcs ax=>by obtain⟨d,aG,rfl⟩:=kF.1 ax;grind)
    (λz hz=>by obtain⟨s,_,rfl⟩:=kF.1 hz;grind [lR,sH,fh])
    cK ds.length [] none 0 (List.replicate o 0) (pt m 0) o g dt aw (X.ext (E3.trans n)) (au.ext n) (λk hk=>by simp at hk) (gi _) (λk hk=>⟨m,0,rfl,cN N (by simp only[List.length_replicate]at hk;simp[gm,hk])⟩) dt
    (λv B=>by rw[(List.mem_replicate.1 B).2,av];have:=LJ G.doors.length ds Y Z;grind)
   rw[List.length_replicate,ah]at C;exact cX C cK
  intro g n u hu;have hu:Cd (se (hH G) (ds.zip (ds.map p)) [] (List.replicate o 0)) (I,ds.length,P) u g:=hu;obtain⟨i',m',a',d',s',rfl,hX⟩:=hu;repeat intro _
  refine dI (n.at_ H) λS k5 A=>?_;have A:S.heap[rb]? =some (.cells (zn i' m' a' d' s').toArray 125):=A.trans (dE (λa=>some (Obj.cells a 125)) sd);exact⟨_,jr _ A cK,_,rfl,(E3.trans n).cS k5 (dw e1.size ak),_,_,_,_,_,rfl,hX.keep k5 (wV (n.at_ H))⟩
end
def sJ(a:cM)(b:List cM)(s:Nat):cM:=((a.zip b).filter λp=>decide (s∈p.2)).map Prod.fst
def TR{c:List cM}{q:dV}(t:fN w a l)(u:wA w q c)(Z:c.length=l.length)(M:l.length<=1000)(N:∀r∈c,r.length<=1000)(s:Nat):
 Calls V.prog 103 #[Oa D I J (a,l.length,m) (q,c.length,k),.int .i64 s] w (fM λv g=>Ext w g/\eK w.heap.size g v (sJ l c s)):=by
 refine go (V.fn Tryz.func103 cK) Tryz.ntmps103 ?_;refine eH λx G H O y=>?_;have y:x.heap[G]? =some (.cells (zn D I J (a,l.length,m) (q,c.length,k)).toArray 125):=y;refine fA l.length (λb v=>[(1,i64 s),(2,di G),(5,v),(6,i64 b)]) (λb v g=>Ext x g/\eK x.heap.size g v (sJ (l.take b) (c.take b) s)) (fl) ⟨by trivial,Ext.refl _,cZ.nil _ _ _ _⟩ ?_;rintro b v P hk ⟨i,n⟩;have o:=H.trans i;have e:=i.at_ y;refine cO (cN e rfl) (dm (dK ⟨λQ=>?_,λR=>?_⟩));have d:b<l.length:=by grind
 have f:b<c.length:=cL;obtain⟨b1,o1,S,T,rfl,z,A,K⟩:=u b f;obtain⟨b2,o2,rfl,B⟩:=t b d;have j:sJ (l.take (b+1)) (c.take (b+1)) s=sJ (l.take b) (c.take b) s++if s∈c[b]then [l[b]]else []:=by rw[iw d,iw f];unfold sJ;rw[List.zip_append cK,List.filter_append,oC];by_cases h:s∈c[b]<;>simp[h]
 have U:(sJ (l.take b) (c.take b) s).length<=1000:=by unfold sJ;grind
 have L:=Di (qo c[b]) s S T P ((A.ext o).ints) (by grind [List.getElem_mem,qo]);rw[show(qo c[b]).length=c[b].length by simp[qo]]at L;refine cO (cN e rfl) (eX b f (cO (o.cell z) (dH L (wo ⟨λh=>?_,λh=>?_⟩))));have C:s∈c[b]:=by have E:AJ (s:Int) (qo c[b])=true:=h;rw[HQ]at E;grind
 rw[cT C]at j;refine cO (cN e rfl) (eX b d (cO (o.cell B) (er [i64 l[b]] 3 λw4 nb p W F=>gR n8 (cZ.ext n p) (i.trans p).size F cL λX w5 g1 Y g3=>cW ⟨d,X,by trivial,(i.trans p).iI Y (cZ.ext n p) (dg _),?_⟩)));grind [List.length_append,eK,gm];have C:¬s∈c[b]:=by have E:AJ (s:Int) (qo c[b])=false:=h;rw[HQ]at E;grind
 rw[cR C,List.append_nil]at j;exact cW ⟨d,v,by trivial,i,cK⟩;obtain rfl:b=l.length:=by grind
 rw[jN,uM cL]at n;exact⟨_,rfl,o,eK.low n H.size⟩
def zo:List (Nat×List cM)->List cM->cM->cM
 |(d,_)::a,c::t,s=>zo a t (ja d s c)
 |_,_,s=>s
theorem Dp{f:eY}{sets:cM}{e:cM->cM->uD}{r:Int×Int×List cM}:∀{cs:List cM} {o:uD},cs.foldl (sC f d sets e) o=some r->o=some r\/∃c∈cs,e c (ja d sets c)=some r
 |[],o,h=>.inl h
 |c::cs,o,h=>by
  obtain h|⟨g,i,j⟩:=Dp (cs:=cs) h;unfold sC at h;split at h;have k:o=some r\/e c (ja d sets c)=some r:=by
   cases o with
   |none=>exact .inr h
   |some a=>
    generalize e c (ja d sets c)=b at h;cases b with
    |none=>exact .inl h
    |some b=>
     grind [vL]
  grind;grind;grind
theorem H8{e:eY}:∀{b:List (Nat×List cM)} {a:List cM} {sets:cM} {r:Int×Int×List cM},se e b a sets=some r->∃t:List cM,r.2.2=a++t/\t.length=b.length/\(∀i (h:i<b.length) (o:i<t.length),t[i]∈b[i].2)/\j6 e (zo b t sets) 0 0=some (r.1,r.2.1)
 |[],a,sets,r,h=>by rw[se]at h;obtain⟨p,f,rfl⟩:=iC.1 h;exact⟨[],dt,rfl,λi h=>absurd h (Nat.not_lt_zero _),f⟩
 |(d,q)::b,a,sets,r,h=>by
  rw[se]at h;obtain h|⟨c,j,h⟩:=Dp h;cases h;have⟨t,f,k,l,m⟩:=H8 h;refine⟨c::t,by rw[f];simp,by simp[k],λi n g=>?_,m⟩;cases i with
  |zero=>exact j
  |succ i=>exact l i (eV n) (eV g)
theorem xX{b:eY}:∀{l:cM} {m a:Int} {p:Int×Int},j6 b l m a=some p->∀v∈l,0<=jz b v
 |[],m,a,p,h=>cK
 |x::r,m,a,p,h=>λv c=>by simp only[j6]at h;split at h;grind;rename_i d;obtain rfl|c:=eW.1 c;omega;exact xX h v c
theorem wW(d:Nat):∀(c s:cM),c.Nodup->m<s.length->(ja d s c).getD m 0=s.getD m 0+if m∈c then 2^d else 0
 |[],s,_,_=>by simp[ja]
 |x::r,s,h,b=>by have a:=List.nodup_cons.1 h;show(ja d (s.set x _) r).getD m 0=_;by_cases e:x=m;subst e;rw[tU d r _ a.1,cT fF];grind;rw[wW d r _ a.2 cK];grind
theorem BL{y:Nat}:∀(a:List (Nat×List cM)) (t:List cM) (s:cM),t.length=a.length->(∀c∈t,c.Nodup)->y<s.length->(zo a t s).length=s.length/\(zo a t s).getD y 0=s.getD y 0+pw (sJ (a.map Prod.fst) t y)
 |[],[],s,_,_,_=>⟨rfl,by simp[zo,sJ,pw]⟩
 |(d,_)::a,c::t,s,k,e,f=>by
  have g:=pq d c s;have b:y<(ja d s c).iN:=cK;have⟨l,i⟩:=BL a t (ja d s c) cK cK b;refine⟨by grind [zo],?_⟩;rw[zo,i,wW d c s (e c fF) f];have j:sJ (d::a.map Prod.fst) (c::t) y=(if y∈c then [d]else [])++sJ (a.map Prod.fst) t y:=by grind [List.zip_cons_cons,sJ]
  rw[kY];show _=s.getD y 0+pw (sJ (d::a.map Prod.fst) (c::t) y);rw[j];by_cases h:y∈c;rw[cT h,cT h];have:pw ([d]++sJ (a.map Prod.fst) t y)=2^d+pw (sJ (a.map Prod.fst) t y):=rfl;omega;grind
def Q8:((List.range 32).all λs=>(List.range 5).all λd=>s.testBit d||(ot s d==s+2^d&&(decide (s+2^d<32)&&(List.range 5).all λe=>e==d||(s+2^d).testBit e==s.testBit e)))=true:=by decide+kernel
def LK(s:Nat)(a:s<32)(d:Nat)(b:d<5)(h:s.testBit d=false):ot s d=s+2^d/\s+2^d<32/\∀e:Nat,e<5->e≠d->(s+2^d).testBit e=s.testBit e:=by have c:=nz.1 (nz.1 Q8 s (fP.2 a)) d (fP.2 b);grind
theorem Q9:∀(l:cM) (s:Nat),s<32->l.Nodup->(∀d∈l,d<5/\s.testBit d=false)->setFrom s l=s+pw l
 |[],s,_,_,_=>rfl
 |d::r,s,b,c,h=>by have⟨e,f⟩:=h d fF;have⟨g,i,j⟩:=LK s b d e f;have a:=List.nodup_cons.1 c;show setFrom (ot s d) r=_;rw[g,Q9 r _ i a.2 cK];grind [pw]
def zH(a:l.Nodup)(h:∀d∈l,d<5):eo l=pw l:=by have:=Q9 l 0 cK a cK;rw[dj]at this;exact this
theorem LL:∀(a:cM) (b:List cM),((a.zip b).map Prod.fst).Sublist a
 |[],_=>dt
 |d::r,[]=>dt
 |d::r,c::t=>eV (LL r t)
def zI{ds:cM}{sh:List cM}{s:Nat}:(sJ ds sh s).Sublist ds:=by unfold sJ;exact((List.filter_sublist).map Prod.fst).trans (LL _ _)
def BM{G:Gd}(A:G.Ok){l:List Tq}{f:Nat}{a:cM}(E:a.Nodup)(n:∀d∈a,d<G.doors.length){r:Int×Int×List cM}(h:nY G l f a=some r):r.2.2.length=a.length/\(∀c∈r.2.2,c.Nodup/\c.length<=3/\∀x∈c,f<=x/\x<(2*G.days).toNat)/\∀s,s<(2*G.days).toNat->∃D,fh G (eo (sJ a r.2.2 s))=some D:=by
 have N:=A.many;unfold nY at h;have⟨t,B,C,F,H⟩:=H8 h;rw[oD]at B;have o:t.length=a.length:=by rw[C];simp
 have g:∀c∈t,c.Nodup/\c.length<=3/\∀x∈c,f<=x/\x<(2*G.days).toNat:=λc p=>by obtain⟨i,I,rfl⟩:=List.getElem_of_mem p;have:=F i cL I;simp only[List.getElem_zip,List.getElem_map]at this;exact(BK A (vH _ l).1.1).2 _ this
 rw[B];refine⟨o,g,λs q=>?_⟩;have⟨J,u⟩:=BL (y:=s) (a.zip (a.map λd:Nat=>vK G (rl (d:Nat) rj l) f)) t (List.replicate (2*G.days).toNat 0) C (λc p=>(g c p).1) (eV q);have K:(a.zip (a.map λd:Nat=>vK G (rl (d:Nat) rj l) f)).map Prod.fst=a:=List.map_fst_zip dt;rw[K]at u;have j:(sJ a t s).Nodup:=zI.nodup E;have k:∀d∈sJ a t s,d<G.doors.length:=λd v=>n d (zI.subset v);have w:=LJ G.doors.length _ j k;have z:(List.replicate (2*G.days).toNat 0).getD s 0=0:=by simp[gD,List.getElem?_replicate,q]
 rw[z,dj]at u;have e:s<(zo (a.zip (a.map λd:Nat=>vK G (rl (d:Nat) rj l) f)) t (List.replicate (2*G.days).toNat 0)).length:=by rw[J];simpa using q
 have b:=xX H _ (eB e);have L:(zo (a.zip (a.map λd:Nat=>vK G (rl (d:Nat) rj l) f)) t (List.replicate (2*G.days).toNat 0))[s]=pw (sJ a t s):=by rw[<-u,gD,eZ e];rfl
 rw[L]at b;have m:jz (hH G) (pw (sJ a t s))=sH G (pw (sJ a t s)):=by unfold jz hH;rw[gD,sN,List.getElem?_range w];rfl
 rw[m]at b;rw[zH j λd v=>iD (k d v)];unfold sH at b;cases M:fh G (pw (sJ a t s))with
 |none=>rw[M]at b;exact absurd b kA
 |some D=>exact⟨D,rfl⟩
def J1{d m n:Nat}{w e:cI}{f:List cM}(h:fe d w x f)(k:dA (cV y) w e)(g:cZ m 29 M w y n Y):fe d e x f:=by have⟨o,j,p,q⟩:=h;exact⟨o,j.keep k (λb c a=>gU g j cK b a c),p,λi r=>by have⟨s,t,l⟩:=q i r;exact⟨s,t,cZ.keep l k λb c a=>gU g l cK b a c⟩⟩
def NP(G:Gd)(a:cM)(b:List cM)(f j:Nat):List (Nat×cM):=((fh G (eo (sJ a b (f+j)))).getD []).map λl=>(f+j,l)
def mH(G:Gd)(f:Nat)(a:cM)(b:List cM)(n:Nat):List (Nat×cM):=(List.range n).flatMap (NP G a b f)
def Yw(G:Gd)(l:List Tq)(f a:Nat)(v:cJ)(w:cI):Prop:=match nY G l f (me G l [])with
 |none=>v=.tuple #[.slice none 0 0,.int .i64 11]
 |some r=>∃u,v=.tuple #[u,.int .i64 0]/\mh a w u (mH G f (me G l []) r.2.2 ((2*G.days).toNat-f))
def sf(G:Gd)(l:List Tq)(a:eY):(me G l a).Pairwise (·<·)/\∀d∈me G l a,d<G.doors.length:=⟨List.Pairwise.filter _ List.pairwise_lt_range,λd b=>by have:=(nA.1 b).1;grind⟩
def Ra{G:Gd}{ds:cM}{sh:List cM}{f j:Nat}:(NP G ds sh f j).length<=5:=by
 unfold NP;rw[nR];cases a:fh G (eo (sJ ds sh (f+j)))with
 |none=>grind
 |some D=>exact lR a
section
variable{G:Gd}{da:Option Addr}{dc:Nat}{w:cI}
def NQ(hG:em G=0)(hd:gX w da G.doors){l:List Tq}{la:dV}{lc:Nat}(hr:kq w la l)(i:l.length<=100000)(ai:l.length<=lc)(hs:∀q∈l,0<=q.shift/\q.shift<=1000)(f:Nat)(hE:dG G l (f:Nat) 0=0):
 Calls V.prog 32 #[gV G da dc,.slice la l.length lc,.int .i64 f] w (fM λv m=>Ext w m/\Yw G l f w.heap.size v m):=by
 have ok:=eD hG;have h5:=ok.many;have aA:=ok.days;have⟨J,aj⟩:=jQ ((2*G.days).toNat);have hD:2*G.days=(J:Nat):=cL;have aB:f<J:=by have h:=hE;unfold dG at h;rw[cT cL]at h;split at h;rename_i W;unfold qT at W;split at W;rename_i N;simp only[l5,eU,j9]at N;omega;grind;grind
 have⟨O,A⟩:=sf G l [];have⟨ds,B⟩:=jQ (me G l []);have P:ds.Nodup:=by rw[B];exact O.imp cL
 have ak:Yw G l f w.heap.size=λv m=>match nY G l f ds with
  |none=>v=.tuple #[fl,i64 11]
  |some r=>∃u,v=.tuple #[u,i64 0]/\mh w.heap.size m u (mH G f ds r.2.2 (J-f)):=by rw[B,aj];rfl
 rw[ak];rw[<-B]at A O;have aC:ds.length<=5:=dw (wQ _ _ P A) h5;refine Ry (V.fn Tryz.func32 cK) Tryz.ntmps32 (dP.seq dr ?_);refine eH λw1 gb e1 aD hg=>?_;have K:=tR (dc:=dc) (w:=w1) (hd.ext e1) cL (hr.ext e1) i ai (f:Nat);rw[hE]at K;refine dP.jj (l0:=[(1,.slice la l.length lc),(2,i64 f),(3,di gb)]) (by trivial)<|dP.gN (dP.of dr (eI hg (ek K λw2 e2=>gQ (lh cK ?_))));have E2:=e1.trans e2;have Q:=e2.at_ hg;refine dP.jj (l0:=[(1,.slice la l.length lc),(2,i64 f),(3,di gb)]) (by trivial)<|dP.seq dr (dD dC ?_);refine po Q<|po Q ?_;refine .rel (λu d=>eK w2.heap.size d u ds) (λu a b h e=>cZ.ext h e) (λX C=>cX (Dl (da:=da) (dc:=dc) cL (hr.ext (E2.trans C)) i hs (but:=[]) (ba:=none) (bc:=0) (λk hk=>by simp at hk) dt) λu d ⟨Y,h4⟩=>⟨by rw[B];exact h4.low C.size,Y⟩) ?_;refine .rel (λu d=>∃E Z,nV d E ds/\Cd (nY G l f ds) (E,ds.length,Z) u d) (λu a b ⟨x,y,q1,q2⟩ e=>⟨x,y,q1.ext e,Cd.st _ _ _ q2 e⟩) (λX C u o=>?_) ?_;have o:eK w2.heap.size X u ds:=o;have al:=o;obtain⟨E,Z,rfl,F,_⟩:=al.TQ;exact cX (Do (dc:=dc) (lc:=lc) hG (hd.ext (E2.trans C)) (hr.ext (E2.trans C)) i hs f cL F.row P A) λv d ⟨Y,h4⟩=>⟨⟨E,Z,F.ext Y,h4⟩,Y⟩;refine .rel (λu d=>∃L,u=di L/\w2.heap.size<=L/\d.heap[L]? =some (.cells (pK 125).toArray 125)) (λu a b ⟨L,q1,q2,q3⟩ e=>⟨L,q1,q2,e.at_ q3⟩) (λX C=>eS λd L Y aa N=>⟨⟨L,rfl,dw C.size aa,N⟩,Y⟩) ?_;rintro X C _ ⟨sb,rfl,am,N⟩ u o;have o:∃E Z,nV X E ds/\Cd (nY G l f ds) (E,ds.length,Z) u X:=o;obtain⟨E,Z,F,i',m',a',d',s',rfl,hX⟩:=o;repeat intro _
 refine dI N λd k4 t=>?_;have t:d.heap[sb]? =some (.cells (zn i' m' a' d' s').toArray 125):=t.trans (dE (λa=>some (Obj.cells a 125)) sd);have ab:Ext w2 d:=C.cS k4 am;have E4:=E2.trans ab;have an:=ab.at_ Q;have H:=hX.keep k4 (wV N);have ac:nV d E ds:=F.keep k4 (wV N);refine dP.jj (l0:=[(2,i64 f),(3,di gb),(9,di sb)]) (by trivial) ?_;cases hq:nY G l f ds with
 |none=>
  rw[hq]at H;obtain⟨rfl,_⟩:=H;exact dP.gN (dP.of dr (cO (cN t rfl) (eC (jX rfl ⟨_,rfl,E4,rfl⟩))))
 |some r=>
  rw[hq]at H;have⟨sa,sl,sc⟩:=s';obtain⟨rfl,rfl,rfl,rfl,R,hL,aw⟩:=H;have R:sl=r.2.2.length:=R;subst R;have⟨q1,q2,q3⟩:=BM ok P A hq;refine dP.gN (dP.of dr (cO (cN t rfl) (eC (lh rfl ?_))));refine dP.seq dr (dP.gN (dP.seq dr ?_));refine nu (J-f) (λj v=>[(3,di gb),(9,di sb),(10,v),(11,i64 ((f+j:Nat):Int))]) (λj v m=>Ext d m/\mh d.heap.size m v (mH G f ds r.2.2 j)) (fl) ⟨by trivial,Ext.refl _,mh.nil _ _⟩ ?_;rintro j v M hj ⟨S,hv⟩;have E5:=E4.trans S;have ad:=S.at_ an;have ao:=S.at_ t;have aE:(mH G f ds r.2.2 j).length<=5*j:=by unfold mH;have:=mc (λx=>Ra (G:=G) (ds:=ds) (sh:=r.2.2) (f:=f) (j:=x)) (List.range j);grind
  refine dP.gN (dP.of dr (cO (cN ad rfl) (oT (dK ⟨λaF=>?_,λaG=>?_⟩))))
  ·have ap:j<J-f:=cK;have⟨D,ae⟩:=q3 (f+j) cL;have af:NP G ds r.2.2 f j=D.map λl=>(f+j,l):=by grind [NP]
   have aH:=lR ae;refine dP.gN (dP.block (dP.seq dr (dD dC ?_)));have ag:=zI (ds:=ds) (sh:=r.2.2) (s:=f+j);have aq:∀c∈r.2.2,c.length<=1000:=cK;refine po ad<|xV (VS ao)<| .rel (λu g=>eK M.heap.size g u (sJ ds r.2.2 (f+j))) (λu a b h e=>cZ.ext h e) (λg z=>cX (TR (ac.row.ext (S.trans z)) (hL.row.ext (S.trans z)) q1 cL aq (f+j)) λu w7 ⟨T,h7⟩=>⟨cZ.low h7 z.size,T⟩)<| .rel (λu g=>∃x,u=.tuple #[x,.bool true]/\fe M.heap.size g x D) (λu a b ⟨x,h1,W⟩ e=>⟨x,h1,W.ext e⟩) (λg z u o=>?_) ?_;have o:eK M.heap.size g u (sJ ds r.2.2 (f+j)):=o;obtain⟨a7,c7,rfl,h7,ar⟩:=o.row;exact cX (BH (dc:=dc) hG (hd.ext (E5.trans z)) h7 (O.sublist ag) cK ar) λv w7 ⟨T,x,h8,h9⟩=>⟨⟨x,cK,(h9 D ae).low z.size⟩,T⟩;refine .rel (λu g=>∃x,u=.tuple #[x,.bool true]/\fe M.heap.size g x D) (λu a b ⟨x,h1,W⟩ e=>⟨x,h1,W.ext e⟩) Xx ?_;refine .rel (λu g=>fe M.heap.size g u D) (λu a b h e=>h.ext e) (by rintro _ _ _ ⟨_,rfl,h⟩;exact⟨h,Ext.refl _⟩) ?_;refine .rel (QZ true) QZ.st (by rintro _ _ _ ⟨_,rfl,_⟩;exact gd) ?_;refine .rel (λu g=>fe M.heap.size g u D) (λu a b h e=>h.ext e) (by(repeat intro _);exact⟨cK,Ext.refl _⟩) ?_;refine .rel (QZ true) QZ.st (by(repeat intro _);exact⟨cK,Ext.refl _⟩) ?_;rintro g z _ rfl x hx;have hx:fe M.heap.size g x D:=hx;repeat intro _
   obtain⟨xa,xc,rfl,aI,aJ⟩:=hx.row;have aK:=z;have aL:=hv.ext z;refine dP.seq dr<|nu D.length (λk v=>[(3,di gb),(9,di sb),(10,v),(11,i64 ((f+j:Nat):Int)),(12,.slice xa D.length xc),(14,i64 k)]) (λk v m=>Ext d m/\fe M.heap.size m (.slice xa D.length xc) D/\mh d.heap.size m v (mH G f ds r.2.2 j++(D.take k).map λl=>(f+j,l))) v ⟨by trivial,S.trans z,hx,cK⟩ ?_;rintro k v7 w7 hk ⟨T,ah,U⟩;refine dP.gN (dP.of dr (dm (dK ⟨λax=>?_,λay=>?_⟩)));have I:k<D.length:=cK;have⟨b8,c8,a9,c9,e,aM,au,aN,az⟩:=ah.at I;cases e;have aO:(mH G f ds r.2.2 j++(D.take k).map λl=>(f+j,l)).length<=1000:=cK;have aP:mH G f ds r.2.2 j++(D.take (k+1)).map (λl=>(f+j,l))=(mH G f ds r.2.2 j++(D.take k).map λl=>(f+j,l))++[(f+j,D[k])]:=by rw[iw I,oC,<-List.append_assoc];rfl
   refine dP.gN (dP.block (dP.of dr (eX k I (cO (by rw[dj];omega) (ez (.agg #[i64 ((f+j:Nat):Int),.slice a9 D[k].length c9]) (er [i64 ((f+j:Nat):Int),.slice a9 D[k].length c9] 29 λw8 L e8 aa av=>?_))))));refine Ln (p:=(f+j,D[k])) (U.ext e8) (dw T.size e8.size) (cZ.ext (eK.low au S.size) e8) av cL λv' w9 g1 g2 g3 g4=>?_;have⟨aQ,_,hP,_⟩:=U.ext e8;exact dP.of dr<|cW ⟨I,v',by trivial,g2 d (T.trans e8) (dg _),J1 (ah.ext e8) g3 hP,cK⟩;obtain rfl:k=D.length:=cK;rw[jN]at U;refine dP.of dr ?_;have aR:mH G f ds r.2.2 (j+1)=mH G f ds r.2.2 j++D.map λl=>(f+j,l):=by unfold mH;rw[mL,List.flatMap_append,<-af];simp
   exact cW ⟨ap,v7,⟨rfl,rfl,rfl,dE (λn=>some (Value.int .i64 n)) (show((f+j:Nat):Int)+1=((f+(j+1):Nat):Int) by omega),trivial⟩,T,cK⟩
  obtain rfl:j=J-f:=cK;exact dP.of dr ⟨_,rfl,E5,v,rfl,hv.low E4.size⟩
end
end Go.Proofs.W
namespace Go.Proofs.W
def Dq(d:Nat)(sets:cM)(a:cM->cM->uD)(o:uD)(c:cM):uD:=vL o (a c (ja d sets c))
def sK(a:eY):List (Nat×List cM)->List cM->cM->uD
 |[],e,sets=>(j6 a sets 0 0).map λp=>(p.1,p.2,e)
 |(d,f)::b,e,sets=>f.foldl (Dq d sets λc g=>sK a b (e++[c]) g) none
theorem BN{sets:cM}{e:cM->cM->uD}{r:Int×Int×List cM}:∀{cs:List cM} {o:uD},cs.foldl (Dq d sets e) o=some r->o=some r\/∃c∈cs,e c (ja d sets c)=some r
 |[],o,h=>.inl h
 |c::cs,o,h=>by
  obtain h|⟨f,g,i⟩:=BN (cs:=cs) h;unfold Dq at h;have j:o=some r\/e c (ja d sets c)=some r:=by
   cases o with
   |none=>exact .inr h
   |some a=>
    generalize e c (ja d sets c)=b at h;cases b with
    |none=>exact .inl h
    |some b=>
     grind [vL]
  grind;grind
theorem Ds{e:eY}:∀{b:List (Nat×List cM)} {a:List cM} {sets:cM} {r:Int×Int×List cM},sK e b a sets=some r->∃t:List cM,t.length=b.length/\(∀i (h:i<b.length) (o:i<t.length),t[i]∈b[i].2)/\j6 e (zo b t sets) 0 0=some (r.1,r.2.1)
 |[],a,sets,r,h=>by rw[sK]at h;obtain⟨p,g,rfl⟩:=iC.1 h;exact⟨[],rfl,λi h=>absurd h (Nat.not_lt_zero _),g⟩
 |(d,q)::b,a,sets,r,h=>by
  rw[sK]at h;obtain h|⟨c,j,h⟩:=BN h;cases h;have⟨t,k,l,m⟩:=Ds h;refine⟨c::t,by simp[k],λi n f=>?_,m⟩;cases i with
  |zero=>exact j
  |succ i=>exact l i (eV n) (eV f)
theorem Dt{b:eY}:∀{l:cM} {m a:Int} {p:Int×Int},j6 b l m a=some p->m<=p.1/\∀v∈l,jz b v<=p.1
 |[],m,a,p,h=>by
  cases h
  grind
 |x::r,m,a,p,h=>by simp only[j6]at h;split at h;grind;have⟨c,d⟩:=Dt h;grind
theorem BO{a:eY}{o:uD}:∀(c s:cM),c.Nodup->wU a o d s c=false->∃x∈c,UP a o ((ja d s c).getD x 0)=false
 |[],s,_,h=>by cases h
 |x::r,s,e,h=>by have b:=List.nodup_cons.1 e;simp only[wU,Bool.and_eq_false_iff]at h;obtain h|h:=h;refine⟨x,fF,?_⟩;show UP a o ((ja d (ja d s [x]) r).getD x 0)=false;grind [tU];have⟨y,f,h⟩:=BO r _ b.2 h;exact⟨y,ii _ f,h⟩
structure Sets(G:Gd)(rest:List (Nat×List (List Nat)))(A:Nat->List Nat)(sets:List Nat):Prop where
 val:∀y,y<sets.length->sets.getD y 0=pw (A y)
 nodup:∀y,(A y).Nodup
 door:∀y,∀d∈A y,d<G.doors.length/\d∉rest.map Prod.fst
structure Rest(G:Gd)(n:Nat)(rest:List (Nat×List (List Nat))):Prop where
 nodup:(rest.map Prod.fst).Nodup
 door:∀p∈rest,p.1<G.doors.length
 list:∀p∈rest,∀c∈p.2,c.Nodup/\∀x∈c,x<n
def Rest.tail{c:List cM}{a:List (Nat×List cM)}(h:Rest H m ((d,c)::a)):Rest H m a:=⟨(List.nodup_cons.1 h.nodup).2,λp b=>h.door p (ii _ b),λp b=>h.list p (ii _ b)⟩
theorem Sets.add{j:List cM}{f:List (Nat×List cM)}{A:Nat->cM}{sets c:cM}(h:Sets H ((d,j)::f) A sets)(k:Rest H sets.length ((d,j)::f))(n:c∈j):Sets H f (λy=>A y++if y∈c then [d]else []) (ja d sets c):=by have⟨l,o⟩:=k.list _ fF c n;refine⟨λy m=>?_,λy=>?_,λy e g=>?_⟩;rw[pq]at m;rw[wW d c sets l m,h.val y m];by_cases i:y∈c;rw[cT i,cT i];unfold pw;grind;grind;by_cases i:y∈c;rw[cT i];refine List.nodup_append.2 ⟨h.nodup y,dt,λa p b q e=>?_⟩;rw[iv.1 q]at e;subst e;exact(h.door y a p).2 dt;rw[cR i,List.append_nil];exact h.nodup y;obtain g|g:=jy.1 g;have⟨r,s⟩:=h.door y e g;grind;split at g;rw[iv.1 g];exact⟨k.door _ fF,(List.nodup_cons.1 k.nodup).1⟩;grind
def J2(b:H.Ok)(a:l.Nodup)(c:∀d∈l,d<H.doors.length):jz (hH H) (pw l)=nW H (eo l):=by have f:=b.many;have e:=LJ H.doors.iN l a c;unfold jz hH;rw[gD,sN,List.getElem?_range e,zH a cK];grind [sH,pw,nW,fh]
def TS(o:H.Ok){f:List (Nat×List cM)}{A:Nat->cM}{sets:cM}{J:List cM}(h:Sets H f A sets)(q:Rest H sets.length f){r:Int×Int×List cM}(K:sK (hH H) f J sets=some r){y:Nat}(u:y<sets.length):0<=jz (hH H) (sets.getD y 0)/\jz (hH H) (sets.getD y 0)<=r.1:=by
 have z:=o.many;have⟨t,L,M,C⟩:=Ds K;have⟨T,D⟩:=BL (y:=y) f t sets L (λc N=>by obtain⟨i,O,rfl⟩:=List.getElem_of_mem N;exact(q.list _ (eB cL) _ (M i cL O)).1) u;have⟨B,E⟩:=jQ (sJ (f.map Prod.fst) t y);have k:B.Sublist (f.map Prod.fst):=by rw[E];exact zI
 rw[<-E,h.val y u]at D;have v:pw (A y)+pw B=pw (A y++B):=by unfold pw;grind
 rw[v]at D;have l:(A y++B).Nodup:=List.nodup_append.2 ⟨h.nodup y,k.nodup q.nodup,λa P b F e=>(h.door y a P).2 cK⟩;have g:∀d∈A y++B,d<H.doors.iN:=λd m=>by obtain m|m:=jy.1 m;exact(h.door y d m).1;obtain⟨p,Q,rfl⟩:=kF.1 (k.subset m);exact q.door p Q
 have j:y<(zo f t sets).iN:=cK;have R:(zo f t sets)[y]=pw (A y++B):=cK;have G:=xX C _ (eB j);have S:=(Dt C).2 _ (eB j);rw[R,J2 o l g]at G S;rw[h.val y u,J2 o (h.nodup y) cK];have w:∀d∈A y,d<5:=cK;have n:∀d∈A y++B,d<5:=cK;have U:=TH o (s:=eo (A y)) (t:=eo (A y++B)) (ko.eo z cK) (ko.eo z g) (λx I F=>(nI n I).2 (List.mem_append_left _ ((nI w I).1 F))) G;grind
def step_eq(m:H.Ok){g:List cM}{a:List (Nat×List cM)}{A:Nat->cM}{sets c:cM}{f:List cM}(h:Sets H ((d,g)::a) A sets)(i:Rest H sets.length ((d,g)::a))(l:c∈g)(o:uD):sC (hH H) d sets (λc j=>sK (hH H) a (f++[c]) j) o c=Dq d sets (λc j=>sK (hH H) a (f++[c]) j) o c:=by
 unfold sC Dq;split;rfl;rename_i n;obtain⟨k,p⟩:=i.list _ fF c l;obtain⟨x,u,b⟩:=BO c sets k (eV n);show o=vL o (sK (hH H) a (f++[c]) (ja d sets c));cases s:sK (hH H) a (f++[c]) (ja d sets c)with
 |none=>cases o<;>rfl
 |some r=>
  have e:(ja d sets c).length=sets.length:=pq d c sets;obtain⟨t,v⟩:=TS m (h.add i l) (by rw[e];exact i.tail) s (y:=x) cK;unfold UP at b;rw[decide_eq_true t,Bool.true_and]at b;cases o with
  |none=>grind
  |some q=>
   have b:¬jz (hH H) ((ja d sets c).getD x 0)<=q.1:=iP b;show some q=if r.1<q.1\/r.1=q.1/\r.2.1<q.2.1 then some r else some q
   grind
theorem fold_congr{c a:Type}{f g:a->c->a}:∀(l:List c) (b:a),(∀x∈l,∀b,f b x=g b x)->l.foldl f b=l.foldl g b
 |[],_,_=>rfl
 |x::r,b,h=>by rw[mj,mj,h x fF];exact fold_congr r _ cK
theorem Rb(g:H.Ok):∀(a:List (Nat×List cM)) (A:Nat->cM) (sets:cM) (b:List cM),Sets H a A sets->Rest H sets.length a->se (hH H) a b sets=sK (hH H) a b sets
 |[],_,_,_,_,_=>rfl
 |(d,j)::a,A,sets,b,h,f=>by
  rw[se,sK];refine fold_congr j none λc i o=>?_;rw[<-step_eq g h f i o];have e:(ja d sets c).length=sets.length:=pq d c sets;show(if wU (hH H) o d sets c=true then vL o (se (hH H) a (b++[c]) (ja d sets c))else o)=if wU (hH H) o d sets c=true then vL o (sK (hH H) a (b++[c]) (ja d sets c))else o
  rw[Rb g a _ (ja d sets c) (b++[c]) (h.add f i) (by rw[e];exact f.tail)]
def qD(D:eJ):Nat->cM->List cM
 |_,[]=>[]
 |k,i::r=>(ef D k).getD i []::qD D (k+1) r
theorem Dv(D:eJ)(i:Nat):∀(a:cM) (k:Nat),qD D k (a++[i])=qD D k a++[(ef D (k+a.length)).getD i []]
 |[],k=>rfl
 |p::r,k=>by rw[nP];simp only[qD];rw[Dv D i r (k+1),nP,fi,show k+1+r.iN=k+(r.iN+1) by omega]
def Rz(D:eJ):Sp->uD->Prop
 |none,none=>True
 |some (l,m,k),some r=>r.1=m/\r.2.1=k/\r.2.2=qD D 0 (l.map Int.toNat)
 |_,_=>False
def NR{D:eJ}{b x:Sp}{o y:uD}(h:Rz D b o)(a:Rz D x y):Rz D (ly b x) (vL o y):=by
 obtain _|⟨l,m,k⟩:=b;cases o with
 |some _=>exact h.elim
 |none=>
  rw[lQ];exact a
 cases o with
 |none=>exact h.elim
 |some r=>
  obtain _|⟨s,d,j⟩:=x;cases y with
  |some _=>exact a.elim
  |none=>exact h
  cases y with
  |none=>exact a.elim
  |some q=>
   have⟨e,f,n⟩:=h;have⟨g,i,p⟩:=a;unfold ly;rw[kR];show Rz D _ (if q.1<r.1\/q.1=r.1/\q.2.1<r.2.1 then some q else some r);rw[e,f,g,i];by_cases c:d<m\/d=m/\j<k;rw[cT (decide_eq_true c),cT c];exact⟨g,i,p⟩;rw[cR cK,cR c];exact⟨e,f,n⟩
theorem BP(b:eY):∀(l:cM) (m a:Int),j6 b l m a=if(l.map (jz b)).any (·<0)then none else some ((l.map (jz b)).foldl max m,a+(l.map (jz b)).sum)
 |[],m,a=>by simp[j6]
 |x::r,m,a=>by simp only[j6,kY,List.any_cons,mj,List.sum_cons];by_cases h:jz b x<0;grind;rw[cR h,lL h,Bool.false_or,BP b r,Int.add_assoc]
theorem fold_zero:∀(n:Nat) (m:Int),0<=m->(List.replicate n (0:Int)).foldl max m=m
 |0,m,_=>rfl
 |n+1,m,h=>by rw[List.replicate_succ,mj,Int.max_eq_left h];exact fold_zero n m h
theorem yQ:∀(l:eY) (m:Int),m<=l.foldl max m
 |[],m=>Int.le_refl _
 |x::r,m=>Int.le_trans (Int.le_max_left m x) (yQ r _)
def Rc(a:List cM):(List.range a.length).map (λi=>a.getD i [])=a:=by apply List.ext_getElem;simp;grind
theorem H9{D:eJ}{f:Nat->Sp}{g:Nat->uD}:∀(l:cM) (b:Sp) (o:uD),Rz D b o->(∀i∈l,Rz D (f i) (g i))->Rz D (l.foldl (λb i=>ly b (f i)) b) (l.foldl (λo i=>vL o (g i)) o)
 |[],b,o,h,_=>h
 |i::r,b,o,h,a=>by rw[mj,mj];exact H9 r _ _ (NR h (a i fF)) cK
section
variable{G:Gd}{xs:List Sx}{f:Nat}
def Rd(j:G.Ok)(q:xs.length=G.doors.length){L:Nat->Nat}{sets:cM}{A:Nat->cM}{b:List (Nat×List cM)}(c:Sets G b A sets)(r:sets.length<=6)(k:∀y,y<6->L y=if y<sets.length then sets.getD y 0 else 0)(l:∀y,∀d∈A y,d∈dU G.tries xs)(e:cM):Rz (dM G xs f) (eT (dM G xs f) L e) (sK (hH G) [] (qD (dM G xs f) 0 e) sets):=by
 have s:=j.many;have t:nW G 0=0:=by unfold nW;rw[fh,cT rfl];rfl
 have u:∀y,y<6->(dM G xs f).counts.getD (L y) 0=if y<sets.iN then jz (hH G) (sets.getD y 0)else 0:=λy m=>by rw[k y m];split;rename_i g;have a:∀d∈A y,d<5:=λd h=>iD ((c.door y d h).1);rw[c.val y g,J2 j (c.nodup y) λd h=>(c.door y d h).1,<-zH (c.nodup y) a];exact Bx cL f (nf _ 0 cK a) λx i n=>l y x ((nI a i).1 n);grind [Bx]
 have o:iQ (dM G xs f) L=sets.map (jz (hH G))++List.replicate (6-sets.iN) 0:=by show((List.range 6).map L).map (λx=>(dM G xs f).counts.getD x 0)=_;apply List.ext_getElem;grind;grind
 unfold eT;rw[sK,BP,o];have p:(List.replicate (6-sets.iN) (0:Int)).any (λx=>decide (x<0))=false:=by grind
 rw[List.any_append,p,Bool.or_false];split;trivial;refine⟨?_,?_,?_⟩;show(sets.map (jz (hH G))).foldl max 0=_;rw[si,fold_zero _ _ (yQ _ 0)];show(0:Int)+(sets.map (jz (hH G))).sum=_;simp;show qD _ 0 e=_;congr 1;simp[List.map_map,zJ]
end
section
variable{G:Gd}{xs:List Sx}{f:Nat}
theorem Ia(F:G.Ok)(R:xs.length=G.doors.length):∀(n:Nat) (a:cM) (L:Nat->Nat) (sets:cM) (A:Nat->cM),a.length+n=(dU G.tries xs).length->
 Sets G (((dM G xs f).opn.zip (dM G xs f).lists).drop a.length) A sets->Rest G sets.length (((dM G xs f).opn.zip (dM G xs f).lists).drop a.length)->sets.length<=6->(∀y,y<6->L y=if y<sets.length then sets.getD y 0 else 0)->(∀y,∀d∈A y,d∈dU G.tries xs)->
 Rz (dM G xs f) (eG (dM G xs f) n a L none) (sK (hH G) (((dM G xs f).opn.zip (dM G xs f).lists).drop a.length) (qD (dM G xs f) 0 a) sets)
 |0,a,L,sets,A,V,k,s,S,E,H=>by have W:((dM G xs f).opn.zip (dM G xs f).lists).drop a.length=[]:=List.drop_eq_nil_of_le (by simp[dM];omega);rw[W,eG,lQ];exact Rd F R k S E H a
 |n+1,a,L,sets,A,V,k,s,S,E,H=>by
  have h5:=F.many;have I:a.length<(dU G.tries xs).length:=cL;have⟨d,t⟩:=jQ (fI (dM G xs f) a.length);have⟨j,q⟩:=jQ (ef (dM G xs f) a.length);have u:d=(dU G.tries xs)[a.length]:=by rw[t];show(dU G.tries xs).getD a.length 0=_;rw[gD,eZ I];rfl
  have X:a.length<((dM G xs f).opn.zip (dM G xs f).lists).length:=by simp[dM];omega
  have J:((dM G xs f).opn.zip (dM G xs f).lists).drop a.length=(d,j)::((dM G xs f).opn.zip (dM G xs f).lists).drop (a.length+1):=by rw[pz X];congr 1;rw[List.getElem_zip,u,q];congr 1;show _=((dU G.tries xs).map _).getD a.length [];rw[gD,eZ (eV I)];rfl
  rw[J]at k s⊢;have⟨h,l⟩:=jQ (((dM G xs f).opn.zip (dM G xs f).lists).drop (a.length+1));rw[<-l]at k s⊢;rw[eG,sK,<-t,<-q];have v:d∈dU G.tries xs:=by rw[u];exact eB I
  have w:d<5:=iD (jI v);have Y:(λ(b:Sp) (i:Nat)=>eG (dM G xs f) n (a++[i]) (jM d (j.getD i []) L) b)=λb i=>ly b (eG (dM G xs f) n (a++[i]) (jM d (j.getD i []) L) none):=by funext b i;exact qj _ n _ _ b
  rw[Y]
  have Z:j.foldl (Dq d sets λc nx=>sK (hH G) h (qD (dM G xs f) 0 a++[c]) nx) none=(List.range j.length).foldl (λo i=>vL o (sK (hH G) h (qD (dM G xs f) 0 a++[j.getD i []]) (ja d sets (j.getD i [])))) none:=by
   conv=>lhs;rw[<-Rc j]
   rw[List.foldl_map];rfl
  rw[Z];refine H9 _ _ _ trivial λi hi=>?_;have x:i<j.length:=fP.1 hi;have⟨c,K⟩:=jQ (j.getD i []);have z:c∈j:=by rw[K,gD,eZ x];exact eB x
  rw[<-K];have B:qD (dM G xs f) 0 (a++[i])=qD (dM G xs f) 0 a++[c]:=by rw[Dv,dj,<-q,<-K]
  have m:(a++[i]).length=a.length+1:=dt;have C:=pq d c sets;have⟨M,N⟩:=s.list _ fF c z;have O:=k.add s z;have T:=Ia F R n (a++[i]) (jM d c L) (ja d sets c) (λy=>A y++if y∈c then [d]else []) (by rw[m];omega) (by rw[m,<-l];exact O) (by rw[m,<-l,C];exact s.tail) cL (λy U=>?_) (λy e p=>?_);rw[m,<-l,B]at T;exact T;rw[C];unfold jM;by_cases g:y<sets.length;rw[cT g,wW d c sets M g,E y U,cT g];split;rw[k.val y g];have r:∀e∈A y,e<5:=λe p=>iD ((k.door y e p).1);have D:=zH (k.nodup y) r;rw[<-D];have P:eo (A y)<32:=nf _ 0 kA r;refine(LK _ P d w ?_).1;cases hb:(eo (A y)).testBit d with
  |false=>rfl
  |true=>exact absurd ((nI r w).1 hb) λQ=>(k.door y d Q).2 dt
  rfl;rw[cR g,E y U,cR g,cR λQ=>g (N y Q)];obtain p|p:=jy.1 p;exact H y e p;split at p;rw[iv.1 p];exact v;cases p
end
def Dw{G:Gd}{l:List Tq}(e:nM G l=0):me G l []=dU G.tries (fw G l).2:=by
 have L:=tT e;unfold me dU rL;rw[L.len];refine List.filter_congr λd f=>?_;have b:d<G.doors.length:=fP.1 f;have c:=(L.both d b).met G.tries;have a:d<(fw G l).2.length:=by rw[L.len];grind
 rw[gD,eZ a]at c;have c:ij G.tries (fw G l).2[d]=HH G.tries (rl (d:Nat) rj l):=c;rw[eZ a];grind [pV,AJ,sE]
def Ib{G:Gd}{l:List Tq}(q:nM G l=0){f:Nat}(w:eO l<=f):Rz (dM G (fw G l).2 f) (gf (dM G (fw G l).2 f)) (nY G l f (me G l [])):=by
 have L:=tT q;have e:=eD L.g;have F:=e.many;have z:=e.days;have m:=Dw q;have⟨A,n⟩:=sf G l [];have o:∀d∈me G l [],vK G (rl (d:Nat) rj l) f=ju G ((fw G l).2.getD d qV) f:=λd h=>by have r:=L.both d (n d h);have b:=vH (d:Nat) l;refine JY e r ⟨b.2.1.1,b.2.2.1⟩ b.1.1 ?_ w;rw[r.met];have:=(nA.1 h).2;simp only[pV,eU,sM]at this;exact this.1
 have a:(me G l []).zip ((me G l []).map λd:Nat=>vK G (rl (d:Nat) rj l) f)=(dM G (fw G l).2 f).opn.zip (dM G (fw G l).2 f).lists:=by rw[List.map_congr_left o,m];rfl
 unfold nY;rw[a];have B:(((dM G (fw G l).2 f).opn.zip (dM G (fw G l).2 f).lists).map Prod.fst)=dU G.tries (fw G l).2:=List.map_fst_zip (by simp[dM]);have s:Rest G (List.replicate (2*G.days).toNat 0).length ((dM G (fw G l).2 f).opn.zip (dM G (fw G l).2 f).lists):=by refine⟨by rw[B];exact yx _ _,λp k=>?_,λp k c t=>?_⟩;have u:=jI (List.of_mem_zip k).1;rw[L.len]at u;exact u;rw[<-a]at k;obtain⟨i,H,rfl⟩:=List.getElem_of_mem k;simp only[List.getElem_zip,List.getElem_map]at t;have⟨C,_,D⟩:=(BK e (vH _ l).1.1).2 c t;exact⟨C,λx E=>by rw[List.length_replicate];exact(D x E).2⟩
 have j:∀y,(List.replicate (2*G.days).toNat 0).getD y 0=0:=λy=>by rw[gD,List.getElem?_replicate];split<;>rfl
 have v:Sets G ((dM G (fw G l).2 f).opn.zip (dM G (fw G l).2 f).lists) (λ_=>[]) (List.replicate (2*G.days).toNat 0):=⟨λy _=>j y,λ_=>List.nodup_nil,λ_ d h=>by cases h⟩;rw[Rb e _ _ _ [] v s];exact Ia e L.len (dU G.tries (fw G l).2).length [] L0 _ (λ_=>[]) dt v s pY (λy _=>by rw[j];split<;>rfl) λ_ d h=>by cases h
def Re{a:List cM}(b:k<l.length)(c:k<a.length):sJ (l.take (k+1)) (a.take (k+1)) s=sJ (l.take k) (a.take k) s++if s∈a[k]then [l[k]]else []:=by rw[iw b,iw c];unfold sJ;rw[List.zip_append cK,List.filter_append,oC];by_cases h:s∈a[k]<;>simp[h]
theorem Ic(D:eJ):∀(a:cM) (k j:Nat) (h:j<(qD D k a).length) (b:j<a.length),(qD D k a)[j]=(ef D (k+j)).getD a[j] []
 |i::r,k,0,_,_=>rfl
 |i::r,k,j+1,h,b=>by have:=Ic D r (k+1) j (by grind [qD]) cK;grind [qD]
theorem BQ(D:eJ):∀(a:cM) (k:Nat),(qD D k a).length=a.length
 |[],_=>rfl
 |i::r,k=>by simp[qD,BQ D r]
theorem LM(D:eJ)(a:cM)(c:a.length=D.opn.length):∀(k:Nat),k<=a.length->∀s,lE D a k s=eo (sJ (D.opn.take k) ((qD D 0 a).take k) s)
 |0,_,s=>by simp[lE,sJ,L0,eo,setFrom]
 |k+1,h,s=>by
  have e:=BQ D a 0;have d:k<D.opn.length:=cL;have b:k<(qD D 0 a).length:=cL;rw[Re d b];show jM (fI D k) ((ef D k).getD (a.getD k 0) []) (lE D a k) s=_;have f:(qD D 0 a)[k]=(ef D k).getD (a.getD k 0) []:=by rw[Ic D a 0 k b cL,dj];grind
  have g:fI D k=D.opn[k]:=by unfold fI;grind
  rw[f,<-g];unfold jM;rw[LM D a c k cL s];split;unfold eo setFrom;grind;grind
theorem J3{a b:Type}{g:a->List b}:∀l:List a,(∀x∈l,g x=[])->l.flatMap g=[]
 |[],_=>rfl
 |x::r,h=>by rw[oB,h x fF,J3 r cK];rfl
def Rf{l:List Tq}(h:nM H l=0)(D:eO l<=k)(E:k<=(2*H.days).toNat):match pi H (dM H (fw H l).2 k),nY H l k (me H l [])with
 |none,none=>True
 |some a,some r=>mH H k (me H l []) r.2.2 ((2*H.days).toNat-k)=a
 |_,_=>False:=by
 have b:=Ib h D;have L:=tT h;have y:=eD L.g;have F:=y.days;have⟨i,o⟩:=sf H l [];have q:(me H l []).Nodup:=i.imp cL;unfold pi;cases t:nY H l k (me H l [])with
 |none=>
  rw[t]at b;cases f:gf (dM H (fw H l).2 k)with
  |none=>grind
  |some x=>rw[f]at b;exact b.elim
 |some r=>
  rw[t]at b;cases f:gf (dM H (fw H l).2 k)with
  |none=>rw[f]at b;exact b.elim
  |some x=>
   have⟨z,m,M⟩:=x;rw[f]at b;have⟨_,_,A⟩:=b;have⟨N,G,_⟩:=BM y q o t;have⟨a,d⟩:=jQ (z.map Int.toNat);have u:z.length=a.length:=cK;simp only;rw[<-d,u];rw[<-d]at A;have v:(dM H (fw H l).2 k).opn=me H l []:=(Dw h).symm;have I:=BQ (dM H (fw H l).2 k) a 0;have c:a.length=(dM H (fw H l).2 k).opn.length:=cK;have J:∀s,lE (dM H (fw H l).2 k) a a.length s=eo (sJ (me H l []) r.2.2 s):=λs=>by rw[LM _ a c a.length (dg _) s,A,c,jN,<-c,uM cL,v]
   have e:∀s,(s<k\/(2*H.days).toNat<=s)->sJ (me H l []) r.2.2 s=[]:=λs B=>by unfold sJ;rw[List.map_eq_nil_iff,T4];intro p K;have:=G p.2 (List.of_mem_zip K).2;grind
   have O:∀s,(s<k\/(2*H.days).toNat<=s)->((fh H (lE (dM H (fw H l).2 k) a a.length s)).getD []).map (λl=>(s,l))=[]:=λs B=>by rw[J,e s B,show eo []=0 from rfl,fh,cT rfl];rfl
   unfold mH rT;have w:List.range 6=List.range' 0 k++(List.range' k ((2*H.days).toNat-k)++List.range' (2*H.days).toNat (6-(2*H.days).toNat)):=by rw[List.range_eq_range'];have C:=List.range'_append_1 (s:=k) (m:=(2*H.days).toNat-k) (n:=6-(2*H.days).toNat);rw[show k+((2*H.days).toNat-k)=(2*H.days).toNat by omega]at C;rw[C];have P:=List.range'_append_1 (s:=0) (m:=k) (n:=(2*H.days).toNat-k+(6-(2*H.days).toNat));grind
   rw[w,List.flatMap_append,List.flatMap_append,J3 (List.range' 0 k) cK,J3 (List.range' (2*H.days).toNat _) cK,List.append_nil,oD];rw[show List.range' k ((2*H.days).toNat-k)=(List.range ((2*H.days).toNat-k)).map (λj=>k+j) by rw[List.range_eq_range',List.map_add_range'];simp];rw[List.flatMap_map];congr 1;grind [NP]
end Go.Proofs.W
namespace Go.Proofs.W
open Go.RowKit
theorem BR{G:Gd}{l:List Tq}(h:dG G l I 0=0):nM G l=0/\∃f:Nat,I=(f:Int)/\eO l<=f/\f<(2*G.days).toNat:=by
 have⟨b,c⟩:=zm h;have d:=(eD b).days;refine⟨c,I.toNat,?_⟩;have a:qT G (eO l) I=0:=by have e:=h;unfold dG at e;grind
 unfold qT at a;split at a;rename_i g;simp only[l5,eU,j9]at g;grind;grind
section
variable{G:Gd}{da:Option Addr}{dc:Nat}{w:cI}{l:List Tq}{la:Option Addr}{lc:Nat}
def Ie(X:gX w da G.doors)(z:G.doors.length<=100000)(M:kq w la l)(p:l.length<=100000)(N:l.length<=lc)(s:Int):
 Calls V.prog 47 #[gV G da dc,.slice la l.length lc,.int .i64 s] w (fM λv w'=>Ext w w'/\((dG G l s 0≠0/\v=.tuple #[.int .i64 0,.int .i64 (dG G l s 0)])\/(dG G l s 0=0/\v=NH (kT (dM G (fw G l).2 s.toNat))))):=by
 refine go (V.fn Tryz.func47 cK) Tryz.ntmps47 ?_;refine eH λw1 gb I aa Y=>eI Y (ek (tR (dc:=dc) (X.ext I) z (M.ext I) p N s) λO P=>gQ ⟨λh=>?_,λh=>?_⟩);exact⟨_,rfl,I.trans P,.inl ⟨fH h,rfl⟩⟩;have h:dG G l s 0=0:=cK;have J:=I.trans P;have A:=P.at_ Y;obtain⟨Z,f,rfl,hf,ab⟩:=BR h;have L:=tT Z;have ok:=eD L.g;have h5:=ok.many;have ac:=ok.days;have j:=Ib Z hf;have⟨B,C⟩:=sf G l [];have⟨c,D⟩:=jQ (me G l []);rw[<-D]at B C j;have Q:c.Nodup:=B.imp cL;rw[ny];refine dD dC<|po A<|po A ?_;refine .rel (λu d=>eK O.lH d u c) (λu a b h e=>cZ.ext h e) (λE n=>cX (Dl (da:=da) (dc:=dc) cL (M.ext (J.trans n)) p L.sh (but:=[]) (ba:=none) (bc:=0) (λk hk=>by simp at hk) dt) λu d ⟨R,h4⟩=>⟨by rw[D];exact h4.low n.size,R⟩) ?_;refine .rel (λu d=>∃F H,Cd (nY G l f c) (F,c.iN,H) u d) (λu a b ⟨x,y,S⟩ e=>⟨x,y,Cd.st _ _ _ S e⟩) (λE n u q=>?_) ?_;have q:eK O.lH E u c:=q;obtain⟨F,H,rfl,T,_⟩:=q.row;exact cX (Do (dc:=dc) (lc:=lc) L.g (X.ext (J.trans n)) (M.ext (J.trans n)) p L.sh f cL T Q C) cK;refine .rel (λu d=>∃t,u=di t/\O.lH<=t/\d.heap[t]? =some (.cells (pK 125).toArray 125)) (λu a b ⟨t,q1,S,q3⟩ e=>⟨t,q1,S,e.at_ q3⟩) (λE n=>eS λd t R U i=>⟨⟨t,rfl,dw n.size U,i⟩,R⟩) ?_;rintro E n _ ⟨sb,rfl,W,i⟩ u q;have q:∃F H,Cd (nY G l f c) (F,c.iN,H) u E:=q;obtain⟨F,H,i',m',a',d',s',rfl,K⟩:=q;repeat intro _
 refine dI i λd k4 o=>?_;have o:d.heap[sb]? =some (.cells (zn i' m' a' d' s').toArray 125):=o.trans (dE (λa=>some (Obj.cells a 125)) sd);have E4:Ext w d:=J.trans (n.cS k4 W);refine cO (cN o rfl) ?_;cases hq:nY G l f c with
 |none=>
  rw[hq]at K j;obtain⟨rfl,_⟩:=K;cases i:gf (dM G (fw G l).2 f)with
  |some x=>rw[i]at j;exact j.elim
  |none=>exact eC (jX rfl ⟨_,rfl,E4,.inr ⟨h,by rw[kT,i];rfl⟩⟩)
 |some r=>
  rw[hq]at K j;obtain⟨rfl,rfl,_⟩:=K;cases i:gf (dM G (fw G l).2 f)with
  |none=>rw[i]at j;exact j.elim
  |some x=>
   have⟨pl,m,k⟩:=x;rw[i]at j;have⟨h1,_,_⟩:=j;exact eC (lh rfl (cO (cN o rfl) ⟨_,rfl,E4,.inr ⟨h,by rw[kT,i,h1];rfl⟩⟩))
def J4(k:gX w da G.doors)(a:G.doors.length<=100000)(m:kq w la l)(b:l.length<=100000)(c:l.length<=lc)(s:Int):
 Calls V.prog 32 #[gV G da dc,.slice la l.length lc,.int .i64 s] w (fM λv i=>Ext w i/\((dG G l s 0≠0/\v=.tuple #[.slice none 0 0,.int .i64 (dG G l s 0)])\/(dG G l s 0=0/\wJ w.heap.size (pi G (dM G (fw G l).2 s.toNat)) v i))):=by
 by_cases h:dG G l s 0=0;obtain⟨n,f,rfl,p,j⟩:=BR h;have L:=tT n;have q:=Rf n p (Nat.le_of_lt j);refine(NQ (dc:=dc) L.g k m b c L.sh f h).mono ?_;rintro e i ⟨v,rfl,d,o⟩;refine⟨v,rfl,d,.inr ⟨h,?_⟩⟩;rw[ny];unfold Yw at o;unfold wJ;revert q o;cases pi G (dM G (fw G l).2 f)with
 |none=>
  grind
 |some x=>
  grind
 refine go (V.fn Tryz.func32 cK) Tryz.ntmps32 ?_;refine eH λy z d r t=>eI t (ek (tR (dc:=dc) (k.ext d) a (m.ext d) b c s) λA u=>gQ (jX (decide_eq_true h) ?_));exact⟨_,rfl,d.trans u,.inl ⟨h,rfl⟩⟩
end
def Rg:Calls V.prog 25 #[gV H a m] w (fM λv f=>(∃b,v=.bool b/\(b=false->H.doors.length<=20))/\Ext w f):=by refine Ry (V.fn Tryz.func25 cK) Tryz.ntmps25 (dP.seq dr ?_);refine eH λk l d g c=>dP.gN (mR.start (mR.B8 15 dr ?_));refine cO (cN c rfl) (dm (mP ⟨λh=>cO (cN c rfl) (dm (sv ⟨λi=>?_,λi=>eI c (ek HX λj e=>?_)⟩)),λh=>eI c (ek HX λj e=>?_)⟩));exact mR.fin (dP.of dr ⟨_,rfl,⟨_,rfl,cK⟩,d⟩);exact mR.fin (dP.of dr ⟨_,rfl,⟨_,rfl,cK⟩,d.trans e⟩);exact mR.fin (dP.of dr ⟨_,rfl,⟨_,rfl,cK⟩,d.trans e⟩)
def Rh(G:Gd)(l:List Tq)(s:Int):Int×Int:=if dG G l s 0=0 then(if(kT (dM G (fw G l).2 s.toNat)).2 then((kT (dM G (fw G l).2 s.toNat)).1,0)else(0,11))else(0,dG G l s 0)
def Ig(G:Gd)(l:List Tq)(s:Int):List (Nat×cM)×Int:=if dG G l s 0=0 then(match pi G (dM G (fw G l).2 s.toNat)with
 |none=>([],11)
 |some a=>(a,0))else([],dG G l s 0)
def LN{l:List Tq}(h:(dG H l I 0≠0/\x=.tuple #[.int .i64 0,.int .i64 (dG H l I 0)])\/(dG H l I 0=0/\x=NH (kT (dM H (fw H l).2 I.toNat)))):x=.tuple #[.int .i64 (Rh H l I).1,.int .i64 (Rh H l I).2]:=by unfold Rh;obtain⟨a,rfl⟩|⟨a,rfl⟩:=h;grind;rw[cT a];grind [NH]
theorem LO{l:List Tq}(h:(dG H l I 0≠0/\x=.tuple #[.slice none 0 0,.int .i64 (dG H l I 0)])\/(dG H l I 0=0/\wJ m (pi H (dM H (fw H l).2 I.toNat)) x w)):BG ll (Ig H l I).1 (Ig H l I).2 x w:=by
 unfold Ig;obtain⟨d,rfl⟩|⟨d,b⟩:=h;rw[cR d];exact⟨none,0,rfl,λk e=>by simp at e⟩;rw[cT d];unfold wJ at b;cases f:pi H (dM H (fw H l).2 I.toNat)with
 |none=>
  rw[f]at b;rw[b];exact⟨none,0,rfl,λk e=>by simp at e⟩
 |some j=>
  rw[f]at b;obtain⟨u,rfl,g⟩:=b;obtain⟨a,c,rfl,i,_⟩:=g.row;exact⟨a,c,rfl,i⟩
def TT(G:Gd)(l:List Tq)(s:Int):(Ig G l s).1.length<=30/\∀x∈(Ig G l s).1,x.2.length<=5:=by
 unfold Ig;split;unfold pi;cases gf (dM G (fw G l).2 s.toNat)with
 |none=>grind
 |some y=>
  have⟨a,m,k⟩:=y;refine⟨vy 6,λx b=>?_⟩;simp only[rT,lq,kF]at b;obtain⟨j,_,r,c,rfl⟩:=b;generalize lE (dM G (fw G l).2 s.toNat) (a.map Int.toNat) a.iN j=S at c;cases d:fh G S with
  |none=>grind
  |some D=>grind [vz]
 grind
def Ri{l:List (Nat×cM)}{b:dV}(d:ll w a l)(c:ll w b l)(h:l.length<=30/\∀x∈l,x.2.length<=5):Calls V.prog 42 #[.slice a l.length m,.slice b l.length k] w (fM λv e=>v=.bool true/\Ext w e):=by have:=yF l l a b m k w d c cL cK;simpa using this
structure Dx where
 G:Gd
 da:Option Addr
 dc:Nat
 l:List Tq
 la:Option Addr
 lc:Nat
 s:Int
structure TU(gs ls ss:Nat)(w:cI)(cs:List Dx):Prop where
 gI:JZ (λc:Dx=>gL c.G c.da c.dc) 7 gs w cs
 lI:EZ (λc:Dx=>.slice c.la c.l.length c.lc) ls w cs
 sI:EZ (λc:Dx=>.int .i64 c.s) ss w cs
 all:∀c∈cs,QT w c.da c.G/\Dk w c.la c.lc c.l
theorem TU.ext{a:List Dx}(h:TU m k i w a)(e:Ext w t):TU m k i t a:=⟨h.gI.ext e,h.lI.ext e,h.sI.ext e,λc b=>⟨(h.all c b).1.ext e,(h.all c b).2.ext e⟩⟩
def Rj(b:Nat)(t:Nat)(c:dN)(u:cJ)(w:cI):Prop:=∃a,u=.slice (some ⟨a,0,none⟩) 4 4/\a≠b/\w.heap[a]? =some (.cells c.toArray t)
def Rj.de(u:cJ)(a b:cI)(h:Rj m k M u a)(e:DE m a b):Rj m k M u b:=by have⟨d,f,c,g⟩:=h;exact⟨d,f,c,e.1.fL g c⟩
def pL(a b c k d:Nat)(e:dV)(n f:Nat):L:=[(12,.slice (some ⟨a,0,none⟩) 4 4),(13,.slice (some ⟨b,0,none⟩) 4 4),(14,.slice (some ⟨c,0,none⟩) 4 4),(15,.int .i64 k),(16,di d),(17,.slice e n f)]
def Fc{dc:Nat}(hd:gX w a H.doors)(bj:H.doors.length<=9223372036854775807){l:List Tq}{la:dV}{lc:Nat}(hl:kq w la l)(bk:l.length<=9223372036854775807)(aN:l.length<=lc)(aO:la=none->l.length=0)(s:Int) {ns:eY}{na:dV}(hr:kD w na ns)(aP:ns.length<=9223372036854775807):
 Calls V.prog 5 #[gV H a dc,.slice la l.length lc,.int .i64 s,.slice na ns.length m] w (vw λv w'=>v=.bool true/\Ext w w'):=by
 refine Ry (V.fn Tryz.func5 cK) Tryz.ntmps5 (dP.seq dr ?_);refine eH λJ ob e1 bl R=>dP.gN (dP.gN (mR.start (mR.B8 7 dr ?_)));refine eI R (cX Rg ?_);rintro _ w2 ⟨⟨mb,rfl,aQ⟩,Q⟩;have E2:=e1.trans Q;refine⟨λh=>?_,λh=>dm (mP ?_)⟩;refine mR.fin (dP.of dr (jX rfl (iM (tN w2) (λw' h=>.inr ⟨rfl,h⟩) ?_)));rintro _ w3 ⟨rfl,e3⟩;exact .inl ⟨_,rfl,rfl,E2.trans e3⟩;refine mR.fin (dP.of dr ⟨λh4=>?_,λh4=>?_⟩);refine iM (tN w2) (λw' h=>.inr ⟨rfl,h⟩) ?_;rintro _ w3 ⟨rfl,e3⟩;exact .inl ⟨_,rfl,rfl,E2.trans e3⟩;have ar:=aQ h;have bg:l.length<=30:=cK;refine dP.jj (l0:=[(1,.slice la l.length lc),(2,i64 s),(3,.slice na ns.length m),(4,di ob)]) (by trivial) (dP.seq dr ?_);refine cX (Hx (hr.ext E2) aP) ?_;rintro _ w3 ⟨e3,D,rfl,bm,hD⟩;have E3:=E2.trans e3;refine dP.seq dr (cX (EP hD 4 dt) ?_);rintro _ w4 ⟨d4,M,K,L,rfl,hO,bn,hM,bo⟩;have ok:=eD hM;have bp:=ok.days;have bq:=E3.size;have ac:w.heap.size<=D:=iD E2.size;have br:=hD.lt;have bs:=d4.1.size;have E4:Ext w w4:=JW E3 d4 ac;refine eS λw5 gb e5 aR aS=>dI aS λw6 k6 ah=>?_;replace ah:w6.heap[gb]? =some (.cells (gL M K L).toArray 24):=ah.trans (dE (λN=>some (Obj.cells N 24)) (ee (pK 24).toArray (gL M K L) rfl));have ad:Ext w4 w6:=Ext.cS e5 k6 aR;have D6:=(d4.2 hD).ext ad;refine dP.jj (l0:=[(1,.slice la l.length lc),(2,i64 s),(4,di ob),(9,di D),(10,di gb)]) (by trivial) (dP.seq dr ?_);refine eI ah (cX (NG (dc:=L) D6 hM) ?_);rintro _ w7 ⟨d7,yl,sm,hu,aT,bt,aU⟩;have bu:=ad.size;have bv:=d7.1.size;have aV:¬gb=D:=cL;have g7:=d7.1.fL ah aV;have au:mE w3.heap.size w7 (.slice K M.doors.length L) M.doors:=cZ.keep (cZ.ext hO ad) d7.1 λb R e=>iD ((cZ.blk hO R).1);have aW:=QO aT;have D7:=d7.2 D6;have E7:Ext w w7:=JW (E4.trans ad) d7 ac;have bw:w7.heap[ob]? =some (.cells (gL H a dc).toArray 24):=by have h1:w4.heap[ob]? =some (.cells (gL H a dc).toArray 24):=d4.1.fL ((Q.trans e3).at_ R) (zp (dz.lt_of_heap R) Q.size);exact d7.1.fL (ad.at_ h1) (zp (dz.lt_of_heap R) Q.size)
 have aX:ob≠D:=zp (dz.lt_of_heap R) Q.size;have⟨Y,hY⟩:=jQ (yl.map V6);have av:Y.length=yl.length:=cK;obtain⟨U,W,rfl,_,_⟩:=hu.row;have am:zl w6.heap.size w7 (.slice U Y.length W) Y:=by have:=hu.q;grind
 have⟨_,_,e,bx⟩:=am.Yk cL;cases e;have rf:∀{v:cJ} {w:cI},v=v/\DE D w w:=⟨rfl,(xQ D).refl _⟩;have h7:∀{i:cI} {x:Nat} {o:Obj},DE D w7 i->x≠D->w7.heap[x]? =some o->i.heap[x]? =some o:=λe hx h=>e.1.fL h hx;have g8:∀i,DE D w7 i->i.heap[gb]? =some (.cells (gL M K L).toArray 24):=cK;have aw:∀{i:cI},DE D w7 i->zl w6.heap.size i (.slice U Y.length W) Y:=λe=>cZ.keep am e.1 λb R h=>iD (cZ.blk am R);have⟨dd,aY⟩:∃dd:Nat,M.days=dd:=⟨M.days.toNat,cL⟩;refine dP.jj (l0:=[(1,.slice la l.length lc),(2,i64 s),(4,di ob),(9,di D),(10,di gb),(11,.slice U Y.length W)]) ⟨rfl,rfl,rfl,rfl,rfl,by rw[av];rfl,trivial⟩ (dP.seq dr ?_);refine dD (xQ D)<| .exact (gV H a dc) (λi p=>eI cK rf)<| .exact (gV M K L) (λi p=>eI (g8 i p) rf)<| .exact (gV M K L) (λi p=>eI (g8 i p) rf)<| .exact (gV M K L) (λi p=>eI (g8 i p) rf)<| .rel (Rj D 24 (gL H a dc++gL M K L++gL M K L++gL M K L)) Rj.de (λi p=>er (gL H a dc++gL M K L++gL M K L++gL M K L) 24 λw9 I e9 X ae=>⟨⟨I,rfl,iD p.1.size,ae⟩,e9.de D⟩)<| .rel (Rj D 25 [.slice la l.length lc,fl,.slice U Y.length W,.slice U Y.length W]) Rj.de (λi p=>er [.slice la l.length lc,fl,.slice U Y.length W,.slice U Y.length W] 25 λw9 I e9 X ae=>⟨⟨I,rfl,iD p.1.size,ae⟩,e9.de D⟩) ?_;refine .exact (i64 (dd:Nat)) (λi p=>cO (cN (g8 i p) rfl) ⟨by rw[<-aY];rfl,(xQ D).refl _⟩) ?_;refine .exact (i64 ((2*dd:Nat):Int)) (λi _=>oT ⟨cK,(xQ D).refl _⟩)<| .exact (i64 ((2*dd/2:Nat):Int)) (λi _=>li (n:=2) cK cL rf)<| .rel (λu _=>∃f:Int,u=i64 f) cK (λi p=>cX (qy (p.2 D7) ((2*dd/2:Nat):Int) cL) cK)<| .exact (i64 (yP yl)) (λi p=>?_) ?_
 ·have h8:sG w6.heap.size i (.slice U yl.length W) yl:=cZ.keep hu p.1 λb R h=>iD (cZ.blk hu R);have hc:Calls V.prog 31 #[.slice U Y.length W] i (fM λv w'=>v=i64 (yP yl)/\w'=i):=by rw[av];exact JV (sG.rowOf h8) cL
  repeat intro _
  exact dH hc rf
 refine .exact (i64 M.days) (λi p=>cO (cN (g8 i p) rfl) rf)<| .exact (i64 (2*M.days)) (λi _=>oT rf)<| .exact (i64 (2*M.days-1)) (λi _=>gC rf)<| .rel (λu _=>∃f:Int,u=i64 f) cK (λi p=>?_) ?_
 ·repeat intro _
  exact cX (mD (p.2 D7) (yP yl) (2*M.days-1) cL cL cL) cK
 refine .rel (VQ D s) VQ.de (λi p=>?_) ?_;rintro u ⟨g,rfl⟩ v ⟨f,rfl⟩;exact er [i64 s,i64 f,i64 g,i64 s] 3 λw9 I e9 X ae=>⟨⟨I,f,g,rfl,iD p.1.size,ae⟩,e9.de D⟩;refine .rel (Rj D 24 (gL H a dc++gL M K L++gL M K L++gL M K L)) Rj.de (λi p=>?_) ?_
 ·repeat intro _
  exact⟨cK,(xQ D).refl _⟩
 refine .rel (Rj D 25 [.slice la l.length lc,fl,.slice U Y.length W,.slice U Y.length W]) Rj.de (λi p=>?_) ?_
 ·repeat intro _
  exact⟨cK,(xQ D).refl _⟩
 refine .rel (VQ D s) VQ.de (λi p=>?_) ?_
 ·repeat intro _
  exact⟨cK,(xQ D).refl _⟩
 rintro i p _ ⟨ss,f,g,rfl,bz,ax⟩ _ ⟨ls,rfl,bA,ay⟩ _ ⟨gs,rfl,bB,az⟩;repeat intro _
 have E8:Ext w i:=JW E7 p ac;have aZ:mE w3.heap.size i (.slice K M.doors.length L) M.doors:=cZ.keep au p.1 λb R h=>iD (cZ.blk au R);have a0:=mE.VK aZ;have⟨_,_,a1,bC⟩:=(aw p).Yk cL;cases a1;have⟨cs,aa⟩:=jQ ([⟨H,a,dc,l,la,lc,s⟩,⟨M,K,L,[],none,0,f⟩,⟨M,K,L,Y,U,W,g⟩,⟨M,K,L,Y,U,W,s⟩]:List Dx);have bD:cs.length=4:=by rw[aa];rfl
 have aA:TU gs ls ss i cs:=by have eM:QT i K M:=⟨a0,cL⟩;have eL:Dk i la lc l:=⟨hl.ext E8,cL,aN,aO⟩;refine⟨JZ.of (t:=24) (λ_=>rfl) ?_,EZ.of (t:=25) ?_,EZ.of (t:=3) ?_,?_⟩;rw[aa];exact az;rw[aa];exact ay;rw[aa];exact ax;rw[aa];intro c hc;simp only[eW,pB,mo]at hc;obtain rfl|rfl|rfl|rfl:=hc;exact⟨⟨hd.ext E8,ar⟩,eL⟩;exact⟨eM,⟨λk hk=>by simp at hk,dt,dt,cK⟩⟩;grind;grind
 clear aa;refine dP.jj (l0:=[(12,fa gs 4 4),(13,fa ls 4 4),(14,fa ss 4 4)]) (by trivial) (dP.gN (dP.seq dr ?_));refine nu 4 (λk (_:Unit)=>[(12,fa gs 4 4),(13,fa ls 4 4),(14,fa ss 4 4),(15,i64 k)]) (λk _ w'=>Ext i w') () ⟨by trivial,Ext.refl _⟩ ?_;rintro k _ ai hk aj;refine dP.gN (dP.of dr (dm (dK ⟨λbE=>?_,λbF=>?_⟩)));rotate_left;refine dP.of dr (iM (tN ai) (λw' h=>.inr ⟨rfl,h⟩) ?_);rintro _ aB ⟨rfl,S⟩;exact .inl ⟨_,rfl,rfl,(E8.trans aj).trans S⟩;have E:k<4:=cK;have ak:=aA.ext aj;have al:k<cs.length:=cL;have a2:=ak.all _ (eB al);have qg:=ak.gI k al;have ql:=ak.lI k al;have qs:=ak.sI k al;have a3:=E8.trans aj;generalize cs[k]=c at*;have⟨gI,lI⟩:=a2;refine dP.gN (dP.block (dP.gN ?_));clear h7 aw;have⟨n0,bG⟩:=jQ ai.heap.size;have hE:=Ym n0;have ext:∀{J:cI},QV n0 ai J->Ext ai J:=λe=>e.ext cL;refine gZ 11 dC hE (λN b h=>h.et n0)<| .exact (qI gs (0+k*7)) (λw _=>fE k 7 E gd)<| .exact (gV c.G c.da c.dc) (λw e=>ew (vs:=gL c.G c.da c.dc) (λj v hj=>(ext e).cell cK) gd)<| .rel (λu J=>∃N d,u=gV c.G N d/\mE n0 J (.slice N c.G.doors.length d) c.G.doors) (λu N b ⟨x,d,h1,h2⟩ e=>⟨x,d,h1,cZ.et h2 e cK⟩) (λJ e=>?_) ?_;refine cX (Ca ((gI.row.ext (ext e)).cells) (iD gI.len)) ?_;rintro u w2 ⟨Q,N,d,rfl,h⟩;exact⟨⟨N,d,rfl,mE.low h (iD ((ext e).size))⟩,Q⟩;refine .exact (qI ls (0+k)) (λw _=>eX k E gd)<| .exact (.slice c.la c.l.length c.lc) (λw e=>cO ((ext e).cell ql) gd)<| .rel (λu J=>zl n0 J u c.l) (λu N b h e=>cZ.et h e cK) (λJ e=>?_) ?_
 ·repeat intro _
  exact cX (QP (lI.row.ext (ext e)) (iD lI.len)) λu w2 ⟨Q,h⟩=>⟨cZ.low h (iD ((ext e).size)),Q⟩
 refine .rel (λu J=>∃I,u=di I/\n0<=I/\∃cs,fC J I cs 24/\cs.size=7) (λu N b ⟨I,h1,h2,cs,h3,h4⟩ e=>by have⟨a4,h5,h6⟩:=e.q I cs h3;grind) (λa5 aC=>?_) ?_
 ·repeat intro _
  exact eS λa6 I a7 X R=>⟨⟨I,rfl,iD ((ext aC).size),_,R,rfl⟩,a7⟩
 refine .yo (λvs J=>∃I r N d,vs=di I::r/\J.heap[I]? =some (.cells (gL c.G N d).toArray 24)/\mE n0 J (.slice N c.G.doors.length d) c.G.doors) (λ_ N b ⟨I,r,x,d,h1,h2,h3⟩ e=>⟨I,r,x,d,h1,e.at_ h2,cZ.ext h3 e⟩) (λa5 aC=>?_) ?_;rintro _ ⟨I,rfl,X,a4,aD,aE⟩ v2 _ _ ⟨N,d,rfl,a8⟩;exact VP (gL c.G N d) aD aE X λa6 aF aG=>⟨⟨I,_,N,d,rfl,aG,cZ.et a8 aF cK⟩,aF⟩;refine .rel (λu J=>zl n0 J u c.l) (λu N b h e=>cZ.et h e cK) (λJ e=>?_) ?_
 ·repeat intro _
  exact⟨cK,Ext.refl _⟩
 rintro aB S a9 ba _ ⟨I,rfl,X,_⟩ bH _ _ ⟨_,_,rfl,_⟩;rintro⟨ab,r,N,d,bb,af,aH⟩;have aI:ab=I:=by have:=(List.cons.inj bb).1;exact(dE Addr.block (dQ (Value.pointer.inj this))).symm
 subst aI;have S:=ext S;have bc:zl n0 aB a9 c.l:=ba;obtain⟨ka,kc,rfl,an⟩:=bc.Yk lI.len;have ao:=mE.VK aH;have bI:=a3.trans S;refine dP.jj (l0:=pL gs ls ss k ab ka c.l.length kc) (by trivial) (dP.gN ?_);have bh:=lI.len;have bi:=gI.len;have⟨A,hA⟩:=jQ ((Rh c.G c.l c.s).1);have⟨B,hB⟩:=jQ ((Rh c.G c.l c.s).2);have⟨P,hP⟩:=jQ ((Ig c.G c.l c.s).1);have⟨Z,hZ⟩:=jQ ((Ig c.G c.l c.s).2);have aJ:=TT c.G c.l c.s;rw[<-hP]at aJ;have s2 {l:List (Nat×cM)} {A:Int}:=@BG.st _ ll l A ll.QU;have s1 {l:List (Nat×cM)}:=@HY.st _ ll l ll.QU;refine dD dC (po af<|gB k E<|dl (S.cell qs)<| .exact (.tuple #[i64 A,i64 B]) (λJ e=>iM (EV (dc:=d) (lc:=kc) (ao.ext e) cL (an.row.ext e) cL c.s) (λw' h=>.inr ⟨rfl,h⟩) λu w2 ⟨Q,h⟩=>⟨by rw[hA,hB];exact LN h,Q⟩) λbJ aK=>?_);have z:=S.trans aK;refine dP.jj (l0:=(18,i64 A)::(19,i64 B)::pL gs ls ss k ab ka c.l.length kc) (by trivial) (dP.gN ?_);refine dD dC (jq k 7 E<|xV (z.cl qg)<|gB k E<|dl (z.cell ql)<|gB k E<|dl (z.cell qs)<| .exact (.tuple #[i64 A,i64 B]) (λJ e=>cX (Ie (dc:=c.dc) (gI.row.ext (z.trans e)) cL (lI.row.ext (z.trans e)) cL lI.cap c.s) λu w2 ⟨Q,h⟩=>⟨by rw[hA,hB];exact LN h,Q⟩) λbK aL=>?_);have ag:=z.trans aL;have O:=aK.trans aL;refine dP.jj (l0:=(20,i64 A)::(21,i64 B)::(18,i64 A)::(19,i64 B)::pL gs ls ss k ab ka c.l.length kc) (by trivial) (dP.gN ?_);refine dD dC<|po (O.at_ af)<|gB k E<|dl (ag.cell qs)<| .rel (BG ll P Z) s2 (λJ e=>iM (Bc (dc:=d) (lc:=kc) (ao.ext (O.trans e)) cL (an.row.ext (O.trans e)) cL c.s) (λw' h=>.inr ⟨rfl,h⟩) λu w2 ⟨Q,h⟩=>⟨by grind [LO],Q⟩)<| .rel (BG ll P Z) s2 Xx ?_;refine .rel (HY ll P) s1 (by rintro _ _ _ ⟨x,y,rfl,h⟩;exact⟨⟨x,y,rfl,h⟩,Ext.refl _⟩) ?_;refine .rel (QX Z) QX.st (by rintro _ _ _ ⟨_,_,rfl,_⟩;exact gd) ?_;refine .rel (HY ll P) s1 (by(repeat intro _);exact⟨cK,Ext.refl _⟩) ?_;refine .rel (QX Z) QX.st (by(repeat intro _);exact⟨cK,Ext.refl _⟩) ?_;rintro bL aM _ rfl _ ⟨xa,xc,rfl,bd⟩;repeat intro _
 have C:=ag.trans aM;have ap:=O.trans aM;refine dP.jj (l0:=(22,.slice xa P.length xc)::(23,i64 Z)::(20,i64 A)::(21,i64 B)::(18,i64 A)::(19,i64 B)::pL gs ls ss k ab ka c.l.length kc) (by trivial) (dP.gN ?_);refine dD dC<|jq k 7 E<|xV (C.cl qg)<|gB k E<|dl (C.cell ql)<|gB k E<|dl (C.cell qs)<| .rel (BG ll P Z) s2 (λJ e=>cX (J4 (dc:=c.dc) (gI.row.ext (C.trans e)) cL (lI.row.ext (C.trans e)) cL lI.cap c.s) λu w2 ⟨Q,h⟩=>⟨by grind [LO],Q⟩)<| .rel (BG ll P Z) s2 Xx ?_;refine .rel (HY ll P) s1 (by rintro _ _ _ ⟨x,y,rfl,h⟩;exact⟨⟨x,y,rfl,h⟩,Ext.refl _⟩) ?_;refine .rel (QX Z) QX.st (by rintro _ _ _ ⟨_,_,rfl,_⟩;exact gd) ?_;refine .rel (HY ll P) s1 (by(repeat intro _);exact⟨cK,Ext.refl _⟩) ?_;refine .rel (QX Z) QX.st (by(repeat intro _);exact⟨cK,Ext.refl _⟩) ?_;rintro bM aq _ rfl _ ⟨va,vc,rfl,be⟩;repeat intro _
 have F:=C.trans aq;have T:=ap.trans aq;refine dP.jj (l0:=(24,.slice va P.length vc)::(25,i64 Z)::(22,.slice xa P.length xc)::(23,i64 Z)::(20,i64 A)::(21,i64 B)::(18,i64 A)::(19,i64 B)::pL gs ls ss k ab ka c.l.length kc) (by trivial) (dP.gN ?_);refine dD dC<|J0 (lh rfl<|J0<|lh rfl<|J0<|lh rfl ?_);refine ik _ (λw e=>Ri ((ll.QU bd aq).QU e) (ll.QU be e) aJ)<|mY<|lh rfl<|po (T.at_ af)<|jq k 7 E<|xV (F.cl qg)<|ik _ (λw e=>Cb (ao.ext (T.trans e)) (gI.row.ext (F.trans e)) cL)<|mY<|lh rfl<|gB k E<|dl (F.cell ql)<|ik _ (λw e=>HU (an.row.ext (T.trans e)) (lI.row.ext (F.trans e)) cL)<|mY ?_;intro bN bf;exact dP.of dr (lh rfl (dP.of dr (cW ⟨cL,(),by trivial,aj.trans (F.trans bf)⟩)))
end Go.Proofs.W
namespace Go.Proofs.W
open Go.Conc Go.dz Go.RowKit
noncomputable def V8(L:cM)(f:Nat):Bool:=f==163||okF L false (λ_=>false) f
abbrev kO:=Array (Nat×Nat)
def kO.sh(a:kO)(b:Nat):Option Nat:=(a[b]?).map (·.2)
def kO.r(a:kO)(b c:Nat):Prop:=∃n,a[b]? =some (c,n)
def kO.nJ{a:kO}(b c d:Nat)(h:a.r b c)(e:a.r b d):c=d:=by have⟨n,h⟩:=h;have⟨m,e⟩:=e;grind
def kO.pZ{a:kO}(b d c:Nat)(h:a.r b c)(e:a.r d c):b=d\/(a.sh b≠none/\a.sh d≠none):=by have⟨n,h⟩:=h;have⟨m,e⟩:=e;grind [kO.sh]
noncomputable def TV(L:cM)(a:kO):dO where
 S:=λg=>L.contains g
 dim:=false
 ok:=λf=>iE V.prog (λg=>L.contains g) false false
 df:=λ_=>false
 fs:=PR.funcs
 hole:=λf=>f==163
 sh:=a.sh
 r:=a.r
 nJ:=kO.nJ
 pZ:=kO.pZ
def Fe(h:l.all (V8 l)=true)(f:Nat)(b:l.contains f=true)(d:f≠163):
 ∃a c,V.prog.funcs[f]? =some a/\a.body=some c/\iE V.prog (λg=>l.contains g) false false c=true/\(a.name== "runtime.NumGoroutine")=false:=by
 have:=nz.1 h f (eV b);unfold V8 at this;rw[show(f==163)=false by grind,Bool.false_or]at this;unfold okF at this;grind
def TW:(V.f163.name== "runtime.NumGoroutine")=false:=eE
def Rk:(Tryz.f163.name== "runtime.NumGoroutine")=false:=eE
def Rl:∃c,Tryz.f163.body=some c:=⟨_,Af⟩
def NS{j:kO}(h:l.all (V8 l)=true):Go.dz.Good V.prog (TV l j):=by
 refine⟨⟨V.zero,λf a=>?_,V.F8,Cx _,V.bad⟩,rfl,λf a k=>?_,⟨λf a=>?_⟩,λ⟨f,a⟩=>by cases a⟩;by_cases e:f=163;subst e;exact⟨V.f163,V.zq,V.func163,TW,rfl⟩;have⟨b,c,d,g,_,i⟩:=Fe h f a e;grind;have e:f≠163:=λe=>by subst e;cases k
 have⟨b,c,d,g,m,_⟩:=Fe h f a e;exact⟨b,c,d,g,m⟩;by_cases e:f=163;subst e;have⟨c,n⟩:=Rl;exact⟨Tryz.f163,c,Tryz.func163,Rk,n,λh=>by cases h⟩;have⟨b,c,d,g,_,i⟩:=Fe h f a e;exact⟨b,c,(V.zr f e).symm.trans d,i,g,cK⟩
noncomputable def Rm(L:cM)(df:Nat->Bool)(a:kO):dO where
 S:=λg=>L.contains g
 dim:=false
 ok:=λf=>iE V.prog (λg=>L.contains g) false (df f)
 df:=df
 fs:=V.prog.funcs
 hole:=λ_=>false
 sh:=a.sh
 r:=a.r
 nJ:=kO.nJ
 pZ:=kO.pZ
def Rn(b:R.fs=P.funcs)(h:∀f,R.S f=true->∃a c,P.funcs[f]? =some a/\(a.name== "runtime.NumGoroutine")=false/\a.body=some c):RL P R:=⟨cK⟩
def NT{b:Nat->Bool}{i:kO}(h:l.all (okF l false b)=true):Go.dz.Good V.prog (Rm l b i):=by refine⟨V.fit h,rfl,λf a _=>?_,Rn (by grind [Rm]) λf a=>?_,λ_ _=>rfl⟩;have⟨d,c,e,g,j,_⟩:=wh h f a;exact⟨d,c,e,g,j⟩;have⟨d,c,e,g,_,k⟩:=wh h f a;grind
def runNT_then{a b:Machine}{t c:Trace}(h:runNT P m a t=(.next b,c)):runNT P (m+k) a t=runNT P k b c:=by
 induction m generalizing a t with
 |zero=>
  simp only[runNT]at h;grind
 |succ m f=>
  rw[show m+1+k=(m+k)+1 from cL];simp only[runNT]at h⊢;cases d:stepT P a with
  |mk s e=>
   rw[d]at h;cases s with
   |next g=>grind
   |ended o w=>grind
def TX(e:Ending)(a:cI):Prop:=e=.returned (.bool true)\/(e=.panicked jU/\UE a)
def Ro{z:Nat->Bool}(hL:l.all (V8 l)=true)(ac:f.all (okF f false z)=true){fn:Func}{tm:Tmp}(hf:V.prog.funcs[K]? =some fn)(ad:fn.results=#[.tmp tm])(s:K≠163)(ae:l.contains K=true)(af:f.contains K=true) (ag:PR.inits.idxOf? K=none){k v:cI}{ws:kO} (t:∀b c n:Nat,ws[b]? =some (c,n)->∃o J,v.heap[b]? =some o/\k.heap[c]? =some J/\∀p:dO,p.r=ws.r->p.sh=ws.sh->Wc p n o J)(R:∀p:dO,p.r=ws.r->p.sh=ws.sh->fW p X W) (hC:∀T:Ta,Go.dz.Below v T->Calls V.prog K X (du v T) TX):∃N last o q t',runNT PR (N+1) (solo (G (Frame.enter PR K W .normal) []) k) #[]=(.ended o q,t')/\runN PR N (solo (G (Frame.enter PR K W .normal) []) k)=.next last/\Go.step PR last=.ended o q/\
  Go.Conc.Good PR (λx q=>x=.bool true/\Go.RowKit.Below k.heap.size k q) last o q t':=by
 have S:Go.dz.Good jS (TV l ws):=NS hL;have am:ws.size<=v.lH:=Nat.le_of_not_lt λh=>by have⟨_,_,y,_⟩:=t v.lH _ _ (nw h);exact Nat.lt_irrefl _ (lt_of_heap y)
 have F:∀b,v.lH<=b->ws.sh b=none:=λb hb=>by unfold kO.sh;rw[uI cL];rfl
 have H:∀(p:dO),p.r=ws.r->p.sh=ws.sh->∀b c,ws.r b c->∃o J,v.heap[b]? =some o/\k.heap[c]? =some J/\Kf p (ws.sh b) o J:=λp y A b c ⟨n,P⟩=>by have⟨o,J,B,h4,h5⟩:=t b c n P;exact⟨o,J,B,h4,.inr ⟨n,by unfold kO.sh;rw[P];rfl,h5 p y A⟩⟩
 have U:Go.dz.Good jS (Rm f z ws):=NT ac;have ev:(V.prog.jg PR.funcs)=PR:=Sn;have I:Inv jS ⟨Frame.enter jS K X .normal,[floor],v⟩:=by
  have h:Inv jS ⟨Frame.enter jS K X .normal,[floor],du v (sL v k)⟩:=
   ⟨Rm f z ws,k,G (Frame.enter (V.prog.jg (Rm f z ws).fs) K W .normal) [],U,λ_=>rfl,WR.sL ⟨H _ rfl rfl,F⟩,tZ U af (R _ rfl rfl) .normal (.inl rfl),⟨[],[],rfl,rfl,.nil⟩,⟨rfl,rfl⟩,⟨rfl,rfl⟩,⟨rfl,rfl⟩⟩
  exact h.du v.tape
 have C:Go.dz.Reach jS (uT K (λx _=>x=.bool true)) ⟨Frame.enter jS K X .normal,[floor],v⟩:=by refine sW uT.callers (λc T hi Q=>?_) I λT hT=>?_;obtain Q|⟨y,A,B,h4,h5⟩:=Q;exact .inl (Go.dz.Left.du (λx w T h=>h) c T hi Q);exact .inr ⟨y,A,B,h4,h5.du T⟩;have⟨e,q,fr,Y,Q,Z,hl⟩:=hC T hT [floor];obtain rfl|⟨rfl,Y⟩:=Y;have⟨n,hn⟩:=Q;exact⟨n,fr,[floor],q,hn,.inl ⟨rfl,Z,_,rfl,hl⟩⟩;have⟨n,hn⟩:=Q;exact⟨n,fr,[floor],q,hn,.inr ⟨rfl,Z,hl.1,hl.2.1,Y⟩⟩
 have hI:FF jS PR.funcs k (TV l ws) (λ_=>False) ⟨Frame.enter jS K X .normal,[floor],v⟩ #[G (Frame.enter (V.prog.jg PR.funcs) K W .normal) []] (G (Frame.enter (V.prog.jg PR.funcs) K W .normal) []) k #[] (λ_=>0):=by
  refine⟨I,S,rfl,rfl,⟨tZ S ae (R _ rfl rfl) .normal (.inl rfl),⟨[],[],rfl,rfl,.nil⟩,⟨rfl,rfl⟩,⟨rfl,rfl⟩,⟨rfl,rfl⟩⟩,⟨H _ rfl rfl,F⟩,⟨λi g hi hg=>?_,λj _=>Go.ConcN.Deaf_absent dt⟩,?_,λb h=>h.elim,λ_ _ _ h=>h,λb c P hc=>?_,dg _,λ_ _=>rfl,⟨rfl,rfl,rfl⟩,⟨λg hg=>?_,rfl,λ⟨g,hg⟩=>by cases hg⟩⟩;have:i<1:=(iS.1 hg).1;omega;have h:=past_nil;exact⟨h.clean,λi a ha hm=>by simp[touchAt,Trace.act?]at ha,h.over,h.hears,λop ah=>by simp at ah⟩;have⟨n,P⟩:=P;have⟨_,_,y,_,A⟩:=t b c n P;obtain⟨cs,fz,_,_,_,rfl,_,B,_⟩:=(A (TV l ws) rfl rfl).out;exact⟨cs,uZ,fz,y,B⟩;have e:g=163:=by have:(g==163)=true:=hg;simpa using this
  subst e;rw[V.func163,show PR.funcs[163]? =some Tryz.f163 from Tryz.func163];intro e;have:=dE Func.ntmps (dQ e);rw[Tryz.ntmps163]at this;cases this
 have⟨N,ai,q,aa,t',q',L,O,X',a',r1,D,r3,_⟩:=lead (fs:=PR.funcs) uT.callers (S9 Nk s k) _ C _ _ _ _ _ none _ _ hI
 have aj:Go.dz.Left jS K (λx _=>x=.bool true) L.fr L.cl L.v:=by
  obtain h|⟨y,A,B,h4,h5⟩:=r3;exact h;exfalso;have E:eN jS O L.fr a'.frame:=by
   have u:=D.gor.fr;generalize E:(G L.fr L.cl).frame=fr at u;generalize al:a'.frame=an at u;cases u with
   |fr hf=>subst E;exact hf
   | @hole g hS hh X ao hx=>
    have:L.fr=Frame.enter jS g X .normal:=E;rw[this]at B;cases B
  have hm:=E.mode;rw[B]at hm;generalize a'.frame.mode=m at hm;cases hm with
  |panicking hc=>
   unfold jU at hc;cases hc with
   |cons Y _=>
    obtain h|h:=Y.ok;exact D.holes.2.2 h;exact h 3 _ _ rfl
 have ak:O.hole K=false:=by
  cases h:O.hole K with
  |false=>rfl
  |true=>
   exfalso;exact D.holes.1 K h (V.zr K s)
 have⟨M,last,o,w2,t2,s1,s2,s3,s4⟩:=D.ends (sl:=aa) aj hf ad ak (by rw[ev];exact ag) (Post:=λx q=>x=.bool true/\Go.RowKit.Below k.lH k q) λx x' d hx hv=>by subst hx;cases hv;exact⟨rfl,D.world.2.1,D.world.1,D.world.2.2,D.grown,λb hb=>D.kept b hb⟩
 rw[ev]at r1 s1 s2 s3 s4;have ab:runNT PR (N+(M+1)) (solo (G (Frame.enter PR K W .normal) []) k) #[]=(.ended o w2,t2):=(runNT_then r1).trans s1;refine⟨N+M,last,o,w2,t2,ab,?_,s3,s4⟩;have y:runNT PR (N+M) (solo (G (Frame.enter PR K W .normal) []) k) #[]=runNT PR M (crowd ai q aa) t':=runNT_then r1;have A:=runNT_fst PR (N+M) (solo (G (Frame.enter PR K W .normal) []) k) #[];rw[y,runNT_fst,s2]at A;exact A.symm
inductive VW (ws:kO):cJ->cJ->Prop
 |bool (b:Bool):VW ws (.bool b) (.bool b)
 |int (k:IntKind) (n:Int):VW ws (.int k n) (.int k n)
 |nil (l c:Nat):VW ws (.slice none l c) (.slice none l c)
 |slice {j b n:Nat} (l c:Nat) (h:ws[j]? =some (b,n)):VW ws (.slice (some ⟨j,0,none⟩) l c) (.slice (some ⟨b,n,none⟩) l c)
def Fl{c:Type}(a b:Array c):Prop:=∀(j:Nat) p,a[j]? =some p->b[j]? =some p
def Fl.refl{b:Type}(a:Array b):Fl a a:=λ_ _ h=>h
theorem Fl.trans{d:Type}{a b c:Array d}(h:Fl a b)(k:Fl b c):Fl a c:=λj p x=>k j p (h j p x)
theorem Fl.push{b:Type}(a:Array b)(x:b):Fl a (a.push x):=λj p h=>by rw[sg,cR (Nat.ne_of_lt (iS.1 h).1)];exact h
def VW.mono{e d:kO}(h:VW e x y)(k:Fl e d):VW d x y:=by
 cases h with
 |bool b=>exact .bool b
 |int a b=>exact .int a b
 |nil l c=>exact .nil l c
 |slice l c h=>exact .slice l c (k _ _ h)
def VW.vr{d:kO}(h:VW d x y){ρ:dO}(e:ρ.r=d.r)(f:ρ.sh=d.sh):VR ρ x y:=by
 cases h with
 |bool b=>exact .bool b
 |int a b=>exact .int a b
 |nil l c=>exact .gE l c
 | @slice j b n l c h=>
  refine .slice l c ?_;have:=AR.mk (ρ:=ρ) (b:=j) (c:=b) 0 none (by rw[e];exact⟨n,h⟩);rw[f,kO.sh,h,dj]at this;exact this
inductive Fo (ws:kO):List cJ->List cJ->Prop
 |nil:Fo ws [] []
 |cons {x y:cJ} {l m:List cJ} (h:VW ws x y) (t:Fo ws l m):Fo ws (x::l) (y::m)
theorem Fo.length{a:kO}(h:Fo a M Y):M.length=Y.length:=by
 induction h with
 |nil=>rfl
 |cons _ _ b=>simp[b]
def Fo.get{b:kO}(h:Fo b M Y):∀{i:Nat} {x:cJ},M[i]? =some x->∃y,Y[i]? =some y/\VW b x y:=by
 induction h with
 |nil=>intro i x h;simp at h
 | @cons x y M Y h t c=>
  intro i z a;cases i with
  |zero=>simp at a;subst a;exact⟨y,rfl,h⟩
  |succ i=>simp at a;have⟨y,d,e⟩:=c a;exact⟨y,eV d,e⟩
theorem Fo.mono{b a:kO}(h:Fo b M Y)(k:Fl b a):Fo a M Y:=by
 induction h with
 |nil=>exact .nil
 |cons h _ c=>exact .cons (h.mono k) c
def Fo.Z6{a:kO}{l m:dN}(h:Fo a l m)(b:R.r=a.r)(c:R.sh=a.sh):fW R l.toArray m.toArray:=by
 refine fW.mq ?_;simp only;induction h with
 |nil=>exact .nil
 |cons h _ d=>exact .cons (h.vr b c) d
theorem Fo.self{a:kO}:∀{l:dN},(∀x∈l,VW a x x)->Fo a l l
 |[],_=>.nil
 |x::l,h=>.cons (h x dt) (Fo.self λy b=>h y (by simp[b]))
structure Seen(W:cI)(ws:kO)(vs:Array (Array cJ)):Prop where
 size:vs.size=ws.size
 at_:∀(j b n:Nat),ws[j]? =some (b,n)->∃cs tX t fz,vs[j]? =some cs/\W.heap[b]? =some (.cells tX t fz)/\∀(i:Nat) x,cs[i]? =some x->∃y,tX[i+n]? =some y/\VW ws x y
def Ih(c:Array eF)(a:dV)(d:dN):Prop:=∀(k:Nat) x,d[k]? =some x->∃j b,a=some ⟨j,0,none⟩/\c[j]? =some b/\b[k]? =some x
def Ih.mono{c b:Array eF}(h:Ih c a M)(k:Fl c b):Ih b a M:=λi x d=>by have⟨j,e,f,g,l⟩:=h i x d;exact⟨j,e,f,k _ _ g,l⟩
def Seen.none(W:cI):Seen W #[] #[]:=⟨rfl,λj b n h=>by simp at h⟩
theorem Seen.add{d:kO}{u:Array eF}(h:Seen w d u)(o p:Nat)(z:Fo d M Y) (L:∀s,a=some s->s.spot=.none/\(∃x,w.shape? s.block=some x)/\∀(i:Nat) y,Y[i]? =some y->w.cell? (s.add i)=some y)(N:a=.none->M=[]):∃q r A,Seen w q r/\Fl d q/\Fl u r/\VW q (.slice A o p) (.slice a o p)/\Ih r A M/\(A=.none->a=.none):=by
 cases a with
 |none=>
  obtain rfl:=N rfl;exact⟨d,u,.none,h,.refl _,.refl _,.nil _ _,λk x g=>by simp at g,λh=>h⟩
 |some s=>
  have⟨b,l,I⟩:=s;obtain⟨rfl,⟨x,g⟩,O⟩:=L _ rfl;have⟨B,t,C,J⟩:∃B t C,w.heap[b]? =some (.cells B t C):=by simp only[World.shape?]at g;split at g;rename_i c e f h;exact⟨c,e,f,h⟩;cases g
  have D:=Fl.push d (b,l);have P:(d.push (b,l))[d.size]? =some (b,l):=dt;have K:(u.push M.toArray)[d.size]? =some M.toArray:=by simp[<-h.size]
  refine⟨d.push (b,l),u.push M.toArray,some ⟨d.size,0,.none⟩,⟨by simp[h.size],λj c n m=>?_⟩,D,Fl.push _ _,.slice o p P,λk x g=>⟨d.size,_,rfl,K,eV g⟩,λe=>by cases e⟩;rw[sg]at m;split at m;rename_i e;subst e;cases m;refine⟨M.toArray,B,t,C,K,J,λi x g=>?_⟩;have⟨y,E,F⟩:=z.get (i:=i) (x:=x) (eV g);have v:=O i y E;rw[iq]at v;simp only[World.cell?,J]at v;refine⟨y,?_,F.mono D⟩;rw[Nat.add_comm];simpa using v;have⟨G,H,Q,R,E,F,v⟩:=h.at_ j c n m;refine⟨G,H,Q,R,Fl.push _ _ _ _ E,F,λi x g=>?_⟩;have⟨y,S,T⟩:=v i x g;exact⟨y,S,T.mono D⟩
def Rp(b:Array eF)(w:cI):Prop:=∀(j:Nat) a,b[j]? =some a->w.heap[j]? =some (.cells a uZ (0,a.size))
def Ih.cell{b:Array eF}(h:Ih b a M)(c:Rp b w)(k:Nat)(d:M[k]? =some x):∃j,a=some ⟨j,0,.none⟩/\w.cell? ⟨j,k,.none⟩=some x:=by have⟨j,e,f,g,i⟩:=h k x d;exact⟨j,f,by simp only[World.cell?,c j e g];simpa using i⟩
def NU{k:Nat->Bool}(H:l.all (V8 l)=true)(m:f.all (okF f false k)=true){E:Func}{tm:Tmp}(I:V.prog.funcs[K]? =some E)(p:E.results=#[.tmp tm])(c:K≠163)(q:l.contains K=true)(s:f.contains K=true) (u:PR.inits.idxOf? K=none){ws:kO}{z:Array eF}(J:Seen w ws z){xs args:eF}(A:∀g:dO,g.r=ws.r->g.sh=ws.sh->fW g xs args)
 (L:∀B:cI,Rp z B->Calls V.prog K xs B (vw λv a=>v=.bool true/\Ext B a)):
 ∃N last o a F,runNT PR (N+1) (solo (G (Frame.enter PR K args .normal) []) w) #[]=(.ended o a,F)/\runN PR N (solo (G (Frame.enter PR K args .normal) []) w)=.next last/\Go.step PR last=.ended o a/\Go.Conc.Good PR (λx a=>x=.bool true/\Go.RowKit.Below w.heap.size w a) last o a F:=by
 refine Ro (v:={w with heap:=z.map λd=>.cells d uZ (0,d.size)}) (ws:=ws) H m I p c q s u (λj b n C=>?_) A λT Y=>?_;have⟨d,M,t,Z,O,P,Q⟩:=J.at_ j b n C;refine⟨.cells d uZ (0,d.size),_,by simp[O],P,λg R D=>⟨_,_,_,_,_,rfl,rfl,λo S=>⟨gi _,S⟩,λi x U=>?_⟩⟩;have⟨y,W,X⟩:=Q i x U;exact⟨y,W,X.vr R D⟩;refine(L _ λj d C=>?_).mono λe a h=>?_;simp[du,C];obtain⟨v,rfl,rfl,_⟩|h:=h;exact .inl rfl;exact .inr h
end Go.Proofs.W
namespace Go.Proofs.YteeagjkaflglpaaGreat
open Go.ChangeShapes Go.WideShapes Go.ChangeAt Go.RowKit Go.Conc Go.Proofs.W Go.Deep
section
variable{H:Type}{enc:cQ×cJ->H}{w:cI}{sp:Nat->Bool}{b0:Nat}
structure Given{α:Type}(w:cI)(f:α->List cJ)(a:Option Addr)(cap:Nat)(xs:List α):Prop where
 cap:xs.length<=cap
 len:xs.length<=9223372036854775807
 nil:a=none->xs=[]
 at_:∀ad,a=some ad->ad.spot=none/\(∃x,w.shape? ad.block=some x)/\∀(i:Nat) y,(xs.flatMap f)[i]? =some y->w.cell? (ad.add i)=some y
def tV{α:Type} [Inhabited α]{f:α->dN}{n:Nat}{t e:cQ}(C:0<n)(q:∀x,(f x).length=n)(E:Tryz.prog.underlying t=some (.slice e))(M:Tryz.prog.cellsOf e=n) (r:∀{k:Nat} {s:dN} {x:DataW H×List MemPlace},DataW.trod enc Tryz.prog w 0 sp true k e s=some x->∃y,s=f y){v:cJ}{o:Nat}{x:DataW H×List MemPlace}(u:Value.okWide Tryz.prog w .any b0 t v)(h:DataW.trod enc Tryz.prog w 0 sp true o t [v]=some x):∃a g F,v=.slice a F.length g/\Given w f a g F:=by
 obtain⟨d,_⟩|⟨a,b,g,m,k,D,W,d,_,N,O,z,_,P⟩:=open_slice E h;have d:=(List.cons.inj d).1;exact⟨none,0,[],d,⟨gi _,gi _,λ_=>rfl,λQ e=>by cases e⟩⟩;have d:=(List.cons.inj d).1;subst d;have⟨R,S⟩:=LX E u;have T:b<=m:=by rw[z];split<;>omega
 have⟨X,U⟩:=choose_lt (α:=α) (n:=b) (p:=λi y=>w.cells? 0 (a.add (i*n)) n=some (f y)) λi A=>by have⟨s,d,V⟩:=P i cL;obtain⟨y,rfl⟩:=r V;rw[M]at d;exact⟨y,d⟩
 have c:((List.range b).map X).length=b:=dt;refine⟨some a,g,(List.range b).map X,by rw[c],⟨by rw[c];exact N,by rw[c];simp only[maxLen]at O;omega,λe=>(by cases e),λQ e=>?_⟩⟩;cases e;refine⟨R,S,λi y G=>?_⟩;have A:=(kX.1 G).1;rw[Bv q,c]at A;have I:i/n<b:=(Nat.div_lt_iff_lt_mul C).2 A;have J:=Nat.mod_lt i C;have j:=Nat.div_add_mod i n;rw[Nat.mul_comm]at j;have⟨_,_,l⟩:=World.cells?_some (U (i/n) I);have K:=l (i%n) J;rw[add_add,j]at K;rw[K];have B:i%n<(f ((List.range b).map X)[i/n]).length:=by rw[q];exact J
 have L:=r9 q ((List.range b).map X) (i/n) (by rw[c];exact I) (i%n) _ (eZ B);rw[j,G]at L;rw[dQ L];simp only[List.getElem_map,List.getElem_range];exact eZ _
def BS{t:cQ}{k:Nat}{d:dN}{x:DataW H×List MemPlace}(j:Tryz.prog.underlying t=some (.struct (Tryz.prog.fieldsOf t)))(h:DataW.trod enc Tryz.prog w 0 sp true k t d=some x){l:List (cQ×Nat)}(m:(Tryz.prog.fieldsOf t).toList.map (λf=>(f.type,f.offset))=l)(i:Nat){u:cQ}{o:Nat}(e:l[i]? =some (u,o)):
 ∃k y,DataW.trod enc Tryz.prog w 0 sp true k u ((d.drop o).take (Tryz.prog.cellsOf u))=some y:=by
 have⟨p,n,_,_,q,b,r⟩:=DataW.trod_struct j h;subst m;rw[sN]at e;have⟨g,a,s⟩:=iC.1 e;have a:(Tryz.prog.fieldsOf t)[i]? =some g:=eV a;have c:i<p.length:=by rw[b];exact(iS.1 a).1
 have:=r i g a;rw[eZ c]at this;cases s;exact⟨n,_,this⟩
def VU:Tryz.prog.cellsOf 4=1:=eE
def LP:Tryz.prog.cellsOf 84=3:=eE
def LQ:Tryz.prog.cellsOf 81=3:=eE
def TY:Tryz.prog.cellsOf 24=7:=eE
def TZ:Tryz.prog.cellsOf 22=1:=eE
def LR:Tryz.prog.underlying 84=some (.struct (Tryz.prog.fieldsOf 84)):=eE
def LU:Tryz.prog.underlying 81=some (.struct (Tryz.prog.fieldsOf 81)):=eE
def wX:Tryz.prog.underlying 24=some (.struct (Tryz.prog.fieldsOf 24)):=eE
def UQ:Tryz.prog.underlying 22=some (.slice 81):=eE
def UR:Tryz.prog.underlying 25=some (.slice 84):=eE
def J5:(Tryz.prog.fieldsOf 84).toList.map (λf=>(f.type,f.offset))=[(3,0),(3,1),(4,2)]:=eE
def J6:(Tryz.prog.fieldsOf 81).toList.map (λf=>(f.type,f.offset))=[(3,0),(3,1),(3,2)]:=eE
def vM:(Tryz.prog.fieldsOf 24).toList.map (λf=>(f.type,f.offset))=[(3,0),(3,1),(3,2),(3,3),(3,4),(3,5),(22,6)]:=eE
def pr{k i o:Nat}{t:cQ}{a:dN}{x:DataW H×List MemPlace}(c:Tryz.prog.underlying t=some (.struct (Tryz.prog.fieldsOf t)))(h:DataW.trod enc Tryz.prog w 0 sp true k t a=some x){l:List (cQ×Nat)}(d:(Tryz.prog.fieldsOf t).toList.map (λf=>(f.type,f.offset))=l)(e:l[i]? =some (3,o)):∃n,a[o]? =some (.int .i64 n):=by have⟨k,y,g⟩:=BS c h d i e;have⟨n,b,_⟩:=DataW.trod_int Tryz.LW g;rw[Tryz.Oj]at b;refine⟨n,?_⟩;have j:=dE (λl:dN=>l[0]?) b;simpa using j
def J7{t:cQ}{k:Nat}{b:dN}{x:DataW H×List MemPlace}(c:Tryz.prog.underlying t=some (.struct (Tryz.prog.fieldsOf t)))(h:DataW.trod enc Tryz.prog w 0 sp true k t b=some x):b.length=Tryz.prog.cellsOf t:=by have⟨d,n,_,_,a,_⟩:=DataW.trod_struct c h;exact a
def Rq{k:Nat}{d:dN}{x:DataW H×List MemPlace}(h:DataW.trod enc Tryz.prog w 0 sp true k 84 d=some x):∃q:Tq,d=uS q:=by
 have⟨a,f⟩:=pr LR h J5 (i:=0) rfl;have⟨b,g⟩:=pr LR h J5 (i:=1) rfl;have⟨m,y,l⟩:=BS LR h J5 2 rfl;have⟨c,e,_⟩:=DataW.trod_bool Tryz.Wb l;have j:=J7 LR h;rw[LP]at j;rw[VU]at e;match d,j with
 |[u,v,z],_=>
  simp at f g e;exact⟨⟨a,b,c⟩,by simp[uS,f,g,e]⟩
def NV{k:Nat}{d:dN}{x:DataW H×List MemPlace}(h:DataW.trod enc Tryz.prog w 0 sp true k 81 d=some x):∃q:Dr,d=dL q:=by
 have⟨a,e⟩:=pr LU h J6 (i:=0) rfl;have⟨b,f⟩:=pr LU h J6 (i:=1) rfl;have⟨c,g⟩:=pr LU h J6 (i:=2) rfl;have j:=J7 LU h;rw[LQ]at j;match d,j with
 |[u,v,z],_=>
  simp at e f g;exact⟨⟨a,b,c⟩,by simp[dL,e,f,g]⟩
instance:Inhabited Tq:=⟨⟨0,0,false⟩⟩
instance:Inhabited Dr:=⟨⟨0,0,0⟩⟩
def J8{v:cJ}{d:DataW H}{p:List MemPlace}(c:Value.okWide Tryz.prog w .any b0 27 v)(h:DataW.Trod enc Tryz.prog w 0 sp true 27 v d p):∃a b e,v=.slice a e.length b/\Given w iL a b e:=by obtain⟨a,g,b,rfl⟩:=okWide_slice Tryz.x6 c;have⟨k,h⟩:=h;exact tV (f:=iL) (n:=1) kA (λ_=>rfl) Tryz.x6 Tryz.Oj (λh=>by have⟨n,i,_⟩:=DataW.trod_int Tryz.LW h;exact⟨n,i⟩) c h
def NW{v:cJ}{d:DataW H}{p:List MemPlace}(c:Value.okWide Tryz.prog w .any b0 25 v)(h:DataW.Trod enc Tryz.prog w 0 sp true 25 v d p):∃a b e,v=.slice a e.length b/\Given w uS a b e:=by obtain⟨a,g,b,rfl⟩:=okWide_slice UR c;have⟨k,h⟩:=h;exact tV (f:=uS) (n:=3) kA (λ_=>rfl) UR LP Rq c h
def NX{v:cJ}(a:Value.okWide Tryz.prog w .any b0 3 v):∃n,v=.int .i64 n:=okWide_int Tryz.LW a
def T1:Tryz.prog.cellTypes Tryz.prog.depth 24=some [3,3,3,3,3,3,22]:=eE
def Ff{v:cJ}{d:DataW H}{p:List MemPlace}(c:Value.okWide Tryz.prog w .any b0 24 v)(h:DataW.Trod enc Tryz.prog w 0 sp true 24 v d p):∃G a b,v=gV G a b/\Given w dL a b G.doors:=by
 simp only[Value.okWide,wX]at c;obtain⟨l,rfl,B,O,e,_,g⟩:=c;rw[T1]at e;cases e;have⟨k,h⟩:=h;have h:DataW.trod enc Tryz.prog w 0 sp true k 24 l.toList=some (d,p):=h;have⟨C,o⟩:=pr wX h vM (i:=0) rfl;have⟨D,q⟩:=pr wX h vM (i:=1) rfl;have⟨E,r⟩:=pr wX h vM (i:=2) rfl;have⟨F,s⟩:=pr wX h vM (i:=3) rfl;have⟨I,t⟩:=pr wX h vM (i:=4) rfl;have⟨J,x⟩:=pr wX h vM (i:=5) rfl;have⟨P,y,m⟩:=BS wX h vM 6 rfl;rw[TZ]at m;have z:=J7 wX h;rw[TY]at z;have⟨l⟩:=l;match l,z with
 |[Q,R,S,T,U,V,A],_=>
  simp at o q r s t x m;subst o q r s t x;have⟨u,K,L⟩:=g 6 A rfl;cases K;have j:Value.okWide Tryz.prog w .any b0 22 A:=by simp only[Value.okWide,UQ];exact L
  obtain⟨a,b,M,rfl,N⟩:=tV (f:=dL) (n:=3) kA (λ_=>rfl) UQ LQ NV j m;exact⟨⟨C,D,E,F,I,J,M⟩,a,b,rfl,N⟩
end
def Given.seen{m:Type}{f:m->dN}{W:cI}{g:Nat}{i:List m}(h:Given W f a g i){o:kO}{p:Array eF}(q:Seen W o p)(r:∀x,∀u∈f x,(∃k n,u=.int k n)\/∃b,u=.bool b):∃c d j,Seen W c d/\Fl o c/\Fl p d/\VW c (.slice j i.length g) (.slice a i.length g)/\Ih d j (i.flatMap f)/\(j=none->i.length=0):=by have⟨c,d,j,s,t,v,w,y,z⟩:=q.add (a:=a) i.iN g (Fo.self (l:=i.flatMap f) λu A=>by have⟨x,_,B⟩:=lq.1 A;obtain⟨k,n,rfl⟩|⟨b,rfl⟩:=r x u B;exact .int _ _;exact .bool _) h.at_ (λe=>by rw[h.nil e];rfl);exact⟨c,d,j,s,t,v,w,y,λe=>by rw[h.nil (z e)];rfl⟩
def BT{d:Type}{f:d->dN}{n:Nat}(p:0<n)(c:∀x,(f x).length=n){g:Array eF}{w:cI}{b:List d}(h:Ih g a (b.flatMap f))(l:Rp g w):lT f n w a b:=λk m=>by
 have q:0<(f b[k]).length:=by rw[c];exact p
 have⟨j,e,_⟩:=h.cell l (k*n+0) (r9 c b k m 0 _ (eZ q));refine⟨j,0,e,λi v r=>?_⟩;have⟨t,o,s⟩:=h.cell l (k*n+i) (r9 c b k m i v r);rw[e]at o;cases o;rw[dj];exact s
def Xg{w:cI}{l:List Dr}(h:lT dL 3 w a l):gX w a l:=λk d=>by have⟨b,o,e,c⟩:=h k d;exact⟨b,o,e,c 0 _ rfl,c 1 _ rfl,c 2 _ rfl⟩
def Xh{w:cI}{l:eY}(h:lT iL 1 w a l):kD w a l:=λk c=>by have⟨b,o,e,d⟩:=h k c;have:=d 0 _ rfl;rw[pW]at this;exact⟨b,o,e,this⟩
def T2(x:Dr):∀u∈dL x,(∃k n,u=.int k n)\/∃b,u=.bool b:=λu a=>by simp only[dL,eW,pB,mo]at a;obtain rfl|rfl|rfl:=a<;>exact .inl ⟨_,_,rfl⟩
def T3(x:Int):∀u∈iL x,(∃k n,u=.int k n)\/∃b,u=.bool b:=λu a=>by simp only[iL,eW,pB,mo]at a;rw[a];exact .inl ⟨_,_,rfl⟩
def Rr(x:Tq):∀u∈uS x,(∃k n,u=.int k n)\/∃b,u=.bool b:=λu a=>by simp only[uS,eW,pB,mo]at a;obtain rfl|rfl|rfl:=a;exact .inl ⟨_,_,rfl⟩;exact .inl ⟨_,_,rfl⟩;exact .inr ⟨_,rfl⟩
def Xi{c:kO}{d:dV}{b:Nat}(h:VW c (.slice d N.doors.length b) (.slice a N.doors.length b)){e:Go.dz.dO}(f:e.r=c.r)(g:e.sh=c.sh):Go.dz.VR e (gV N d b) (gV N a b):=
 Go.dz.fW.agg (Fo.Z6 (l:=gL N d b) (m:=gL N a b) (.cons (.int _ _) (.cons (.int _ _) (.cons (.int _ _) (.cons (.int _ _) (.cons (.int _ _) (.cons (.int _ _) (.cons h .nil))))))) f g)
end Go.Proofs.YteeagjkaflglpaaGreat
namespace Go.Proofs.W
open Go.Conc Go.dz Go.RowKit
def Yx(f:Nat):Bool:=f==190||f==163
end Go.Proofs.W
namespace Go.Proofs.W
def Rs:cM:=[5,25,26,27,28,29,30,31,32,34,35,36,37,38,40,41,42,44,46,47,48,49,53,55,58,59,69,71,74,75,76,81,88,93,95,96,97,98,99,100,101,102,103,104,105,106,107,108,109,110,113,114,115,116,117,119,120,121,122,123,125,126,128,129,130,131,133,134,135,137,138,139,140,141,142,143,144,145,146,148,150,151,152,153,154,155,156,157,158,159,160,161,162,163,164,165,166,167,168,169,170,171,172,173,174,175,176,177,178,179,180,181,182,183,184,185,186,195,196,197,198,199,200,201,222,231]
def LV:cM:=[5,25,26,27,28,29,30,31,32,34,35,36,37,38,40,41,42,44,46,47,48,49,53,55,58,59,69,71,74,75,76,81,88,93,95,96,97,98,99,100,101,102,103,104,105,106,107,108,109,110,113,114,115,116,117,119,120,121,122,123,125,126,128,129,130,131,133,134,135,137,138,139,140,141,142,143,144,145,146,148,150,151,152,153,154,155,156,157,158,159,160,161,162,163,164,165,166,167,168,169,170,171,172,173,174,175,176,177,178,179,180,181,182,183,184,185,186,190,194,195,196,197,198,199,200,201,215,216,222,227,228,229,231]
def Rt:Rs.all (V8 Rs)=true:=eE
def NY:LV.all (okF LV false Yx)=true:=eE
end Go.Proofs.W
namespace Go.Proofs.YteeagjkaflglpaaGreat
open Go.ChangeShapes Go.WideShapes Go.ChangeAt Go.RowKit Go.Conc Go.Proofs.W
def NZ{H:Type}{a:cQ×cJ->H}(k:laidOutB P=true)(l:Go.RowKit.Below w.heap.size w t){c:List cQ}(i:(c.all λj=>P.readableRec j&&decide (j<P.types.size))=true):∀{e:dN} {f:List (DataW H)} {g:List MemPlace},DataW.TrodAll a P w 0 (λ_=>true) true c e f g->(∀x∈g,x.block<w.heap.size)->
 DataW.TrodAll a P t 0 (λb=>decide (b<w.heap.size)) true c e f g:=by
 induction c with
 |nil=>
  intro e f g h _;obtain⟨rfl,rfl,rfl⟩:=trodAll_nil h;exact trodAll_mk0
 |cons j c o=>
  intro e f g h m;obtain⟨v,e,d,f,p,q,rfl,rfl,rfl,n,r⟩:=trodAll_cons h;simp only[List.all_cons,eU,j9]at i;exact⟨_,_,(Below.trod k i.1.1 i.1.2 n l cK),cK,rfl⟩
def Fg(L:Os)(e:L.Started)(H:Type)(enc:cQ×cJ->H):ReturnsInLeavingWide {} Tryz.checked L 5 .any (Rows.roundPlansSpec.pre6 enc Tryz.prog Tryz.f5 Rows.roundPlansRow.domain false) (Rows.roundPlansSpec.post enc Tryz.prog Tryz.f5 false true false false):=by
 refine returnsInLeavingWide_of_change_sized (C:=Tryz.checked) Tryz.own e Tryz.func5 (ChangeSpec.witness6 (enc:=enc) (C:=Tryz.checked) false ⟨#[],#[.agg #[i64 0,i64 0,i64 0,i64 0,i64 0,i64 0,fl],fl,i64 0,fl],[]⟩ 8 eE eE eE eE) ?_;intro g r args N gs y h O _ _ _;have c:∀(j:Nat) t v,Tryz.f5.params[j]? =some t->args[j]? =some v->Value.okWide Tryz.prog g .any r t v:=h;have i:=O;obtain⟨p,q,z,hV,rfl,_,_⟩:=O;have P:DataW.TrodAll enc Tryz.prog g 0 (λ_=>true) true Tryz.f5.params.toList args.toList N p:=z;have u:Tryz.f5.params=#[24,25,3,27]:=dt;obtain⟨rfl,rfl⟩:=trodVars_none hV;simp only[List.append_nil]at i;have A:∀x∈p,x.block<g.lH:=λx hx=>eV (i.lt x hx)
 have k:∀(m:cI),Go.RowKit.Below g.lH g m->DataW.TrodAll enc Tryz.prog m 0 (λb=>decide (b<g.lH)) true Tryz.f5.params.toList args.toList N p:=
  λm hn=>NZ Tryz.laidOut hn eE P A
 have a:=P;rw[u]at a c;obtain⟨Q,l,d0,k0,p0,q,e0,rfl,_,h0,a⟩:=trodAll_cons a;obtain⟨R,l,d1,k1,p1,q,rfl,rfl,_,h1,a⟩:=trodAll_cons a;obtain⟨S,l,d2,k2,p2,q,rfl,rfl,_,h2,a⟩:=trodAll_cons a;obtain⟨T,l,d3,k3,p3,q,rfl,rfl,_,h3,a⟩:=trodAll_cons a;obtain⟨rfl,rfl,_⟩:=trodAll_nil a;have ea:args=#[Q,R,S,T]:=cK;subst ea;obtain⟨G,da,U,rfl,W⟩:=Ff (c 0 24 Q rfl rfl) h0;obtain⟨la,X,l,rfl,B⟩:=NW (c 1 25 R rfl rfl) h1;obtain⟨s,rfl⟩:=NX (c 2 3 S rfl rfl);obtain⟨na,Y,Z,rfl,g6⟩:=J8 (c 3 27 T rfl rfl) h3;have⟨aa,ab,D,S0,_,_,W0,R0,N0⟩:=W.seen (Seen.none g) T2;have⟨ac,ad,E,S1,P1,Q1,W1,R1,N1⟩:=B.seen S0 Rr;have⟨ae,af,F,S6,P6,Q6,W6,R6,N6⟩:=g6.seen S1 T3;have⟨M,last,o,w',t',r1,r2,r3,r4⟩:=NU Rt NY (V.fn Tryz.func5 cK) (tm:=8) dt cK kA kA dt S6 (xs:=#[gV G D U,.slice E l.iN X,i64 s,.slice F Z.iN Y]) (args:=#[gV G da U,.slice la l.iN X,i64 s,.slice na Z.iN Y])
  (λρ I J=>Go.dz.fW.mq (.cons (Xi (W0.mono (P1.trans P6)) I J) (.cons ((W1.mono P6).vr I J) (.cons (.int _ _) (.cons (W6.vr I J) .nil)))))
  (λw K=>Fc (Xg (BT (f:=dL) (n:=3) cK (λ_=>rfl) (R0.mono (Q1.trans Q6)) K)) W.len (BT (f:=uS) (n:=3) cK (λ_=>rfl) (R1.mono Q6) K) B.len B.cap N1 s
   (Xh (BT (f:=iL) (n:=1) cK (λ_=>rfl) R6 K)) g6.len)
 refine⟨M,last,o,w',t',r1,r2,r3,r4.mono λv hF=>?_⟩;obtain⟨rfl,d⟩:=hF;exact⟨_,_,_,[],p,[],i,trodAll_mk1 (Go.RowKit.shut_bool Tryz.Wb true),k _ d,rfl,d.frame _,cK⟩
def N4:Tryz.pinned.checked.prog.funcNamed Rows.roundPlansRow.func=some 5:=eE
def Ru:Tryz.f5.isInstance Tryz.pinned.checked.prog Rows.roundPlansRow.origin Rows.roundPlansRow.targs:=fH eE
def Rv:Tryz.f5.isWrapper Tryz.pinned.checked.prog Rows.roundPlansRow.wrapper Rows.roundPlansRow.mainSum:=by unfold Func.isWrapper;first|(rw[cT (by decide+kernel)];kernel_rfl)|(rw[cR (by decide+kernel)];exact⟨rfl,rfl⟩)
def roundPlans_holds:Rows.RoundPlansSaid:=
 OpenClaim.holds_of_wide_leaving 5 Tryz.f5 rfl rfl rfl rfl rfl rfl rfl ⟨rfl,rfl,rfl,rfl,rfl⟩ rfl rfl rfl rfl rfl N4 Tryz.func5 Ir Ru Rv (λc a H b _=>Fg c a H b)
#print axioms roundPlans_holds
end Go.Proofs.YteeagjkaflglpaaGreat
