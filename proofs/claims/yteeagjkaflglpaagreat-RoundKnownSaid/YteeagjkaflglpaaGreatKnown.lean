/- RoundKnown: true for every input (it has no argument). Conditions: none. -/
import Derived.Conc.CrowdTrace
import Derived.Below
import Derived.Deep.Slices
import Derived.Conc.LeavingOf
import Derived.Carry
import Derived.ChangeSlices
import Derived.WideShapes
import Derived.Test.YteeagjkaflglpaaGreatX05
set_option maxRecDepth 100000
set_option maxHeartbeats 8000000
set_option linter.all false
namespace Go.Proofs.YteeagjkaflglpaaGreat
open Go.ChangeShapes Go.WideShapes Go.ChangeAt Go.RowKit Go.Conc
def D7:(Rows.roundKnownRow.lifted==false)=true:=by kernel_rfl
def Aa:(Rows.roundKnownRow.lifted==Tryz.pinned.checked.prog.liftsFinal)=true:=(cT (λx=>Rows.roundKnownRow.lifted==x) KU).trans D7
def E7:(some Make.cut==some Rows.roundKnownRow.make)=true:=by kernel_rfl
def A3:(Tryz.pinned.checked.prog.make==some Rows.roundKnownRow.make)=true:=(cT (λx=>x==some Rows.roundKnownRow.make) KV).trans E7
def zt:joinedFacts Tryz.pinned.checked.prog 24 Tryz.f24 Rows.roundKnownSpec Rows.roundKnownRow=true:=by unfold joinedFacts;exact(kA (kA (kA (kA (kA (kA (kA (kA (kA (kA (kA (kA (kA (kA (kA (kA (kA (kA (kA (kA (kA (kA (kA (kA (kA (kA (kA (kA (kA (kA (kA (by kernel_rfl) (by kernel_rfl)) (by kernel_rfl)) (by kernel_rfl)) (by kernel_rfl)) (by kernel_rfl)) (by kernel_rfl)) (by kernel_rfl)) (by kernel_rfl)) (by kernel_rfl)) (by kernel_rfl)) (by kernel_rfl)) (by kernel_rfl)) (by kernel_rfl)) (by kernel_rfl)) (by kernel_rfl)) (by kernel_rfl)) (by kernel_rfl)) (by kernel_rfl)) (by kernel_rfl)) (by kernel_rfl)) (by kernel_rfl)) (by kernel_rfl)) (by kernel_rfl)) (by kernel_rfl)) Oa) Aa) A3) (by kernel_rfl)) (by kernel_rfl)) (by kernel_rfl)) (by kernel_rfl))
end Go.Proofs.YteeagjkaflglpaaGreat
namespace Go.Proofs.W
open Go.RowKit
end Go.Proofs.W
variable{m k i j o p s d:Nat}{l f:List Nat}{I J:Int}
namespace Go.Proofs.W
open Go.RowKit
theorem NS:∀{l:gC} (i:Nat),I∉l->Ee I l i= -1
 |[],_,_=>rfl
 |y::r,i,h=>by have a:¬I=y:=λe=>h (by rw[e];exact iP);simp only[Ee,cy a];exact NS (i+1) λb=>h (iw _ b)
theorem qs:∀(l a:gC),(∀x∈l,0<=x/\x<=I-1)->(a++l).Nodup->n7 I a l=0
 |[],_,_,_=>rfl
 |d::r,a,h,b=>by
  have c:=h d iP;have e:kP d 0 (I-1)=true:=by simp[kP,c]
  have f:RM d a=false:=by
   have:d∉a:=λg=>by rw[List.nodup_append]at b;exact b.2.2 d g d iP rfl
   simp[RM,NS 0 this]
  simp only[n7,e,f,dF,ik,eF];exact qs r (a++[d]) (λx i=>h x (iw _ i)) (by simpa using b)
def uC(c:∀d∈l,d<m)(e:l.Nodup):ig m (pI l)=0:=by refine qs _ _ (λx f=>?_) ?_;obtain⟨d,g,rfl⟩:=mq.1 f;have:=c d g;omega;rw[sr];exact List.Pairwise.map _ (λa b h=>by omega) e
end Go.Proofs.W
variable{w t e:cn}{a:Option Go.Addr}{H N:Go.Proofs.W.Gd}
namespace Go.Proofs.W
open Go.RowKit
def B9(G:Gd)(a b:Int):cq:=if dK G=0 then(if kP a (-1) (G.doors.length-1)=true/\kP b (-1) (G.doors.length-1)=true then .tuple #[.int .i64 (lj G (a+1).toNat (b+1).toNat),.int .i64 0]else .tuple #[.int .i64 0,.int .i64 3])else .tuple #[.int .i64 0,.int .i64 (dK G)]
def Yo{dc:Nat}(o:fZ w a H.doors)(e:H.doors.length<=100000)(c b:Int):
 Calls V.prog 85 #[gV H a dc,.int .i64 c,.int .i64 b] w (fi λv p=>v=B9 H c b/\Ext w p):=by
 refine gd Tryz.func85 Tryz.ntmps85 ?_;refine ej λs t f q l=>dA l (cD (AI (dc:=dc) (o.ext f) e) ?_);rintro v u ⟨i,⟨j,rfl⟩|⟨j,x,mk,y,rfl,m⟩⟩;exact fD (jZ (by simpa using j) ⟨_,rfl,by rw[B9,cy j];rfl,f.trans i⟩);have k:=i.at_ l;have z:=m.g.uh.many;have n:¬(kP c (-1) (H.doors.length-1)=true/\kP b (-1) (H.doors.length-1)=true)->B9 H c b=.tuple #[i64 0,i64 3]:=λh=>by rw[B9,cB j,cy h]
 refine fD (lx (by simp) (cu (cr k rfl) (cS (fx (dg (eY _ _ _ _) (ei ⟨λh=>?_,λh=>?_⟩))))));have h:kP c (-1) (H.doors.length-1)=false:=by simpa using h
 exact jZ (by simp[h]) ⟨_,rfl,by rw[n (by simp[h])];rfl,f.trans i⟩;have h:kP c (-1) (H.doors.length-1)=true:=by simpa using h
 refine cu (cr k rfl) (cS (fx (dg (eY _ _ _ _) (ei ⟨λd=>?_,λd=>?_⟩))));have d:kP b (-1) (H.doors.length-1)=false:=by simpa using d
 exact⟨_,rfl,by rw[n (by simp[d])];rfl,f.trans i⟩;have d:kP b (-1) (H.doors.length-1)=true:=by simpa using d
 have A: -1<=c/\c<=H.doors.length-1:=by simpa[kP]using h
 have r: -1<=b/\b<=H.doors.length-1:=by simpa[kP]using d
 refine cF (cF (wZ (c+1).toNat 6 6 (by omega) (th (b+1).toNat 6 (by omega) (cu (m.g.ways _ _ (by omega) (by omega)) ⟨_,rfl,by rw[B9,cB j,cB ⟨h,d⟩];rfl,f.trans i⟩) (by omega)) (by omega)))
theorem Cf{G:Gd}{da:Option Addr}{dc:Nat}{w:World}(hd:fZ w da G.doors)(hG:dK G=0){l:List Nat}{la:Option Addr}{lc:Nat}(hr:fN w la l)(hl:∀d∈l,d<G.doors.length)(hlen:l.length<=1000):
 Calls V.prog 68 #[gV G da dc,.slice la l.length lc] w (fi λv w'=>v=.tuple #[.int .i64 (GG G l),.bool true]/\Ext w w'):=by
 have ok:=eQ hG;have hm:=ok.many;have hs:=ok.streets;have Fi:∀d∈l,d<5:=λd hd=>by have:=hl d hd;omega
 have hW:=uf ok
 have WA:∀k,k<=l.length->kP ((xd l k:Nat)-1:Int) (-1) (G.doors.length-1)=true:=λk hk=>by
  unfold xd;split
  ·simp[kP];omega
  ·have:k-1<l.length:=by omega
   have h2:=hl _ (List.getElem_mem this);rw[getD_eq this];simp[kP];omega
 have Cd:∀a b:Nat,kP ((a:Int)-1) (-1) (G.doors.length-1)=true->kP ((b:Int)-1) (-1) (G.doors.length-1)=true->B9 G ((a:Int)-1) ((b:Int)-1)=.tuple #[.int .i64 (lj G a b),.int .i64 0]:=λa b h1 h2=>by rw[B9,if_pos hG,if_pos ⟨h1,h2⟩];rw[show((a:Int)-1+1).toNat=a by omega,show((b:Int)-1+1).toNat=b by omega]
 refine gd Tryz.func68 Tryz.ntmps68 ?_;refine ej λw1 gb e1 Yf hb=>?_;refine fW l.length (λk (_:Unit)=>[(1,.slice la l.length lc),(2,cM gb),(6,.int .i64 (wK (lj G) l k)),(7,.int .i64 ((xd l k:Nat)-1)),(8,.int .i64 k)]) (λk _ w'=>Ext w1 w') () ⟨⟨rfl,rfl,rfl,rfl,rfl,trivial⟩,Ext.refl _⟩ ?_;rintro k _ w2 hk e2;have WB:=hd.ext (e1.trans e2);have De:=e2.at_ hb;have Uf:=xe hW l k;refine cS (du ⟨λHJ=>?_,λVk=>?_⟩)
 ·have P6:k<l.length:=by simpa using HJ
  obtain⟨bb,oo,rfl,hc⟩:=(hr.ext (e1.trans e2)) k P6;have Yg:=hl _ (List.getElem_mem P6);have Ff:kP (((l[k]+1:Nat):Int)-1) (-1) (G.doors.length-1)=true:=by simp[kP];omega
  have hw:=hW (xd l k) (l[k]+1);refine cX cV (dx (gV G da dc) (λw3 e3=>dA (e3.at_ De) ⟨rfl,Ext.refl _⟩) (iK k P6 (cK hc (fh (.tuple #[.int .i64 (lj G (xd l k) (l[k]+1)),.int .i64 0]) (λw3 e3=>?_) λw3 e3=>fD (lx (by simp) ?_)))))
  ·have:=Yo (dc:=dc) (WB.ext e3) (by omega) ((xd l k:Nat)-1:Int) (((l[k]+1:Nat):Int)-1);rw[Cd _ _ (WA k hk) Ff,show((l[k]+1:Nat):Int)-1=(l[k]:Int) by omega]at this;exact this
  ·have Fh:=e3.cell hc;have s1:wK (lj G) l (k+1)=wK (lj G) l k+lj G (xd l k) (l[k]+1):=by simp only[wK,getD_eq P6]
   have s2:((xd l (k+1):Nat):Int)-1=l[k]:=by simp[xd,List.getElem?_eq_getElem P6]
   refine cX cV (vf (iK k P6 (cK Fh λw4 e4=>cF ⟨P6,(),⟨rfl,rfl,?_,?_,rfl,trivial⟩,(e2.trans e3).trans e4⟩)))
   ·show some _=some _;rw[s1]
   ·show some _=some _;rw[s2]
 ·have P6:k=l.length:=by
   have:¬k<l.length:=by simpa using Vk
   omega
  subst P6;have hw:=hW (xd l l.length) 0;have sC:Calls V.prog 85 #[gV G da dc,.int .i64 ((xd l l.length:Nat)-1),.int .i64 (-1)] w2 (fi λv w'=>v=.tuple #[.int .i64 (lj G (xd l l.length) 0),.int .i64 0]/\Ext w2 w'):=by have:=Yo (dc:=dc) WB (by omega) ((xd l l.length:Nat)-1:Int) (((0:Nat):Int)-1);rw[Cd _ _ (WA _ (Nat.le_refl _)) (by simp[kP];omega)]at this;exact this
  exact dA De (dG sC λw3 e3=>cF (ff ⟨_,rfl,rfl,(e1.trans e2).trans e3⟩))
def MK(G:Gd)(l:cz):Int:=if iU G l<=G.minutes then 1 else if G.minutes<iG G l then 2 else 3
def Cq{dc:Nat}(x:fZ w a H.doors)(o:dK H=0){la:ek}{lc:Nat}(p:fN w la l)(y:l.Nodup)(n:∀d∈l,d<H.doors.length)(z:l.length<=1000)(E:l.length<=lc):
 Calls V.prog 61 #[gV H a dc,.slice la l.length lc] w (fi λv A=>v=.tuple #[.int .i64 (MK H l),.int .i64 0]/\Ext w A):=by
 have q:=eQ o;have F:=q.many;have G:=q.streets;have e:(pI l).length=l.length:=by simp[pI]
 refine gd Tryz.func61 Tryz.ntmps61 ?_;refine ej λI J f B r=>dA r ?_;have s:=yG (dc:=dc) (x.ext f) (by omega) (l:=pI l) (la:=la) (lc:=lc) (p.ext f).ints (by omega) (by omega);rw[e,uC n y]at s;refine cD s ?_;rintro v K ⟨i,⟨t,rfl⟩|⟨t,L,mk,M,rfl,u⟩⟩;exact absurd o t;have j:=i.at_ r;have k:=p.ext (f.trans i);refine fD (lx (by simp) ?_);refine cX cV (fh _ (λC b=>BK (u.ext b).g n (by omega) (k.ext b)) (cK (cr j rfl) (TE λC b=>⟨λh=>?_,λh=>?_⟩)));have h:iU H l<=H.minutes:=dO h;exact⟨_,rfl,by rw[MK,cB h];rfl,(f.trans i).trans b⟩;have h:¬iU H l<=H.minutes:=ee h;refine cX cV (fh _ (λD m=>Ej (u.ext (b.trans m)).g n (by omega) (k.ext (b.trans m))) (cK (cr (b.at_ j) rfl) (yA λD m=>⟨λc=>?_,λc=>?_⟩)));have c:H.minutes<iG H l:=dO c;exact⟨_,rfl,by rw[MK,cy h,cB c];rfl,((f.trans i).trans b).trans m⟩;have c:¬H.minutes<iG H l:=ee c;exact⟨_,rfl,by rw[MK,cy h,cy c];rfl,((f.trans i).trans b).trans m⟩
section
variable{G:Gd}{xs:List Sx}
end
def SH(t:Ty):Tq:=⟨t.door,t.shift,t.opened⟩
def l9(l:List Ty)(d h:Nat):Nat:=(l.filter λt=>decide (t.door=d/\t.shift%2=h)).length
def zx(l:List Ty)(d:Nat):Bool:=l.any λt=>decide (t.door=d)&&t.opened
def J9(l:List Ty)(d a:Nat):Bool:=l.any λt=>decide (t.door=d)&&decide (t.shift/2=a)
def uF(l:List Ty)(d:Nat):Sx:=⟨((l9 l d 0+l9 l d 1:Nat):Int),(l9 l d 0:Nat),(l9 l d 1:Nat),zx l d,J9 l d 0,J9 l d 1,J9 l d 2,false⟩
structure Made(G:Gd)(l:List Ty)(s:Nat):Prop where
 log:fQ G (l.map SH)=(0,(List.range G.doors.length).map (uF l))
 last:∀t∈l,t.shift<=s
def Made.nil(G:Gd):Made G [] 0:=⟨by simp only[fQ,vC,nH];congr 1;refine List.ext_getElem (by simp) λi a b=>?_;simp only[List.getElem_replicate,List.getElem_map];rfl,λt h=>by cases h⟩
def NC:Ef 25 84 [.int .i64 0,.int .i64 0,.bool false]:=⟨by kernel_rfl,Tryz.t84,_,by kernel_rfl,rfl,by kernel_rfl,by kernel_rfl,by decide+kernel,by decide⟩
theorem zB{a:Type}{f:a->dr}{n:Nat}(b:∀x,(f x).length=n):∀l:List a,(l.flatMap f).length=l.length*n
 |[]=>by simp
 |t::r=>by rw[mV,jA,b,zB b r,eI,Nat.add_mul,Nat.one_mul,Nat.add_comm]
theorem pX{b:Type}{f:b->dr}{n:Nat}(a:∀x,(f x).length=n):∀(l:List b) (k:Nat) (c:k<l.length) (j:Nat) (v:cq),(f l[k])[j]? =some v->(l.flatMap f)[k*n+j]? =some v
 |x::r,0,_,j,v,h=>by have d:j<(f x).kq:=(iI.1 h).1;rw[mV,Nat.zero_mul,cG,nT d];exact h
 |x::r,k+1,c,j,v,h=>by have e:=pX a r k (by simpa using c) j v (by simpa using h);rw[mV,oM (by rw[a,Nat.add_mul];omega),a,show(k+1)*n+j-n=k*n+j by rw[Nat.add_mul];omega];exact e
def TU:Ef 95 101 [.int .i64 0,.int .i64 0,.bool false,.bool false]:=⟨by kernel_rfl,Tryz.t101,_,by kernel_rfl,rfl,by kernel_rfl,by kernel_rfl,by decide+kernel,by decide⟩
def zC(G:Gd)(a:List Sx)(b:cz):dr:=b.flatMap λd=>nR d (fT G (a.getD d lM))
theorem A5(G:Gd)(a:List Sx):∀b,(zC G a b).length=b.length*4
 |[]=>rfl
 |d::r=>by have:=A5 G a r;simp only[zC,mV,jA,eI]at this⊢;rw[this];show 4+_=_;omega
def sL(b:Nat)(w:cn)(v:cq)(G:Gd)(c:List Sx)(a:cz):Prop:=cR b 101 [.int .i64 0,.int .i64 0,.bool false,.bool false] w v a.length (zC G c a)
def ND{dc:Nat}(M:fZ w a H.doors)(B:dK H=0){l:List Tq}{C:Option Addr}{lc:Nat}(N:ja w C l)(O:l.length<=1000)(P:(fQ H l).1=0):
 Calls V.prog 72 #[gV H a dc,.slice C l.length lc] w (fi λv g=>Ext w g/\∃u,v=.tuple #[u,.int .i64 0]/\sL w.heap.size g u H (fQ H l).2 (dn H.tries (fQ H l).2)):=by
 have D:=eQ B;have hm:=D.many;have hs:=D.streets;refine gd Tryz.func72 Tryz.ntmps72 ?_;refine ej λw1 gb p Q R=>dA R (cD (mP (dc:=dc) (M.ext p) (by omega) (N.ext p) (by omega)) ?_);rintro v w2 ⟨S,⟨E,rfl⟩|⟨E,T,gp,mk,ms,rfl,U,F⟩⟩;exact absurd (by rw[jQ,cB B];exact P) E;obtain⟨c,q⟩:∃c,c=(fQ H l).2:=⟨_,rfl⟩;have i:=U.k;rw[<-q]at i F⊢;have W:=i.len;have G:=lN H.tries c;refine fD (lx (by simp) (cD (xh i) ?_));rintro ov r ⟨I,s⟩;obtain⟨X,Y,rfl,t,Z⟩:=s.row;have J:=(p.trans S).trans I;refine cS (gT (n:=(dn H.tries c).length) (λk v=>[(6,cM T),(8,v),(21,.slice X (dn H.tries c).length Y),(22,i64 (dn H.tries c).length),(23,i64 k)]) (λk v g=>Ext r g/\sL r.heap.size g v H c ((dn H.tries c).take k)) (.slice none 0 0) ⟨by trivial,Ext.refl _,cR.nil _ _ _ _⟩ ?_ ?_ ?_);rintro k v K aa hJ;exact du ⟨rfl,rfl,by trivial,hJ⟩;rintro k v K d ⟨f,h⟩;obtain⟨b,o,rfl,hc⟩:=(t.ext f) k d;have e:(dn H.tries c)[k]<c.length:=kO (ef d);have x:c.getD (dn H.tries c)[k] lM=c[(dn H.tries c)[k]]:=by rw[jG,eV e];rfl
 have y:=F _ (ef e);refine fw k d (cu hc (dG (MS (i.ext (I.trans f)) e (by obtain⟨q1,q2,q3⟩:=y;exact⟨⟨by omega,by omega⟩,⟨by omega,by omega⟩,by omega,by omega⟩)) λw5 j=>?_));refine eg (nR (dn H.tries c)[k] (fT H c[(dn H.tries c)[k]])) 101 λw6 nb m ab z=>gq TU (cR.ext (cR.ext h j) m) (by have:=f.size;have:=j.size;have:=m.size;omega) z (by simp;omega) λL w7 A k7 _=>cF ⟨L,by trivial,((f.trans j).trans m).ia k7 (cR.ext (cR.ext h j) m) (cJ _),?_⟩;unfold sL;have h9:cR r.heap.size 101 [i64 0,i64 0,.bool false,.bool false] w7 L (((dn H.tries c).take k).length+1) (zC H c ((dn H.tries c).take k)++nR (dn H.tries c)[k] (fT H c[(dn H.tries c)[k]])):=A;rw[jc d,jA];simpa only[zC,List.flatMap_append,mV,List.flatMap_nil,List.append_nil,x,eI,fB,cG]using h9;rintro v K ⟨f,h⟩;rw[mW]at h;exact⟨_,rfl,J.trans f,v,rfl,cR.low h J.size⟩
def lh(T:Int)(a:List Sx)(k:Nat):cz:=(List.range k).filter λd=>eZ T (a.getD d lM)
def wu(T:Int)(a:List Sx)(k:Nat)(b:k<a.length):lh T a (k+1)=if eZ T a[k]then lh T a k++[k]else lh T a k:=by
 have e:a.getD k lM=a[k]:=by rw[jG,eV b];rfl
 simp only[lh,oO,List.filter_append,List.filter_cons,List.filter_nil,e];cases h:eZ T a[k]<;>simp
def tA(T:Int)(a:List Sx)(k:Nat):(lh T a k).length<=k:=cZ (List.length_filter_le ..) (by simp)
def Ke{dc:Nat}(p:fZ w a H.doors)(t:dK H=0){l:List Tq}{G:Option Addr}{lc:Nat}(P:ja w G l)(Q:l.length<=1000)(R:(fQ H l).1=0):
 Calls V.prog 73 #[gV H a dc,.slice G l.length lc] w (fi λv d=>Ext w d/\∃u,v=.tuple #[u,.int .i64 0]/\fE w.heap.size d u (lh H.tries (fQ H l).2 (fQ H l).2.length)):=by
 have I:=eQ t;have hm:=I.many;have hs:=I.streets;refine gd Tryz.func73 Tryz.ntmps73 ?_;refine ej λS gb q T z=>dA z (cD (mP (dc:=dc) (p.ext q) (by omega) (P.ext q) (by omega)) ?_);rintro v J ⟨f,⟨x,rfl⟩|⟨x,U,gp,mk,ms,rfl,W,X⟩⟩;exact absurd (by rw[jQ,cB t];exact R) x;obtain⟨c,A⟩:∃c,c=(fQ H l).2:=⟨_,rfl⟩;have r:=W.k;rw[<-A]at r X⊢;have Y:=r.len;have K:=q.trans f;obtain⟨Z,sc,x,h2,h3,h4⟩:=r.at_;refine fD (lx (by simp) (cu h2 (cS (gT (n:=c.length) (λk v=>[(6,cM U),(8,v),(23,.slice Z c.length sc),(24,i64 c.length),(25,i64 k)]) (λk v d=>Ext J d/\fE J.heap.size d v (lh H.tries c k)) (.slice none 0 0) ⟨by trivial,Ext.refl _,cR.nil _ _ _ _⟩ ?_ ?_ ?_))));rintro k v d r ⟨e,m⟩;exact du ⟨rfl,rfl,by trivial,e,m⟩;rintro k v d h ⟨e,m⟩;obtain⟨b,o,rfl,hc⟩:=(h4.ext e) k h;have L:=tA H.tries c k;refine eN k 8 h (dJ (vs:=ly c[k]) hc (eD λS nb q B z=>dq z λC k2 s=>?_));have f:Ext d C:=q.cC k2 B;have D:C.heap[nb]? =some (.cells (ly c[k]).toArray 166):=s.trans (cT (λaa=>some (Obj.cells aa 166)) (dC (pm 166).toArray (ly c[k]) rfl));have t:=(r.g.ext e).ext f;clear s;refine cX cV (cK (f.cell (e.cell x)) (dx (.agg (ly c[k]).toArray) (λM i=>dJ (vs:=ly c[k]) (λj v hj=>by rw[cG];exact cr (i.at_ D) (by simpa using hj)) ⟨rfl,Ext.refl _⟩) (fh (.bool (eZ H.tries c[k])) (λM i=>um (t.ext i) c[k]) λM i=>⟨λp=>?_,λp=>?_⟩)));have N:=(e.trans f).trans i;refine eg [Value.int .i64 k] 3 λC ab y O E=>gq sg (((m.ext f).ext i).ext y) (cZ N.size y.size) E (by omega) λv' w6 F k6 _=>cF ⟨v',by trivial,(N.trans y).ia k6 (((m.ext f).ext i).ext y) (cJ _),?_⟩;rw[wu _ _ _ h,p];simpa[fE,jy]using F;refine cF ⟨v,by trivial,(e.trans f).trans i,?_⟩;rw[wu _ _ _ h,p];exact(m.ext f).ext i;rintro v d ⟨e,m⟩;exact⟨_,rfl,K.trans e,v,rfl,m.low K.size⟩
end Go.Proofs.W
variable{x y z:cq}
namespace Go.Proofs.W
open Go.RowKit
theorem gU.blk{a:List cz}(h:gU m w x a)(b:cH x k):m<=k/\k<w.heap.size:=by obtain⟨d,c,_⟩:=h;exact c.blk b
def Kf(G:Gd)(b:List Sx)(a:cz)(k:Nat)(c:k<a.length)(j:Nat)(v:cq)(h:(nR a[k] (fT G (b.getD a[k] lM)))[j]? =some v):(zC G b a)[k*4+j]? =some v:=pX (f:=λd=>nR d (fT G (b.getD d lM))) (n:=4) (λ_=>rfl) a k c j v h
def sL.row{d:List Sx}(h:sL m w x H d l):∃a c,x=.slice a l.length c/\∀k (e:k<l.length),∃b o,a=some ⟨b,o,none⟩/\∀j x,(nR l[k] (fT H (d.getD l[k] lM)))[j]? =some x->w.cell? ⟨b,o+k*4+j,none⟩=some x:=by obtain⟨r,⟨f,rfl⟩|⟨b,c,s,t,rfl,i,u,v,y,n,z⟩⟩:=h;exact⟨none,0,by rw[f],λk e=>by omega⟩;refine⟨_,c,rfl,λk e=>⟨b,0,rfl,λj x g=>cr i ?_⟩⟩;have p:j<(nR l[k] (fT H (d.getD l[k] lM))).kq:=(iI.1 g).1;have q:(nR l[k] (fT H (d.getD l[k] lM))).kq=4:=rfl;have f:=A5 H d l;rw[cG,n _ (by omega)];exact Kf H d l k e j x g
end Go.Proofs.W
variable{P:cA}
namespace Go.Proofs.W
open Go.RowKit
def dM.ij{x y:Code}{l:L}{Q:QW}(h:dM P m x l w (L9 (λc d=>dM P m y c d Q) Q)):dM P m (.seq x y) l w Q:=⟨λa g=>by
 refine jX (kz (h.out a g) ?_);rintro e i d ⟨c,b,f⟩;cases e with
 |normal=>exact f.out i b
 |_=>exact⟨c,b,f⟩⟩
def Q6{Q:QW}{e:Exit}{a:Act}(h:∃g,Fr k g a/\jg m Q e g w):Exit.inBlock m (lift k Q) e a w:=by
 obtain⟨f,b,d⟩:=h;cases e with
 |exit j=>
  simp only[Exit.inBlock];by_cases c:j=m;subst c;rw[cB rfl];simp only[jg,vG]at d;exact⟨f,b,d⟩;rw[cy c];have:Nat.beq j m=false:=by
   cases i:Nat.beq j m with
   |false=>rfl
   |true=>exact absurd (gM i) c
  simp only[jg,this]at d;exact⟨f,b,d⟩
 |_=>exact⟨f,b,d⟩
theorem dM.block{c:Code}{l:L}{Q:QW}(h:dM P m c l w (jg k Q)):dM P m (.block k c) l w Q:=⟨λa b=>by refine wp_block (kz (h.out a b) ?_);intro e f g d;exact Q6 d⟩
def rX{i:Type}(n:Nat){d:Code}{l:L}{Q:QW}(b:Nat->i->L)(J:Nat->i->cU)(o:i)(r:Sub (b 0 o) l/\J 0 o w)
 (f:∀c s w,c<=n->J c s w->dM V.prog m d (b c s) w (λe t u=>match e with
  | .normal=>c<n/\∃h,Sub (b (c+1) h) t/\J (c+1) h u
  |e=>jg k Q e t u)):dM V.prog m (Code.block k (Code.loop d)) l w Q:=by
 refine⟨λa p=>?_⟩;refine wp_block<|mF (λj a w=>∃c s,c<=n/\j=n-c/\Fr m (b c s) a/\J c s w) n ⟨0,o,fV _,by omega,p.sub r.1,r.2⟩ ?_;rintro j a w ⟨c,s,x,rfl,p,y⟩;refine kz ((f c s w x y).out a p) ?_;rintro e C D ⟨v,g,q⟩;cases e with
 |normal=>
  obtain⟨z,h,A,B⟩:=q;exact⟨n-(c+1),by omega,c+1,h,by omega,rfl,g.sub A,B⟩
 |exit j=>
  simp only[Exit.then];exact Q6 (e:=.exit j) ⟨v,g,q⟩
 |_=>exact⟨v,g,q⟩
def rY(p:Int×Bool):cq:=if p.2 then .tuple #[.int .i64 p.1,.int .i64 0]else .tuple #[.int .i64 0,.int .i64 11]
def jb{G:Gd}{dc:Nat}{l:List Tq}{la:Option Addr}{lc:Nat}(t:fZ w a G.doors)(e:G.doors.length<=100000)(u:ja w la l)(m:l.length<=100000)(c:Int):
 Calls V.prog 46 #[gV G a dc,.slice la l.length lc,.int .i64 c] w (ux λv p=>Ext w p/\((dP G l c 0≠0/\v=.tuple #[.int .i64 0,.int .i64 (dP G l c 0)])\/(dP G l c 0=0/\v=rY (uy (jo G (fQ G l).2 c.toNat))))):=by
 refine gd Tryz.func46 Tryz.ntmps46 ?_;refine ej λC D i x n=>dA n (cD (mJ (dc:=dc) (t.ext i) e (u.ext i) m c 0) ?_);rintro v E ⟨q,⟨d,rfl⟩|⟨d,F,H,mk,I,rfl,j,y⟩⟩;exact fD (jZ (by simpa using d) (.inl ⟨_,rfl,i.trans q,.inl ⟨d,rfl⟩⟩));have z:=j.g.lo;have J:=i.size;obtain⟨f,rfl,o,_⟩:=ko j.k.g.uh d;refine fD (lx (by simp) (iW (JY (n0:=w.heap.size) j.k (λb n=>n.elim) j.g.Uw (by omega) (by omega) y o) (λp h=>.inr ⟨rfl,h⟩) ?_));rintro _ A ⟨B,rfl⟩;have r:Ext w A:=B.1.from (i.trans q) (cJ _);rw[mT];cases s:(uy (jo G (fQ G l).2 f)).2 with
 |false=>exact ei (jZ rfl (.inl ⟨_,rfl,r,.inr ⟨d,by unfold rY;rw[s];rfl⟩⟩))
 |true=>exact ei (lx rfl (.inl ⟨_,rfl,r,.inr ⟨d,by unfold rY;rw[s];rfl⟩⟩))
def rF:uy (jo fy G6 0)=(1,true)/\uy (jo fy G6 1)=(1,true)/\uy (jo fy G6 2)=(1,true)/\uy (jo fy G6 3)=(2,true)/\(uy (jo fy G6 4)).2=false/\(uy (jo fy G6 5)).2=false/\uy (jo fy B8 2)=(1,true):=by refine⟨?_,?_,?_,?_,?_,?_,?_⟩<;>decide+kernel
def A4:zd fy (jo fy G6 0)=some [(0,[0,1]),(1,[2,3]),(2,[2,3]),(3,[0,1])]:=by decide+kernel
def wv:oH (tt fy G6 4 1) (dn fy.tries G6)=[0,1,2,3]/\oH (tt fy G6 0 1) (dn fy.tries G6)=[]:=by refine⟨?_,?_⟩<;>decide+kernel
def lA:dP fy [] 0 0=0/\dP fy [] 3 0=0/\dP fy [] 4 0=0/\dP fy [] 4 1=0/\dP fy [] 0 1=0/\dP fy nK 4 0=0:=by decide+kernel
def uD:rY (uy (jo fy (fQ fy []).2 (0:Int).toNat))=.tuple #[.int .i64 1,.int .i64 0]/\rY (uy (jo fy (fQ fy []).2 (3:Int).toNat))=.tuple #[.int .i64 2,.int .i64 0]/\rY (uy (jo fy (fQ fy []).2 (4:Int).toNat))=.tuple #[.int .i64 0,.int .i64 11]/\rY (uy (jo fy (fQ fy nK).2 (2:Int).toNat))=.tuple #[.int .i64 1,.int .i64 0]:=by rw[P0,Nq];refine⟨?_,?_,?_,?_⟩;show rY (uy (jo fy G6 0))=_;rw[rF.1];rfl;show rY (uy (jo fy G6 3))=_;rw[rF.2.2.2.1];rfl;show rY (uy (jo fy G6 4))=_;unfold rY;rw[rF.2.2.2.2.1];rfl;show rY (uy (jo fy B8 2))=_;rw[rF.2.2.2.2.2.2];rfl
variable{N:Nat}
variable{G:Gd}{da:Option Addr}{dc:Nat}{w:cn}
structure Td where
 opened:Bool
 times:Int
 mornings:Int
 evenings:Int
 day:Int
def qo:Td:=⟨false,0,0,0,-1⟩
def KJ(t:Td)(q:Tq):Td:=⟨t.opened||q.opened,t.times+1,if q.shift.toNat%2=0 then t.mornings+1 else t.mornings,if q.shift.toNat%2=0 then t.evenings else t.evenings+1,((q.shift.toNat/2:Nat):Int)⟩
def qp(d:Int):Td->List Tq->Td
 |t,[]=>t
 |t,q::r=>qp d (if q.door=d then KJ t q else t) r
theorem uB(d:Int)(q:Tq):∀(l:List Tq) (t:Td),qp d t (l++[q])=if q.door=d then KJ (qp d t l) q else qp d t l
 |[],t=>rfl
 |p::r,t=>uB d q r _
variable{G:Gd}{da:Option Addr}{dc:Nat}{w:cn}
theorem ja.take{a:ek}{l:List Tq}(h:ja w a l)(i:Nat):ja w a (l.take i):=λk d=>by
 have c:k<l.length:=by simp at d;omega
 obtain⟨b,o,e,f⟩:=h k c;exact⟨b,o,e,λj v g=>f j v (by rwa[List.getElem_take]at g)⟩
structure oI(b:Int)(x:Sx)(t:Td):Prop where
 tries:x.tries=t.times
 mornings:x.mornings=t.mornings
 evenings:x.evenings=t.evenings
 opened:x.opened=t.opened
 left:x.left=false
 up:∀i:Nat,i<3->nO x i=true->(i:Int)<=t.day
 last:0<=t.day->nO x t.day.toNat=true
 low:2*t.day<=b/\t.day<3
def oI.zero:oI 0 lM qo:=⟨rfl,rfl,rfl,rfl,rfl,λi a h=>by unfold nO lM at h;revert h;split;intro h;cases h;split<;>(intro h;cases h),λh=>absurd h (by decide),by decide,by decide⟩
def oI.mono{x:Sx}{t:Td}(h:oI I x t)(a:I<=J):oI J x t:=⟨h.tries,h.mornings,h.evenings,h.opened,h.left,h.up,h.last,by have:=h.low;omega,h.low.2⟩
def zr(x:Sx)(s:Nat)(o:Bool)(a:s<6)(i:Nat)(b:i<3):nO (gm x s o) i=(decide (i=s/2)||nO x i):=by
 obtain rfl|rfl|rfl:i=0\/i=1\/i=2:=by omega
 all_goals
  obtain h|h|h:s/2=0\/s/2=1\/s/2=2:=by omega
  all_goals simp[nO,gm,h]
def oI.step{b:Int}{x:Sx}{t:Td}(h:oI b x t)(q:Tq)(s:Nat)(f:q.shift=s)(d:s<6)(g:b<=s):oI s (gm x s q.opened) (KJ t q):=by
 have a:q.shift.toNat=s:=by omega
 refine⟨by simp[gm,KJ,h.tries],by simp only[gm,KJ,a,h.mornings],by simp only[gm,KJ,a,h.evenings],by simp[gm,KJ,h.opened],h.left,λi e c=>?_,λ_=>?_,?_⟩;show(i:Int)<=((q.shift.toNat/2:Nat):Int);rw[a];rw[zr x s _ d i e]at c;simp only[Hp,iQ]at c;rcases c with rfl|c;exact Int.le_refl _;have:=h.up i e c;have:=h.low;omega;show nO (gm x s q.opened) ((q.shift.toNat/2:Nat):Int).toNat=true;rw[a,mT,zr x s _ d _ (by omega)];simp;show 2*((q.shift.toNat/2:Nat):Int)<=s/\((q.shift.toNat/2:Nat):Int)<3;rw[a];omega
theorem oI.day{x:Sx}{t:Td}(h:oI I x t)(s:Nat)(b:s<6)(c:I<=s):nO x (s/2)=true↔t.day=((s/2:Nat):Int):=by constructor;intro a;have d:=h.up (s/2) (by omega) a;have e:=h.low;omega;intro a;have:=h.last (by omega);rwa[a,mT]at this
def mK(l:List Tq)(q:Tq):dZ (l++[q])=q.shift:=by unfold dZ;rw[List.getLast?_concat]
section
variable{H G:Gd}
end
end Go.Proofs.W
variable{T U:cw}{M Y:List cq}
namespace Go.Proofs.W
open Go.RowKit
def ir{c:Type}(f:c->dr)(n:Nat)(w:cn)(a:ek)(l:List c):Prop:=∀k (h:k<l.length),∃b o,a=some ⟨b,o,none⟩/\∀j v,(f l[k])[j]? =some v->w.cell? ⟨b,o+k*n+j,none⟩=some v
def ir.cells{k:Type}{f:k->dr}{n:Nat}{w:cn}{a:ek}{l:List k}(h:ir f n w a l)(m:0<n)(d:∀x,(f x).length=n):ii w a (l.flatMap f):=by
 rcases mY l.length with g|g;exact .inl (by rw[oL g];rfl);obtain⟨b,o,e,_⟩:=h 0 g;refine .inr ⟨b,o,e,λj u p=>?_⟩;have c:=(iI.1 p).1;rw[zB d]at c;have i:=Nat.div_add_mod j n;have v:=Nat.mod_lt j m;have q:j/n<l.length:=(Nat.div_lt_iff_lt_mul m).2 c;rw[Nat.mul_comm]at i;have r:j%n<(f l[j/n]).length:=by rw[d];exact v
 have s:=pX d l (j/n) q (j%n) _ (eV r);rw[i,p]at s;obtain⟨z,A,t,y⟩:=h (j/n) q;rw[e]at t;cases t;have:=y (j%n) _ (eV r);rw[vF,i]at this;rw[this,cO s]
def ir.own{d:Type}{f:d->dr}{n m:Nat}{w:cn}{l:List d}(h:cR m T M w z l.length (l.flatMap f))(u:M.length=n)(o:∀x,(f x).length=n):∃a c,z=.slice a l.length c/\ir f n w a l/\l.length<=c:=by obtain⟨v,⟨p,rfl⟩|⟨b,c,y,A,rfl,q,B,r,C,s,D⟩⟩:=h;exact⟨none,0,by rw[p],λk e=>by omega,by omega⟩;refine⟨_,c,rfl,λk e=>⟨b,0,rfl,λj z g=>cr q ?_⟩,r⟩;have t:j<(f l[k]).kq:=(iI.1 g).1;have i:=pX o l k e j z g;rw[cG,s _ (iI.1 i).1];exact i
theorem ja.cells{w:cn}{a:ek}{l:List Tq}(h:ja w a l):ii w a (l.flatMap nQ):=ir.cells (f:=nQ) (n:=3) h (by decide) λ_=>rfl
theorem fZ.cells{w:cn}{a:ek}{l:List Dr}(h:fZ w a l):ii w a (l.flatMap dL):=ir.cells (f:=dL) (n:=3) (λk d=>by
 obtain⟨b,o,e,g,i,m⟩:=h k d;refine⟨b,o,e,λj v c=>?_⟩;match j,c with
 |0,c=>cases c;exact g
 |1,c=>cases c;exact i
 |2,c=>cases c;exact m) (by decide) λ_=>rfl
def iL(n:Int):dr:=[.int .i64 n]
theorem gF.cells{w:cn}{a:ek}{l:gC}(h:gF w a l):ii w a (l.flatMap iL):=ir.cells (f:=iL) (n:=1) (λk d=>by
 obtain⟨b,o,e,g⟩:=h k d;refine⟨b,o,e,λj v c=>?_⟩;match j,c with
 |0,c=>cases c;rw[oi];exact g) (by decide) λ_=>rfl
def pY(a:Nat)(w:cn)(v:cq)(l:List Tq):Prop:=cR a 84 [.int .i64 0,.int .i64 0,.bool false] w v l.length (l.flatMap nQ)
def pY.row{w:cn}{l:List Tq}(h:pY m w z l):∃a c,z=.slice a l.length c/\ja w a l/\l.length<=c:=ir.own h rfl λ_=>rfl
def Si{a:Type}{f:a->dr}(b:∀x,∀u∈f x,u.oneCell'=true)(l:List a):∀u∈l.flatMap f,u.oneCell'=true:=λu c=>by obtain⟨d,_,e⟩:=sq.1 c;exact b d u e
def Sj(x:Tq):∀u∈nQ x,u.oneCell'=true:=λu a=>by simp only[nQ,eO,mu,jW]at a;rcases a with rfl|rfl|rfl<;>rfl
def zw{l:List Tq}{w:cn}(h:ja w a l)(i:a=none->l.length=0)(c:l.length<=100000):Calls V.prog 136 #[.slice a l.length m] w (fi λv d=>Ext w d/\pY w.heap.size d v l):=by refine gd Tryz.func136 Tryz.ntmps136 ?_;refine un NC ⟨λe=>?_,λe=>eg [] 84 λq r g b j=>pL (n0:=w.heap.size) NC j b (zB (f:=nQ) (n:=3) (λ_=>rfl) l) (h.ext g).cells (Si Sj l) (by omega) λv s k o=>⟨_,rfl,o w g (cJ _),k⟩⟩;have p:=i (by simpa using e);obtain rfl:=oL p;exact⟨_,rfl,Ext.refl _,cR.nil _ _ _ _⟩
section
variable{x y:dw}{w:cn}
def TW(q:Tq):Sem.run V.prog (do eqGuard .neq 84 x y (.agg (nQ q).toArray) (.agg (nQ q).toArray);binOp .neq 84 (.agg (nQ q).toArray) (.agg (nQ q).toArray)) w=.ok (.bool false) w:=by obtain⟨a,b,c⟩:=q;show Sem.run jD (do eqGuard .neq 84 x y (.agg #[i64 a,i64 b,.bool c]) (.agg #[i64 a,i64 b,.bool c]);binOp .neq 84 (.agg #[i64 a,i64 b,.bool c]) (.agg #[i64 a,i64 b,.bool c])) w=.ok (.bool false) w;go_simp
end
def Fl{l:List Tq}{d:Option Addr}{lc lc':Nat}{w:cn}(q:ja w a l)(g:ja w d l)(p:l.length<=100000):
 Calls V.prog 41 #[.slice a l.length lc,.slice d l.length lc'] w (fi λv f=>v=.bool true/\Ext w f):=by
 refine gd Tryz.func41 Tryz.ntmps41 ?_;refine cS (cS (fD (lx (by simp) ?_)));refine fW l.length (λk (_:Unit)=>[(0,.slice a l.length lc),(1,.slice d l.length lc'),(5,i64 k)]) (λk _ f=>Ext w f) () ⟨by trivial,Ext.refl _⟩ ?_;rintro k _ f u e;refine cS (du ⟨λc=>?_,λr=>⟨_,rfl,rfl,e⟩⟩);have c:k<l.length:=by simpa using c
 obtain⟨b,o,rfl,s⟩:=q k c;obtain⟨x,y,rfl,h⟩:=g k c;exact cX cV (gE k 3 c (dx (.agg (nQ l[k]).toArray) (λi m=>dJ (vs:=nQ l[k]) (λj v n=>(e.trans m).cell (s j v n)) ⟨rfl,Ext.refl _⟩) (gE k 3 c (dx (.agg (nQ l[k]).toArray) (λi m=>dJ (vs:=nQ l[k]) (λj v n=>(e.trans m).cell (h j v n)) ⟨rfl,Ext.refl _⟩) (dx (.bool false) (λi _=>⟨_,i,TW _,rfl,Ext.refl _⟩) λz t=>lx rfl (cF ⟨c,(),by trivial,e.trans t⟩))))))
section
variable{G:Gd}{da:Option Addr}{dc:Nat}{w:cn}
def IH(c:fZ w da G.doors)(a:G.doors.length<=100000):Calls V.prog 87 #[gV G da dc] w (fi λv d=>v=.int .i64 (dK G)/\Ext w d):=by refine gd Tryz.func87 Tryz.ntmps87 ?_;refine ej λe i b f g=>dA g (cD (Jl G da dc e (c.ext b) a) ?_);rintro _ j ⟨rfl,h⟩;exact⟨_,rfl,rfl,b.trans h⟩
def Kh{l:List Tq}{d:Option Addr}{g:Nat}(h:fZ w da G.doors)(a:G.doors.length<=100000)(i:ja w d l)(c:l.length<=100000):Calls V.prog 80 #[gV G da dc,.slice d l.length g] w (fi λv j=>v=.int .i64 (jQ G l)/\Ext w j):=by refine gd Tryz.func80 Tryz.ntmps80 ?_;refine ej λn o b k m=>dA m (cD (mP (dc:=dc) (h.ext b) a (i.ext b) c) ?_);rintro _ p ⟨e,⟨f,rfl⟩|⟨f,q,r,mk,s,rfl,_⟩⟩;exact⟨_,rfl,rfl,b.trans e⟩;exact⟨_,rfl,by rw[f];rfl,b.trans e⟩
end
section
variable{G H:Gd}{σ τ:Nat->Nat}
end
section
variable{G H:Gd}{σ τ:Nat->Nat}{xs ys:List Sx}
end
section
variable{G H:Gd}{σ τ:Nat->Nat}
end
def cR.st{o b a c:Nat}{t:cw}{p i k:dr}{w q:cn}{l d:dU}(h:cR o t p w (.slice (some ⟨b,0,none⟩) a c) a i)(r:w.heap[b]? =some (.cells l t))(m:q.heap[b]? =some (.cells d t))(s:d.size=l.size)(u:k.length=i.length)(n:∀j,j<i.length->d[j]? =k[j]?)(g:∀j,i.length<=j->d[j]? =l[j]?)(I:0<a):cR o t p q (.slice (some ⟨b,0,none⟩) a c) a k:=by obtain⟨v,⟨x,_⟩|⟨y,J,z,A,e,f,B,C,D,K,E⟩⟩:=h;omega;injection e with e _ F;obtain rfl:b=y:=cT Addr.block (cO e);rw[r]at f;injection f with f;injection f with f;subst f;subst F;refine⟨by rw[u];exact v,.inr ⟨b,c,d,A,rfl,m,by rw[s];exact B,C,D,λj G=>n j (by omega),λj G H=>?_⟩⟩;rw[g j (by omega)];exact E j (by omega) (by omega)
variable{G:Gd}{da:Option Addr}{dc:Nat}{w:cn}
def mc(b:gC):gC->gC->Int
 |_,[]=>0
 |a,d::r=>if RM d b then(if RM d a then 4 else mc b (a++[d]) r)else 3
def zy(b a:gC)(k:Nat)(c:k<a.length):mc b (a.take k) (a.drop k)=if RM a[k] b then(if RM a[k] (a.take k)then 4 else mc b (a.take (k+1)) (a.drop (k+1)))else 3:=by rw[sn c,jc c];rfl
def lQ(s:Int)(a b:gC):List Tq:=b.map λd=>⟨d,s,RM d a⟩
def mn(G:Gd)(l:List Tq)(s:Int)(a b:gC):Int:=
 if dP G l s 0≠0 then dP G l s 0
 else if ig G.doors.length a≠0 then ig G.doors.length a
 else if mc a [] b≠0 then mc a [] b
 else jQ G (l++lQ s b a)
def Ci(G:Gd)(l:List Tq)(s:Int)(a b:gC)(c:Nat)(v:cq)(w:cn):Prop:=
 (mn G l s a b≠0/\v=.tuple #[.slice none 0 0,.int .i64 (mn G l s a b)])\/(mn G l s a b=0/\∃u,v=.tuple #[u,.int .i64 0]/\pY c w u (l++lQ s b a))
def zz(s:Int)(b a:gC)(k:Nat)(c:k<a.length):lQ s b (a.take (k+1))=lQ s b (a.take k)++[⟨a[k],s,RM a[k] b⟩]:=by unfold lQ;rw[jc c,vB];rfl
end Go.Proofs.W
namespace Go.Proofs.W
open Go.Conc
end Go.Proofs.W
namespace Go.Proofs.W
open Go.RowKit
section
variable{G:Gd}{da:Option Addr}{dc:Nat}{w:cn}
end
section
variable{G:Gd}{da:Option Addr}{dc:Nat}{w:cn}
end
section
variable{G:Gd}{da:Option Addr}{dc:Nat}{w:cn}
end
def gU.at{d:List cz}(h:gU m w x d)(i:k<d.length):∃b c a e,x=.slice (some ⟨b,0,none⟩) d.length c/\w.cell? ⟨b,k,none⟩=some (.slice a d[k].length e)/\fE m w (.slice a d[k].length e) d[k]/\fN w a d[k]/\d[k].length<=e:=by obtain⟨r,⟨s,⟨t,rfl⟩|⟨b,c,v,y,rfl,j,z,A,B,l,C⟩⟩,D,f⟩:=h;omega;obtain⟨u,n,g⟩:=f k i;obtain⟨o,e,rfl,p,q⟩:=g.row;exact⟨b,c,o,e,rfl,cr j (by rw[l k (by omega)];exact n),g,p,q⟩
section
variable{G:Gd}{da:Option Addr}{dc:Nat}{w:cn}
end
structure TY(G:Gd)(l:List Tq):Prop where
 g:dK G=0
 sh:∀q∈l,0<=q.shift/\q.shift<=1000
 len:(fQ G l).2.length=G.doors.length
 both:∀d:Nat,d<G.doors.length->oI (dZ l) ((fQ G l).2.getD d lM) (qp d qo l)
theorem Fx{G:Gd}(x:G.days<=3):∀(l a:List Tq) (b:List Sx),b.length=G.doors.length->(∀d:Nat,d<G.doors.length->oI (dZ a) (b.getD d lM) (qp d qo a))->(nH G b (dZ a) l).1=0->(∀q∈l,0<=q.shift/\q.shift<=1000)/\(nH G b (dZ a) l).2.length=G.doors.length/\∀d:Nat,d<G.doors.length->oI (dZ (a++l)) ((nH G b (dZ a) l).2.getD d lM) (qp d qo (a++l))
 |[],a,b,g,f,_=>⟨λq y=>by simp at y,g,by rw[List.append_nil];exact f⟩
 |q::r,a,b,g,f,h=>by
  simp only[nH]at h⊢;by_cases i:(kP q.door 0 ((G.doors.kq:Int)-1)&&kP q.shift 0 (2*G.days-1))=true;rw[cB i]at h⊢;simp only[kP,dW,iQ]at i;obtain⟨d,j⟩:∃d:Nat,q.door=(d:Int):=⟨q.door.toNat,by omega⟩;obtain⟨s,p⟩:∃s:Nat,q.shift=(s:Int):=⟨q.shift.toNat,by omega⟩;have k:d<G.doors.kq:=by omega
  have m:s<6:=by omega
  have z:=f d k;by_cases t:q.shift<dZ a;rw[cB t]at h;cases h;rw[cy t]at h⊢;have A:q.shift.toNat=s:=by omega
  have n:q.door.toNat=d:=by omega
  rw[A,n]at h⊢;by_cases u:nO (b.getD d lM) (s/2)=true;rw[cB u]at h;cases h;rw[cy u]at h⊢;by_cases v:eZ G.tries (b.getD d lM)=true;rw[cB v]at h;cases h;rw[cy v]at h⊢;have e:q.shift=dZ (a++[q]):=(mK a q).symm;rw[e]at h⊢;have:=Fx x r (a++[q]) _ (by simpa using g) (λw o=>?_) h;rw[List.append_assoc]at this;refine⟨λB c=>?_,this.2⟩;rcases eO.1 c with rfl|c;omega;exact this.1 B c;rw[mK,uB,p];by_cases C:w=d;subst C;rw[cB j,jG,List.getElem?_set_self (by omega)];exact z.step q s p m (by omega);rw[cy (by omega),jG,List.getElem?_set_ne (by omega),<-jG];exact(f w o).mono (by omega);rw[cy i]at h;cases h
def pj{G:Gd}{l:List Tq}(h:jQ G l=0):TY G l:=by
 have a:dK G=0:=by unfold jQ at h;by_cases b:dK G=0;exact b;rw[cy b]at h;exact absurd h b
 have c:(fQ G l).1=0:=by unfold jQ at h;rwa[cB a]at h
 have:=Fx (eQ a).days.2 l [] _ (by simp) (λd e=>by rw[jG,List.getElem?_replicate,cB e];exact oI.zero) c;exact⟨a,this.1,this.2.1,this.2.2⟩
def A7(b:Nat)(a:Int)(l:cz)(v:cq)(w:cn):Prop:=(a≠0/\v=.tuple #[.slice none 0 0,.int .i64 a])\/(a=0/\∃u,v=.tuple #[u,.int .i64 0]/\fE b w u l)
section
variable{G:Gd}{da:Option Addr}{dc:Nat}{w:cn}{l:List Tq}{la:Option Addr}{lc:Nat}
end
def P7(c:Nat)(a:Int)(G:Gd)(b:List Sx)(v:cq)(w:cn):Prop:=(a≠0/\v=.tuple #[.slice none 0 0,.int .i64 a])\/(a=0/\∃u,v=.tuple #[u,.int .i64 0]/\sL c w u G b (dn G.tries b))
section
variable{G:Gd}{da:Option Addr}{dc:Nat}{w:cn}{l:List Tq}{la:Option Addr}{lc:Nat}
end
variable{G:Gd}{da:Option Addr}{dc:Nat}{w:cn}
def qk{l:List Tq}(h:dP G l I J=0):dK G=0/\jQ G l=0:=by
 have a:jQ G l=0:=by unfold dP at h;by_cases a:jQ G l=0;exact a;rw[cy a]at h;exact absurd h a
 refine⟨?_,a⟩;unfold jQ at a;by_cases b:dK G=0;exact b;rw[cy b]at a;exact absurd a b
def zA(X:fZ w da G.doors)(z:G.doors.length<=100000){l:List Tq}{A:Option Addr}{lc:Nat}(R:ja w A l)(C:A=none->l.length=0)(Y:l.length<=1000)(s:Int){wk op:List Int}{x q:Option Addr}{wc oc:Nat}(D:gF w x wk)(Z:wk.length<=1000)(E:wk.length<=wc)(F:gF w q op)(aa:op.length<=1000)(ab:op.length<=oc):
 Calls V.prog 77 #[gV G da dc,.slice A l.length lc,.int .i64 s,.slice x wk.length wc,.slice q op.length oc] w (fi λv r=>Ext w r/\Ci G l s wk op w.heap.size v r):=by
 refine gd Tryz.func77 Tryz.ntmps77 ?_;refine ej λw1 gb B ac hb=>?_;refine dA hb (cD (mJ (dc:=dc) (lc:=lc) (X.ext B) z (R.ext B) (by omega) s 0) ?_);rintro v w2 ⟨S,⟨i,rfl⟩|⟨i,T,gp,mk,ms,rfl,H,hx⟩⟩;exact fD (jZ (by simpa using i) ⟨_,rfl,B.trans S,.inl ⟨by rw[mn,cB i];exact i,by rw[mn,cB i];rfl⟩⟩);have c:=B.trans S;have d:mn G l s wk op=if ig G.doors.length wk≠0 then ig G.doors.length wk else if mc wk [] op≠0 then mc wk [] op else jQ G (l++lQ s op wk):=by rw[mn,cy (λh=>h i)]
 have hG:=(qk i).1;obtain⟨sa,sc,U,g2,g3,g4⟩:=H.k.at_;have I:=AG (lc:=wc) H.k.g (D.ext c) (by omega) E;refine fD (lx rfl (cu U (dg I (fD ⟨λh=>?_,λh=>?_⟩))));have h:¬ig G.doors.length wk=0:=dO h;exact⟨_,rfl,c,.inl ⟨by rw[d,cB h];exact h,by rw[d,cB h];rfl⟩⟩;rw[cy (ee h)]at d;refine cS ?_;refine eE (n:=op.length) (λk=>[(1,.slice A l.length lc),(2,i64 s),(3,.slice x wk.length wc),(4,.slice q op.length oc),(12,cM T),(41,.slice q op.length oc),(42,i64 op.length),(43,i64 k)]) (λk r=>r=w2/\mc wk [] op=mc wk (op.take k) (op.drop k)) ⟨by trivial,rfl,rfl⟩ ?_ ?_ ?_;rintro k y j hJ;exact du ⟨rfl,rfl,by trivial,hJ⟩;rintro k y j ⟨rfl,m⟩;rw[zy wk op k j]at m;obtain⟨b,o,J,K⟩:=(F.ext c) k j;have i:=BL wk op[k] x wc y (D.ext c) (by omega);have t:=BL (op.take k) op[k] q oc y ((F.take k).ext c) (by simp;omega);rw[KT,Nat.min_eq_left (by omega)]at t;subst J;refine fw k j (cu K (dg i (ei ⟨λh=>?_,λh=>?_⟩)));have e:mc wk [] op=3:=by rw[m,cy (by simpa using h)]
 exact⟨_,rfl,c,.inl ⟨by rw[d,cB (by rw[e];decide),e];decide,by rw[d,cB (by rw[e];decide),e];rfl⟩⟩;rw[cB (by simpa using h)]at m;refine pF k (by omega) (dg t ⟨λh=>?_,λh=>?_⟩);have e:mc wk [] op=4:=by rw[m,cB h]
 exact⟨_,rfl,c,.inl ⟨by rw[d,cB (by rw[e];decide),e];decide,by rw[d,cB (by rw[e];decide),e];rfl⟩⟩;rw[cy (by rw[h];decide)]at m;exact cF ⟨by trivial,rfl,m⟩;rintro y ⟨rfl,m⟩;rw[List.drop_length]at m;rw[cy (by rw[m];exactλh=>h rfl)]at d;refine cD (zw (R.ext c) C (by omega)) ?_;rintro v w4 ⟨e4,e⟩;have s2:=c.size;refine cS ?_;refine gT (n:=wk.length) (λk v=>[(1,.slice A l.length lc),(2,i64 s),(3,.slice x wk.length wc),(4,.slice q op.length oc),(12,cM T),(17,v),(62,.slice x wk.length wc),(63,i64 wk.length),(64,i64 k)]) (λk v r=>Ext y r/\pY y.heap.size r v (l++lQ s op (wk.take k))) v ⟨by trivial,e4,by simpa[lQ]using e⟩ ?_ ?_ ?_;rintro k v L j ⟨f,a⟩;exact du ⟨rfl,rfl,by trivial,f,a⟩;rintro k v L j ⟨f,a⟩;have W:=c.trans f;obtain⟨b,o,M,K⟩:=(D.ext W) k j;have N:=BL op wk[k] q oc L (F.ext W) (by omega);subst M;refine fw k j (cu K (dg N ?_));refine dS (.agg (nQ ⟨wk[k],s,RM wk[k] op⟩).toArray) (eg (nQ ⟨wk[k],s,RM wk[k] op⟩) 84 λw6 nb p ad O=>gq NC (cR.ext a p) (by have:=f.size;have:=p.size;omega) O (by simp[lQ];omega) λv' w7 P k7 _=>cF ⟨v',by trivial,(f.trans p).ia k7 (cR.ext a p) (cJ _),?_⟩);rw[zz s op wk k j,<-List.append_assoc];unfold pY;rw[jA,List.flatMap_append];simpa using P;rintro v L ⟨f,a⟩;rw[mW]at a;obtain⟨a5,c5,rfl,Q,ae⟩:=a.row;refine cu (f.cell U) (cD (RX (lc:=c5) (H.k.g.ext f) Q (by simp[lQ];omega)) ?_);have u:jQ G (l++lQ s op wk)=(fQ G (l++lQ s op wk)).1:=by unfold jQ;rw[cB hG]
 rintro v w6 ⟨p,⟨t,rfl⟩|⟨t,_,_,sb,_,rfl,_⟩⟩;exact fD (jZ (by simpa using t) ⟨_,rfl,(c.trans f).trans p,.inl ⟨by rw[d,u];exact t,by rw[d,u];rfl⟩⟩);exact fD (lx rfl ⟨_,rfl,(c.trans f).trans p,.inr ⟨by rw[d,u];exact t,_,rfl,(cR.ext a p).low s2⟩⟩)
section
variable{G:Gd}{da:Option Addr}{dc:Nat}{w:cn}{l:List Tq}{la:Option Addr}{lc:Nat}
end
section
variable{G:Gd}{da:Option Addr}{dc:Nat}{w:cn}{l:List Tq}{la:Option Addr}{lc:Nat}
def Kr(j:fZ w da G.doors)(b:G.doors.length<=100000)(k:ja w la l)(d:l.length<=1000):
 Calls V.prog 73 #[gV G da dc,.slice la l.length lc] w (fi λv f=>Ext w f/\A7 w.heap.size (jQ G l) (lh G.tries (fQ G l).2 G.doors.length) v f):=by
 by_cases c:jQ G l=0;have L:=pj c;have n:(fQ G l).1=0:=by unfold jQ at c;rwa[cB L.g]at c
 refine(Ke (dc:=dc) (lc:=lc) j L.g k d n).mono λe f h=>?_;obtain⟨v,rfl,a,u,rfl,m⟩:=h;rw[L.len]at m;exact⟨_,rfl,a,.inr ⟨c,u,rfl,m⟩⟩;refine gd Tryz.func73 Tryz.ntmps73 ?_;refine ej λr s i o p=>dA p (cD (mP (dc:=dc) (j.ext i) b (k.ext i) (by omega)) ?_);rintro v t ⟨q,⟨a,rfl⟩|⟨a,_⟩⟩;exact fD (jZ (by simpa using a) ⟨_,rfl,i.trans q,.inl ⟨a,rfl⟩⟩);exact absurd a c
def Ks(j:fZ w da G.doors)(b:G.doors.length<=100000)(k:ja w la l)(d:l.length<=1000):
 Calls V.prog 72 #[gV G da dc,.slice la l.length lc] w (fi λv f=>Ext w f/\P7 w.heap.size (jQ G l) G (fQ G l).2 v f):=by
 by_cases c:jQ G l=0;have L:=pj c;have m:(fQ G l).1=0:=by unfold jQ at c;rwa[cB L.g]at c
 refine(ND (dc:=dc) (lc:=lc) j L.g k d m).mono λe f h=>?_;obtain⟨v,rfl,a,u,rfl,n⟩:=h;exact⟨_,rfl,a,.inr ⟨c,u,rfl,n⟩⟩;refine gd Tryz.func72 Tryz.ntmps72 ?_;refine ej λr s i o p=>dA p (cD (mP (dc:=dc) (j.ext i) b (k.ext i) (by omega)) ?_);rintro v t ⟨q,⟨a,rfl⟩|⟨a,_⟩⟩;exact fD (jZ (by simpa using a) ⟨_,rfl,i.trans q,.inl ⟨a,rfl⟩⟩);exact absurd a c
end
section
variable{x y:dw}{w:cn}
def Sm(d:Nat)(q:Du):Sem.run V.prog (do eqGuard .neq 101 x y (.agg (nR d q).toArray) (.agg (nR d q).toArray);binOp .neq 101 (.agg (nR d q).toArray) (.agg (nR d q).toArray)) w=.ok (.bool false) w:=by obtain⟨a,b,c⟩:=q;show Sem.run jD (do eqGuard .neq 101 x y (.agg #[i64 d,i64 a,.bool b,.bool c]) (.agg #[i64 d,i64 a,.bool b,.bool c]);binOp .neq 101 (.agg #[i64 d,i64 a,.bool b,.bool c]) (.agg #[i64 d,i64 a,.bool b,.bool c])) w=.ok (.bool false) w;go_simp
end
abbrev ww(G:Gd)(a:List Sx):cn->Option Addr->List Nat->Prop:=ir (λd=>nR d (fT G (a.getD d lM))) 4
def sL.gen{G:Gd}{d:List Sx}{e:Nat}{w:cn}{b:cz}(h:sL e w z G d b):∃a c,z=.slice a b.length c/\ww G d w a b/\b.length<=c:=ir.own h rfl λ_=>rfl
def Hi{G:Gd}{xs:List Sx}{l:List Nat}{la c:Option Addr}{lc d:Nat}{w:cn}(s:ww G xs w la l)(h:ww G xs w c l)(p:l.length<=100000):
 Calls V.prog 84 #[.slice la l.length lc,.slice c l.length d] w (fi λv g=>v=.bool true/\Ext w g):=by
 refine gd Tryz.func84 Tryz.ntmps84 ?_;refine cS (cS (fD (lx (by simp) ?_)));refine fW l.length (λk (_:Unit)=>[(0,.slice la l.length lc),(1,.slice c l.length d),(5,i64 k)]) (λk _ g=>Ext w g) () ⟨by trivial,Ext.refl _⟩ ?_;rintro k _ g x e;refine cS (du ⟨λa=>?_,λt=>⟨_,rfl,rfl,e⟩⟩);have a:k<l.length:=by simpa using a
 obtain⟨b,o,rfl,r⟩:=s k a;obtain⟨y,z,rfl,f⟩:=h k a;simp only at r f;generalize fT G (xs.getD l[k] lM)=q at*;exact cX cV (gE k 4 a (dx (.agg (nR l[k] q).toArray) (λi m=>dJ (vs:=nR l[k] q) (λj v n=>(e.trans m).cell (r j v n)) ⟨rfl,Ext.refl _⟩) (gE k 4 a (dx (.agg (nR l[k] q).toArray) (λi m=>dJ (vs:=nR l[k] q) (λj v n=>(e.trans m).cell (f j v n)) ⟨rfl,Ext.refl _⟩) (dx (.bool false) (λi _=>⟨_,i,Sm _ _,rfl,Ext.refl _⟩) λA u=>lx rfl (cF ⟨a,(),by trivial,e.trans u⟩))))))
def ir.ext{c:Type}{f:c->dr}{l:List c}(h:ir f m w a l)(e:Ext w t):ir f m t a l:=λk d=>by obtain⟨b,o,g,i⟩:=h k d;exact⟨b,o,g,λj v n=>e.cell (i j v n)⟩
section
variable{G:Gd}{L:Nat->Nat}
end
section
variable{G:Gd}{xs:List Sx}
end
section
variable{G:Gd}{xs:List Sx}{f:Nat}{ps:List (Nat×List Nat)}
end
section
variable{H G:Gd}{ns:List Nat}
section
variable{xs ys:List Sx}{S:List Nat}{f:Nat}
end
end
section
variable{G:Gd}{l:List Ty}{s f:Nat}{S:List Nat}
end
end Go.Proofs.W
variable{A B C:Nat->Prop}
namespace Go.Proofs.W
open Go.RowKit
theorem ml.keep{d:List (Nat×cz)}(h:ml m w x d)(e:cW A w t)(a:∀b,m<=b->¬A b):ml m t x d:=by obtain⟨i,j,f,l⟩:=h;exact⟨i,j,cR.keep f e λb c=>a b (cR.blk f c).1,λk n=>by obtain⟨u,o,g⟩:=l k n;exact⟨u,o,cR.keep g e λb c=>a b (cR.blk g c).1⟩⟩
section
variable{w:cn}{kx:cq->Prop}{kr kp kl:gy->Prop}{lb ea:Bool}
def Cg{x y:dw}{m:Int}{a:IntKind}(h:kx (.bool false)):vS Ext Ext w (λb f=>jj V.prog (do eqGuard .neq T x y (.int a m) (.int a m);binOp .neq T (.int a m) (.int a m)) b f) kx kr kp lb kl ea:=
 .exact _ (λ_ _=>fD ⟨cT Value.bool (by simp),Ext.refl _⟩) h
end
section
variable{α:Type}{f:cn->Option Addr->List α->Prop}{l:List α}{A:Int}
end
section
variable{G:Gd}{da:Option Addr}{dc:Nat}{w:cn}{l:List Int}{la:Option Addr}{lc:Nat}
def wL(h:my G l=0):dK G=0/\ig G.doors.length l=0/\∃a:cz,l=pI a/\l.map Int.toNat=a/\l.length=a.length/\∀d∈a,d<G.doors.length:=by unfold my at h;by_cases b:dK G=0;rw[cB b]at h;obtain⟨a,rfl,c⟩:=od h;exact⟨b,h,a,rfl,by simp[pI,Ct],by simp[pI],c⟩;rw[cy b]at h;exact absurd h b
def r9(G:Gd)(l:gC):cq:=if my G l=0 then .tuple #[.int .i64 (MK G (l.map Int.toNat)),.int .i64 0]else .tuple #[.int .i64 0,.int .i64 (my G l)]
def zD(u:fZ w da G.doors)(j:G.doors.length<=100000)(r:gF w la l)(x:l.length<=1000)(y:l.length<=lc):Calls V.prog 61 #[gV G da dc,.slice la l.length lc] w (fi λv z=>v=r9 G l/\Ext w z):=by
 refine gd Tryz.func61 Tryz.ntmps61 ?_;refine ej λH I c A s=>dA s (cD (yG (dc:=dc) (u.ext c) j (r.ext c) (by omega) y) ?_);rintro v J ⟨e,⟨i,rfl⟩|⟨i,K,mk,L,rfl,t⟩⟩;have a:my G l=dK G:=by simp[my,i]
 exact fD (jZ (by simpa using i) ⟨_,rfl,by rw[r9,a,cy i];rfl,c.trans e⟩);have a:my G l=ig G.doors.length l:=by simp[my,i]
 refine fD ⟨λh=>?_,λh=>?_⟩;have h:¬ig G.doors.length l=0:=dO h;exact⟨_,rfl,by rw[r9,a,cy h];rfl,c.trans e⟩;have h:my G l=0:=by rw[a];simpa using h
 obtain⟨_,_,p,rfl,q,B,k⟩:=wL h;have m:=e.at_ s;have n:=(r.ext (c.trans e)).En;rw[B]at x⊢;have C:=eQ i;have D:=C.many;refine cX cV (fh _ (λE b=>BK (t.ext b).g k (by omega) (n.ext b)) (cK (cr m rfl) (TE λE b=>⟨λd=>?_,λd=>?_⟩)));have d:iU G p<=G.minutes:=dO d;exact⟨_,rfl,by rw[r9,cB h,q,MK,cB d];rfl,(c.trans e).trans b⟩;have d:¬iU G p<=G.minutes:=ee d;refine cX cV (fh _ (λF o=>Ej (t.ext (b.trans o)).g k (by omega) (n.ext (b.trans o))) (cK (cr (b.at_ m) rfl) (yA λF o=>⟨λf=>?_,λf=>?_⟩)));have f:G.minutes<iG G p:=dO f;exact⟨_,rfl,by rw[r9,cB h,q,MK,cy d,cB f];rfl,((c.trans e).trans b).trans o⟩;have f:¬G.minutes<iG G p:=ee f;exact⟨_,rfl,by rw[r9,cB h,q,MK,cy d,cy f];rfl,((c.trans e).trans b).trans o⟩
end
section
variable{G:Gd}{da:Option Addr}{dc:Nat}{w:cn}{la:Option Addr}{lc:Nat}
def Fw{l:List Int}(t:fZ w da G.doors)(m:G.doors.length<=100000)(E:gF w la l)(J:l.length<=1000)(K:l.length<=lc):
 Calls V.prog 66 #[gV G da dc,.slice la l.length lc] w (fi λv F=>Ext w F/\A7 w.heap.size (my G l) (dX G (io (l.map Int.toNat))) v F):=by
 refine gd Tryz.func66 Tryz.ntmps66 ?_;refine ej λT U j L x=>dA x (cD (yG (dc:=dc) (t.ext j) m (E.ext j) (by omega) K) ?_);rintro v M ⟨y,⟨f,rfl⟩|⟨f,W,mk,X,rfl,z⟩⟩;have e:my G l=dK G:=by simp[my,f]
 exact fD (jZ (by simpa using f) ⟨_,rfl,j.trans y,.inl ⟨by rw[e];exact f,by rw[e];rfl⟩⟩);have e:my G l=ig G.doors.length l:=by simp[my,f]
 refine fD ⟨λh=>?_,λh=>?_⟩;have h:¬ig G.doors.length l=0:=dO h;exact⟨_,rfl,j.trans y,.inl ⟨by rw[e];exact h,by rw[e];rfl⟩⟩;have h:my G l=0:=by rw[e];simpa using h
 obtain⟨_,_,k,rfl,N,O,p⟩:=wL h;have A:=(eQ f).many;have q:=j.trans y;have B:=(E.ext q).En;rw[N];rw[O]at J⊢;have i:=nP.io (G:=G) A (l:=k) p;refine dg (rS k la lc M B (λd t=>by have:=p d t;omega) (by omega)) (cD (Ez (n0:=w.heap.size) z.g (λb x=>x.elim) z.Uw (by have:=z.lo;have:=j.size;omega) i.1 i.2) ?_);rintro _ H ⟨P,_,a,c,rfl,C,Q⟩;have I:Ext w H:=P.from q (cJ _);have r:=C.n;refine cD (Mv a (dX G (io k)).length c (jy (dX G (io k))) H (by simp[jy]) (λh=>?_) r.cells (Ek _) ?_) ?_;rcases mY (dX G (io k)).length with D|D;exact D;obtain⟨b,o,f,_⟩:=r 0 D;rw[h]at f;cases f;have:=ut (G:=G) (s:=io k);omega;rintro u Y ⟨R,S⟩;exact⟨_,rfl,I.trans R,.inr ⟨h,u,rfl,S.low I.size⟩⟩
end
def hZ(G:Gd)(a:List Sx)(c:Int)(f:Nat):Prop:=(uy (jo G a f)).2=true/\(uy (jo G a f)).1<=c
def A6(G:Gd)(a:List Sx)(b:Nat)(c:Int)(v:cq):Prop:=
 (∃t:Nat,v=.tuple #[.int .i64 t,.int .i64 0]/\b<=t/\t<eS G/\hZ G a c t/\∀s,t<s->s<eS G->¬hZ G a c s)\/(v=.tuple #[.int .i64 0,.int .i64 11]/\∀s,b<=s->s<eS G->¬hZ G a c s)
def nL{dc:Nat}{l:List Tq}{la:Option Addr}{lc:Nat}(R:fZ w a H.doors)(o:H.doors.length<=100000)(S:ja w la l)(D:l.length<=100000)(T:jQ H l=0)(b:Nat)(E:dZ l=b)(c:Nat)(hc:c<=5):
 Calls V.prog 62 #[gV H a dc,.slice la l.length lc,.int .i64 c] w (ux λv y=>Ext w y/\A6 H (fQ H l).2 b c v):=by
 refine gd Tryz.func62 Tryz.ntmps62 ?_;refine ej λw1 gb p U F=>dA F (cD (mP (dc:=dc) (R.ext p) o (S.ext p) D) ?_);rintro v W ⟨O,⟨z,rfl⟩|⟨_,X,gp,mk,P,rfl,B,Q⟩⟩;exact absurd T z;have s1:=p.size;have Y:=B.g.lo;have Z:=B.k.g.uh.days;obtain⟨m,G⟩:∃m,m=(fQ H l).2:=⟨_,rfl⟩;have n:=B.k;rw[<-G]at n Q⊢;rw[E]at n;obtain⟨L,hL⟩:∃L,L=eS H:=⟨_,rfl⟩;have I:(L:Int)=2*H.days:=by rw[hL];unfold eS;omega
 have aa:=n.bf;have J:∀x∈m,tD 100000 x:=λx K=>by obtain⟨⟨a1,a2⟩,⟨a3,a4⟩,a5,a6⟩:=Q x K;exact⟨⟨by omega,by omega⟩,⟨by omega,by omega⟩,by omega,by omega⟩
 obtain⟨sa,sc,q1,q2,q3,q4⟩:=n.at_;refine fD (lx (by simp) (dg (eY _ _ _ _) (ei (lx (by simp[kP];omega) ?_))));refine cu q1 (dg (last_at n.g) ?_);refine fW (L-b) (λk (_:Unit)=>[(2,i64 c),(8,cM X),(10,i64 ((L:Int)-1-k))]) (λk _ y=>MA w.heap.size mk P H (λ_=>False) W y/\∀s,L-k<=s->s<L->¬hZ H m c s) () ⟨⟨rfl,rfl,?_,trivial⟩,(wO _ _ _ _ _).refl _,λs z e=>by omega⟩ ?_;show some (Value.int .i64 (2*H.days-1))=some _;rw[<-I];simp;rintro k _ w3 ab ⟨C,i⟩;have q:=n.gG C.1;obtain⟨ac,ad,p1,p2,p3,p4⟩:=q.at_;refine cu p3 (yz ⟨λr=>?_,λt=>?_⟩);have r:(b:Int)<=(L:Int)-1-k:=dO r;have u:k<L-b:=by omega
 obtain⟨f,hf⟩:∃f,f=L-1-k:=⟨_,rfl⟩;have M:(L:Int)-1-k=(f:Nat):=by omega
 rw[M];refine iW (JY (n0:=w.heap.size) (A:=λ_=>False) q (λb E=>E.elim) (C.2 B.g.Uw) (by omega) (by omega) J (by omega)) (λy h=>.inr ⟨rfl,h⟩) ?_;rintro _ w4 ⟨m4,rfl⟩;have j:=(wO w.heap.size mk P H (λ_=>False)).trans _ _ _ C m4;have E4:Ext w w4:=j.1.from (p.trans O) (cJ _);have d:¬hZ H m c f->∀s,L-(k+1)<=s->s<L->¬hZ H m c s:=λh s z e=>by by_cases hs:s=f;rw[hs];exact h;exact i s (by omega) e
 have step:some (Value.int .i64 ((f:Int)-1))=some (i64 ((L:Int)-1-(k+1:Nat))):=by congr 2;omega
 refine⟨λe=>ue ⟨λN=>?_,λN=>?_⟩,λe=>lx rfl (fx ⟨u,(),⟨rfl,rfl,step,trivial⟩,j,d λh=>?_⟩)⟩;exact .inl ⟨_,rfl,E4,.inl ⟨f,rfl,by omega,by omega,⟨e,dO N⟩,λs h4 h5=>i s (by omega) (by omega)⟩⟩;exact fx ⟨u,(),⟨rfl,rfl,step,trivial⟩,j,d λh=>ee N h.2⟩;rw[h.1]at e;cases e;have t:¬(b:Int)<=(L:Int)-1-k:=ee t;exact .inl ⟨_,rfl,C.1.from (p.trans O) (cJ _),.inr ⟨rfl,λs z e=>i s (by omega) (by omega)⟩⟩
end Go.Proofs.W
variable{W X:Array cq}{D E:Bool}{O Q:Go.Obj}{S:cn->Prop}
namespace Go.Proofs.W
open Go.RowKit
structure Ce(S:List (Nat×Obj×Obj))(a b:cn):Prop where
 k:cW (λx=>∃s∈S,s.1=x) a b
 s:∀x o n,(x,o,n)∈S->(a.heap[x]? =some o\/a.heap[x]? =some n->b.heap[x]? =some o\/b.heap[x]? =some n)/\(a.heap[x]? =some n->b.heap[x]? =some n)
def Ck(S:List (Nat×Obj×Obj)):fJ (Ce S):=
 ⟨λw=>⟨cW.refl _ w,λ_ _ _ _=>⟨id,id⟩⟩,λa b c h k=>⟨h.k.trans k.k (λ_ _ h=>h) λ_ _ h=>h,λx o n d=>⟨λe=>(k.s x o n d).1 ((h.s x o n d).1 e),λe=>(k.s x o n d).2 ((h.s x o n d).2 e)⟩⟩,λw=>⟨(Ext.drew w).keep _,λx o n d=>⟨λh=>h.imp (Ext.drew w).at_ (Ext.drew w).at_,λh=>(Ext.drew w).at_ h⟩⟩⟩
def Ce.of{S:List (Nat×Obj×Obj)}(d:(m,O,Q)∈S)(f:∀b a,(m,b,a)∈S->a=Q)(k:cW (λy=>y=m) w t)(c:t.heap[m]? =some Q):Ce S w t:=
 ⟨k.trans (cW.refl (λ_=>False) _) (λy _ g=>⟨_,d,g.symm⟩) λ_ _ h=>h.elim,λy b a i=>by by_cases e:y=m;subst e;rw[f b a i];exact⟨λ_=>.inr c,λ_=>c⟩;exact⟨λh=>h.imp (λh=>k.fe h e) λh=>k.fe h e,λh=>k.fe h e⟩⟩
def gJ{k:nd}{x y:dw}{a:IntKind}(h:k (.bool false) w):jj V.prog (do eqGuard .neq T x y (.int a I) (.int a I);binOp .neq T (.int a I) (.int a I)) w k:=fD (by simpa using h)
def sI(b:w.heap[m]? =some (.cells W T))(c:o+1<=W.size)(h:∀a,cW (λx=>x=m) w a->a.heap[m]? =some (.cells (gl W o [.int .i64 I]) T)->S a):DO V.prog (Instr.storeAt 3 (.pointer (some ⟨m,o,none⟩)) (.int .i64 I)) w S:=iT (v:=i64 I) b c h (fK rfl)
def tz(u:cq)(w:cn):Prop:=∃b,u=gV fy (some ⟨b,0,none⟩) 4/\fZ w (some ⟨b,0,none⟩) fy.doors
def tz.st:∀v a b,tz v a->Ext a b->tz v b:=λ_ _ _ ⟨b,c,d⟩ e=>⟨b,c,d.ext e⟩
def uE{d:cq->Prop}{c f g:gy->Prop}{a:List PanicEntry->cU}(k:c tz):vS Ext Ext w (λh i=>O9 V.prog 95 [] h i a) d c f D g E:=.rel tz tz.st (λ_ _=>rW λl b e j=>⟨⟨b,rfl,j⟩,e⟩) k
def cell_of(h:w.heap[m]? =some (.cells M.toArray T))(a:M[i]? =some x):w.cell? ⟨m,0+i,none⟩=some x:=by rw[cG];exact cr h (by simpa using a)
def rG:Gd:={fy with tries:=4}
def zI:List Dr:=[⟨0,3,5⟩,⟨0,8,2⟩,⟨1,5,4⟩,⟨2,2,6⟩]
def D6:Gd:={fy with doors:=zI}
def xm:Gd:={fy with doors:=[⟨0,0,0⟩,⟨0,0,0⟩,⟨0,0,0⟩,⟨0,0,0⟩,⟨0,0,0⟩,⟨0,0,0⟩]}
def tx:Gd:={fy with minutes:=20}
def uG{G:Gd}{e:Int}(b:fZ w a G.doors)(c:G.doors.length<=100000)(d:dK G=e):Calls V.prog 87 #[gV G a m] w (fi λv f=>v=.int .i64 e/\Ext w f):=d▸IH b c
def xn{x y:dw}(a b:Int):Sem.run V.prog (do eqGuard .neq 56 x y (.agg (mz a b).toArray) (.agg (mz a b).toArray);binOp .neq 56 (.agg (mz a b).toArray) (.agg (mz a b).toArray)) w=.ok (.bool false) w:=by show Sem.run jD (do eqGuard .neq 56 x y (.agg #[i64 a,i64 b]) (.agg #[i64 a,i64 b]);binOp .neq 56 (.agg #[i64 a,i64 b]) (.agg #[i64 a,i64 b])) w=.ok (.bool false) w;go_simp
def uH:vg fy [0,1]=.tuple #[.agg (mz 18 25).toArray,.int .i64 0]/\vg fy []=.tuple #[.agg (mz 0 0).toArray,.int .i64 0]/\vg fy [0,0]=.tuple #[.agg (mz 0 0).toArray,.int .i64 4]:=by
 have a:my fy [0,1]=0/\my fy []=0/\my fy [0,0]=4/\iG fy [0,1]=18/\iU fy [0,1]=25/\iG fy []=0/\iU fy []=0:=by decide+kernel
 obtain⟨a,c,b,d,e,f,g⟩:=a;refine⟨?_,?_,?_⟩;rw[vg,cB a];show Value.tuple #[.agg (mz (iG fy [0,1]) (iU fy [0,1])).toArray,i64 0]=_;rw[d,e];rw[vg,cB c];show Value.tuple #[.agg (mz (iG fy []) (iU fy [])).toArray,i64 0]=_;rw[f,g];rw[vg,cy (by rw[b];decide),b]
def uI:r9 fy [0,1]=.tuple #[.int .i64 1,.int .i64 0]/\r9 fy [0,1,2,3]=.tuple #[.int .i64 3,.int .i64 0]/\r9 fy [0,2,1,3]=.tuple #[.int .i64 2,.int .i64 0]:=by
 have h:(my fy [0,1]=0/\my fy [0,1,2,3]=0/\my fy [0,2,1,3]=0)/\MK fy [0,1]=1/\MK fy [0,1,2,3]=3/\MK fy [0,2,1,3]=2:=by decide+kernel
 obtain⟨⟨a,b,c⟩,d,e,f⟩:=h;refine⟨?_,?_,?_⟩;rw[r9,cB a];exact cT (λz=>Value.tuple #[i64 z,i64 0]) d;rw[r9,cB b];exact cT (λz=>Value.tuple #[i64 z,i64 0]) e;rw[r9,cB c];exact cT (λz=>Value.tuple #[i64 z,i64 0]) f
def zF(h:w.heap[m]? =some (.cells (mz I J).toArray T)):∀j v,(mz I J)[j]? =some v->w.cell? ⟨m,0+j,none⟩=some v:=λj v a=>cell_of h a
def zq(w:cn):gF w none []:=λk a=>by simp at a
def qu:(my fy [3,1]=0/\dX fy (io [3,1])=[1,3])/\my fy [3,2,1,0]=0/\dX fy (io [3,2,1,0])=[0,1,2,3]:=by decide+kernel
def l8:(my fy [1,2]=0/\gH fy (io [1,2])=some [[1],[2]])/\(my fy []=0/\gH fy (io [])=some [])/\my tx [2]=0/\gH tx (io [2])=none:=by decide+kernel
def qq:jQ fy nK=0/\jQ fy [⟨0,0,false⟩,⟨0,1,false⟩]=4/\jQ fy [⟨1,2,false⟩,⟨0,1,false⟩]=5/\jQ fy [⟨0,0,true⟩,⟨0,2,false⟩]=12:=by decide+kernel
def pi{b:ek}(e:fN w a l)(d:fN w b l)(c:l.length<=100000):Calls V.prog 58 #[.slice a l.length m,.slice b l.length k] w (fi λv f=>v=.bool true/\Ext w f):=by have:=pM l l a b m k w e d c;simpa using this
def Fg{l:List cz}{b:ek}(f:wM w a l)(d:wM w b l)(c:l.length<=100000)(e:∀x∈l,x.length<=100000):Calls V.prog 71 #[.slice a l.length m,.slice b l.length k] w (fi λv g=>v=.bool true/\Ext w g):=by have:=Em l l a b m k w f d c e;simpa using this
def uJ:lh fy.tries B8 fy.doors.length=[1]/\dn fy.tries B8=[0,2,3]/\A1 fy B8 4=[3]:=by decide+kernel
def zK(d:Nat):dr:=nR d (fT fy (B8.getD d lM))
def vz:¬hZ fy G6 1 3/\∀c s,4<=s->s<6->¬hZ fy G6 c s:=by
 refine⟨λh=>?_,λc s a b h=>?_⟩;have h:=h.2;rw[rF.2.2.2.1]at h;exact absurd h (by decide);obtain rfl|rfl:s=4\/s=5:=by omega
 have h:=h.1;rw[rF.2.2.2.2.1]at h;cases h;have h:=h.1;rw[rF.2.2.2.2.2.1]at h;cases h
def A8(h:A6 fy G6 0 1 x):x=.tuple #[.int .i64 2,.int .i64 0]:=by
 have b:hZ fy G6 1 2:=by unfold hZ;rw[rF.2.2.1];decide
 rcases h with⟨t,rfl,_,a,c,d⟩|⟨_,h⟩;have a:t<6:=a;have g:¬t<2:=λh=>d 2 h (by decide) b;have e:t≠3:=λh=>vz.1 (h▸c);have f:¬4<=t:=λh=>vz.2 1 t h a c;obtain rfl:t=2:=by omega
 rfl;exact absurd b (h 2 (by omega) (by decide))
def Cb(h:A6 fy G6 0 2 x):x=.tuple #[.int .i64 3,.int .i64 0]:=by
 have b:hZ fy G6 2 3:=by unfold hZ;rw[rF.2.2.2.1];decide
 rcases h with⟨t,rfl,_,a,c,d⟩|⟨_,h⟩;have a:t<6:=a;have f:¬t<3:=λh=>d 3 h (by decide) b;have e:¬4<=t:=λh=>vz.2 2 t h a c;obtain rfl:t=3:=by omega
 rfl;exact absurd b (h 3 (by omega) (by decide))
def Cc(h:A6 fy G6 0 0 x):x=.tuple #[.int .i64 0,.int .i64 11]:=by
 rcases h with⟨t,rfl,_,b,a,_⟩|⟨rfl,_⟩;have b:t<6:=b;have c:¬4<=t:=λh=>vz.2 0 t h b a;have a:=a.2;obtain rfl|rfl|rfl|rfl:t=0\/t=1\/t=2\/t=3:=by omega
 rw[rF.1]at a;exact absurd a (by decide);rw[rF.2.1]at a;exact absurd a (by decide);rw[rF.2.2.1]at a;exact absurd a (by decide);rw[rF.2.2.2.1]at a;exact absurd a (by decide);rfl
def tB:oh fy nK 2 1 [(3,[0,3])]=(false,0)/\oh fy nK 2 1 [(2,[2,3]),(3,[3,0]),(4,[3])]=(false,0):=by decide+kernel
def zE:List Tq:=[⟨0,0,false⟩,⟨1,0,true⟩,⟨2,1,false⟩,⟨2,2,false⟩,⟨3,2,true⟩]
def zM:mn fy nK 2 [2,3] [3]=0:=by decide+kernel
def zN:nK++lQ 2 [3] [2,3]=zE:=by rfl
def wo(w:cn):Calls V.prog 24 #[] w (ux λv t=>v=.bool true/\Ext w t):=by
 obtain⟨r,i4⟩:=Nu;refine Fc Tryz.func24 Tryz.ntmps24 (dM.seq dj ?_);refine dM.seq dj<|cD (MC w) ?_;rintro _ w1 ⟨e1,b1,mr,rfl,az⟩;refine cD (MC w1) ?_;rintro _ C ⟨e2,b2,M,rfl,aA⟩;refine rW λw3 b3 e3 ms=>cD (MC w3) ?_;rintro _ w4 ⟨e4,b4,mt,rfl,aB⟩;refine eD λw5 g1 e5 e9 h1=>eD λw6 g2 e6 mx h2=>eD λw7 g3 e7 m0 h3=>eD λw8 g4 e8 m3 h4=>?_;have l1:=cP.lt_of_heap h1;have l2:=cP.lt_of_heap h2;have l3:=cP.lt_of_heap h3;have ld:=cP.lt_of_heap aA;have m4:=cP.lt_of_heap az;have m5:=cP.lt_of_heap aB;have s1:=e1.size;have s2:=e2.size;have s3:=e3.size;have s4:=e4.size;refine dq (e8.at_ (e7.at_ (e6.at_ h1))) λw9 k9 c1=>dq (k9.fe (e8.at_ (e7.at_ h2)) (by omega)) λm6 aC c2=>dq (aC.fe (k9.fe (e8.at_ h3) (by omega)) (by omega)) λm7 aD c3=>dq (aD.fe (aC.fe (k9.fe h4 (by omega)) (by omega)) (by omega)) λD aE c4=>?_;have c1:D.heap[g1]? =some (.cells (gL fy (Bb b1 0) 4).toArray 24):=aE.fe (aD.fe (aC.fe (c1.trans (cT (λa=>some (Obj.cells a 24)) (dC (pm 24).toArray _ rfl))) (by omega)) (by omega)) (by omega);have c2:D.heap[g2]? =some (.cells (gL fy (Bb b2 0) 4).toArray 24):=aE.fe (aD.fe (c2.trans (cT (λa=>some (Obj.cells a 24)) (dC (pm 24).toArray _ rfl))) (by omega)) (by omega);have c3:D.heap[g3]? =some (.cells (gL fy (Bb b3 0) 4).toArray 24):=aE.fe (c3.trans (cT (λa=>some (Obj.cells a 24)) (dC (pm 24).toArray _ rfl))) (by omega);have c4:D.heap[g4]? =some (.cells (gL fy (Bb b4 0) 4).toArray 24):=c4.trans (cT (λa=>some (Obj.cells a 24)) (dC (pm 24).toArray _ rfl));have fb:=((e5.trans e6).trans e7).trans e8;have Z:Ext w4 D:=(((fb.cC k9 e9).cC aC (by omega)).cC aD (by omega)).cC aE (by omega);have az:D.heap[b1]? =some (.cells (MB.flatMap dL).toArray 81):=Z.at_ (((e2.trans e3).trans e4).at_ az);have aB:D.heap[b4]? =some (.cells (MB.flatMap dL).toArray 81):=Z.at_ aB;have aA:D.heap[b2]? =some (.cells (MB.flatMap dL).toArray 81):=Z.at_ ((e3.trans e4).at_ aA);have bC:Ext w D:=(((e1.trans e2).trans e3).trans e4).trans Z;have z1:=bC.size;obtain⟨S,hS⟩:∃S:List (Nat×Obj×Obj),S=[(g1,.cells (gL fy (Bb b1 0) 4).toArray 24,.cells (gL rG (Bb b1 0) 4).toArray 24),(b2,.cells (MB.flatMap dL).toArray 81,.cells (zI.flatMap dL).toArray 81)]:=⟨_,rfl⟩;have m1:(g1,.cells (gL fy (Bb b1 0) 4).toArray 24,.cells (gL rG (Bb b1 0) 4).toArray 24)∈S:=by rw[hS];simp
 have m2:(b2,.cells (MB.flatMap dL).toArray 81,.cells (zI.flatMap dL).toArray 81)∈S:=by rw[hS];simp
 have aa:∀{x:Nat} {o:Obj} {t:cn},Ce S D t->x≠g1->x≠b2->D.heap[x]? =some o->t.heap[x]? =some o:=λe h1 h2 h=>e.k.fe h (by rw[hS];rintro⟨s,hs,rfl⟩;simp only[eO,mu,jW]at hs;rcases hs with rfl|rfl;exact h1 rfl;exact h2 rfl);refine dM.ij<|cX (Ck S)<| .exact (j7 b2 4 4) (λt e=>cu (cr (aa e (by omega) (by omega) c2) rfl) ⟨rfl,(Ck S).refl _⟩)<| .vT (λ_ t=>t.heap[g1]? =some (.cells (gL rG (Bb b1 0) 4).toArray 24)) (λ_ a b h e=>(e.s _ _ _ m1).2 h) (λt e=>?_) ?_;have ab:∀C,cW (λy=>y=g1) t C->C.heap[g1]? =some (.cells (gL rG (Bb b1 0) 4).toArray 24)->C.heap[g1]? =some (.cells (gL rG (Bb b1 0) 4).toArray 24)/\Ce S t C:=λC k h=>⟨h,Ce.of m1 (λo' n' h=>by rw[hS]at h;simp only[eO,mu,jW,Prod.mk.injEq]at h;rcases h with⟨_,_,h⟩|⟨h,_⟩;exact h;omega) k h⟩;rcases(e.s _ _ _ m1).1 (.inl c1)with h|h;exact sI h (qb rfl) λC k2 M=>ab C k2 M;exact sI h (qb rfl) λC k2 M=>ab C k2 M;refine .exact (Ba b2 (0+3*3)) (λt _=>eN 3 3 (by decide) ⟨rfl,(Ck S).refl _⟩)<| .vT (λ_ t=>t.heap[b2]? =some (.cells (zI.flatMap dL).toArray 81)) (λ_ a b h e=>(e.s _ _ _ m2).2 h) (λt e=>?_) ?_;have ab:∀C,cW (λy=>y=b2) t C->C.heap[b2]? =some (.cells (zI.flatMap dL).toArray 81)->C.heap[b2]? =some (.cells (zI.flatMap dL).toArray 81)/\Ce S t C:=λC k h=>⟨h,Ce.of m2 (λo' n' h=>by rw[hS]at h;simp only[eO,mu,jW,Prod.mk.injEq]at h;rcases h with⟨h,_⟩|⟨_,_,h⟩;omega;exact h) k h⟩;rcases(e.s _ _ _ m2).1 (.inl aA)with h|h;exact sI h (qb rfl) λC k2 M=>ab C k2 M;exact sI h (qb rfl) λC k2 M=>ab C k2 M;intro fd U f2 f1;refine sI (aa U (by omega) (by omega) c4) (qb rfl) λfk N f4=>?_;replace f4:fk.heap[g4]? =some (.cells (gL tx (Bb b4 0) 4).toArray 24):=f4;refine dM.seq dj (GK Ph (l:=6) (c:=6) (by decide) (by decide) λm8 nb F m9 aV=>iT (F.at_ (N.fe (aa U (by omega) (by omega) c3) (by omega))) (qb rfl) (λO P f3=>?_) (fK rfl));have na:=U.k.size;have nc:=N.size;have ni:=F.size;have z4:=cP.lt_of_heap c4;have fm:Ext w fd:=bC.yR U.k (by rw[hS];rintro b ⟨s,hs,rfl⟩;simp only[eO,mu,jW]at hs;rcases hs with rfl|rfl<;>simp only<;>omega);have fr:Ext w O:=((fm.cC N (by omega)).trans F).cC P (by omega);replace f3:O.heap[g3]? =some (.cells (gL xm (Bb nb 0) 6).toArray 24):=f3;have f1:=P.fe (F.at_ (N.fe f1 (by omega))) (by omega);have f2:=P.fe (F.at_ (N.fe f2 (by omega))) (by omega);have f4:=P.fe (F.at_ f4) (by omega);have f5:=P.fe (F.at_ (N.fe (aa U (by omega) (by omega) c2) (by omega))) (by omega);have aV:=P.fe aV (by omega);have r1:fZ O (Bb b1 0) fy.doors:=Js (P.fe (F.at_ (N.fe (aa U (by omega) (by omega) az) (by omega))) (by omega));have r4:fZ O (Bb b4 0) fy.doors:=Js (P.fe (F.at_ (N.fe (aa U (by omega) (by omega) aB) (by omega))) (by omega));have r2:fZ O (Bb b2 0) D6.doors:=Js f2;have r3:fZ O (Bb nb 0) xm.doors:=Js (show O.heap[nb]? =some (.cells (xm.doors.flatMap dL).toArray 81)from aV.trans (cT (λa=>some (Obj.cells a 81)) (by kernel_rfl)));have bD:xm.doors.length<=100000:=by decide
 refine dM.jN (l0:=[(1,cM g1),(2,cM g2),(3,cM g3),(4,cM g4)]) (by trivial) (dM.ij (dM.seq dj ?_));refine iW (rE O) (λt h=>.inr ⟨rfl,h⟩) ?_;rintro _ nn ⟨rfl,fv⟩;refine ei (lx rfl (rW λnr ns fz bE=>dG (uG (e:=0) bE r (by decide)) λn0 f0=>gJ (lx rfl ?_)));have aW:=(fv.trans fz).trans f0;refine dA (aW.at_ f1) (dG (uG (G:=rG) (e:=1) (r1.ext aW) r (by decide)) λoa f6=>gJ (lx rfl ?_));have aX:=aW.trans f6;refine dA (aX.at_ f5) (dG (uG (G:=D6) (e:=3) (r2.ext aX) r (by decide)) λob f7=>gJ (lx rfl ?_));have aY:=aX.trans f7;refine dA (aY.at_ f3) (dG (uG (G:=xm) (e:=6) (r3.ext aY) bD (by decide)) λoj f8=>gJ (dM.of dj (lx rfl ?_)));have f9:=aY.trans f8;refine dM.seq dj (eg [i64 (-1),i64 0,i64 3] 3 λok L a1 _ v1=>eg [i64 2,i64 3,i64 3] 3 λon W H _ v2=>eg [i64 1,i64 2,i64 17] 3 λoo n3 I _ v3=>eg [j7 L 3 3,j7 W 3 3,j7 n3 3 3] 27 λaF d J _ A=>?_);have ga:=f9.trans (((a1.trans H).trans I).trans J)
 have t1:∀k,k<3->∃(n:Nat) (x y z:Int),aF.cell? (cY d (0+k))=some (j7 n 3 3)/\aF.heap[n]? =some (.cells [i64 x,i64 y,i64 z].toArray 3)/\B9 fy x y=.tuple #[i64 z,i64 0]:=λk X=>by
  obtain rfl|rfl|rfl:k=0\/k=1\/k=2:=by omega
  exact⟨L,-1,0,3,cell_of A rfl,((H.trans I).trans J).at_ v1,by kernel_rfl⟩;exact⟨W,2,3,3,cell_of A rfl,(I.trans J).at_ v2,by kernel_rfl⟩;exact⟨n3,1,2,17,cell_of A rfl,J.at_ v3,by kernel_rfl⟩
 refine dM.jN (l0:=[(4,cM g4),(5,j7 d 3 3)]) (by trivial) (dM.ij (dM.mono (Q:=λe l' t=>e=.normal/\Sub [(4,cM g4)] l'/\Ext aF t) ?_ (dM.seq dj ?_)));rotate_left;refine rX 3 (λk (_:Unit)=>[(4,cM g4),(5,j7 d 3 3),(6,i64 k)]) (λk _ t=>Ext aF t) () ⟨by trivial,Ext.refl _⟩ ?_;rintro k _ os X aG;refine dM.ij (dM.of dj (cS (du ⟨λac=>?_,λbF=>⟨rfl,by trivial,aG⟩⟩)));have E:k<3:=by have:=dO ac;omega
 obtain⟨n,x,y,z,q1,q2,q3⟩:=t1 k E;have q1:=aG.cell q1;have q2:=aG.at_ q2;refine dM.ij (dM.block (dM.ij ?_));refine cX cV (uE ?_);refine iK k E<|cK q1<|iK 0 (by decide)<|cK (cell_of q2 rfl)<|iK k E<|cK q1<|iK 1 (by decide)<|cK (cell_of q2 rfl)<| .exact (.tuple #[i64 z,i64 0]) (λw1 e u hu=>?_) ?_;obtain⟨b,rfl,hd⟩:=hu;exact dG (q3▸Yo hd r x y) λC e2=>⟨rfl,e2⟩;rintro ov aZ _ _;have q1:=aZ.cell q1;have q2:=aZ.at_ q2;exact dM.of dj (gJ (lx rfl (fw k E (cu q1 (fw 2 (by decide) (cu (cell_of q2 rfl) (gJ (lx rfl (dM.of dj (cF ⟨E,(),by trivial,aG.trans aZ⟩))))))))));rintro e l' ox ⟨rfl,ad,gb⟩;have gc:=ga.trans gb;refine dM.jN ad<|dM.seq dj (rW λo0 o1 ge bG=>dG (v0:=.tuple #[i64 0,i64 3]) ((show B9 fy (-1) 4=.tuple #[i64 0,i64 3] by kernel_rfl)▸Yo bG r (-1) 4) λo2 gf=>?_);have bH:=(gc.trans ge).trans gf;refine dM.seq dj (rW λo3 o4 bI bJ=>eg [i64 0,i64 1] 3 λo5 o6 a0 _ gg=>dG (v0:=.tuple #[.agg (mz 18 25).toArray,i64 0]) (by rw[<-uH.1];exact Jr (l:=[0,1]) (lc:=2) (bJ.ext a0) r (lP gg) (by decide) (by decide)) λo7 bK=>eD λpb p1 gj bL gk=>dq gk λbM gn aH=>?_);have aH:bM.heap[p1]? =some (.cells (mz 18 25).toArray 56):=aH;have gp:=((((bH.trans bI).trans a0).trans bK).trans gj).cC gn (by have:=((((bH.trans bI).trans a0).trans bK)).size;omega);refine dM.seq dj (rW λpe ph gr bN=>dG (v0:=.tuple #[.agg (mz 0 0).toArray,i64 0]) (by rw[<-uH.2.1];exact Jr (l:=[]) (la:=none) (lc:=0) bN r (zq _) (by decide) (by decide)) λpl gs=>eD λpn p2 gt bO gv=>dq gv λba gw bb=>?_);have bb:ba.heap[p2]? =some (.cells (mz 0 0).toArray 56):=bb;have pp:=cP.lt_of_heap aH;have bP:=gr.trans gs;have ae:Ext bM ba:=(bP.trans gt).cC gw (by have:=bP.size;omega);have gz:=gp.trans ae;refine dM.seq dj (rW λp4 p5 gI bQ=>eg [i64 0,i64 0] 3 λp6 p7 bR _ gS=>dG (v0:=.tuple #[.agg (mz 0 0).toArray,i64 4]) (by rw[<-uH.2.2];exact Jr (l:=[0,0]) (lc:=2) (bQ.ext bR) r (lP gS) (by decide) (by decide)) λp8 gV=>eD λp9 p3 g0 qg g5=>dq g5 λg6 g7 ql=>?_);have bS:=(gI.trans bR).trans gV;have Y:Ext ba g6:=(bS.trans g0).cC g7 (by have:=bS.size;omega);have g8:=gz.trans Y;refine dM.ij (dM.seq dj ?_);refine gJ (lx rfl (gJ (lx rfl (gJ (lx rfl (gJ (lx rfl (dJ (vs:=mz 18 25) (zF (Y.at_ (ae.at_ aH))) (dS (.agg (mz 18 25).toArray) ⟨_,_,xn 18 25,lx rfl ?_⟩)))))))));refine dJ (vs:=mz 0 0) (zF (Y.at_ bb)) (dS (.agg (mz 0 0).toArray) ⟨_,_,xn 0 0,dM.of dj (lx rfl ?_)⟩);refine dM.seq dj (eg [i64 0,i64 1] 3 λqr L a1 _ v1=>eg [i64 0,i64 1,i64 2,i64 3] 3 λqt W H _ v2=>eg [i64 0,i64 2,i64 1,i64 3] 3 λq0 n3 I _ v3=>eg [j7 L 2 2,j7 W 4 4,j7 n3 4 4] 27 λq6 d J _ A=>eg [i64 1,i64 3,i64 2] 3 λaf g T _ K=>?_);have g9:=g8.trans ((((a1.trans H).trans I).trans J).trans T)
 have t2:∀k,k<3->∃(n:Nat) (l:gC) (z:Int),af.cell? (cY d (0+k))=some (j7 n l.length l.length)/\gF af (Bb n 0) l/\l.length<=1000/\af.cell? (cY g (0+k))=some (i64 z)/\r9 fy l=.tuple #[i64 z,i64 0]:=λk X=>by
  have A:=T.at_ A;obtain rfl|rfl|rfl:k=0\/k=1\/k=2:=by omega
  exact⟨L,[0,1],1,cell_of A rfl,lP ((((H.trans I).trans J).trans T).at_ v1),by decide,cell_of K rfl,uI.1⟩;exact⟨W,[0,1,2,3],3,cell_of A rfl,lP (((I.trans J).trans T).at_ v2),by decide,cell_of K rfl,uI.2.1⟩;exact⟨n3,[0,2,1,3],2,cell_of A rfl,lP ((J.trans T).at_ v3),by decide,cell_of K rfl,uI.2.2⟩
 refine dM.jN (l0:=[(4,cM g4),(17,j7 d 3 3),(18,j7 g 3 3)]) (by trivial) (dM.ij (dM.mono (Q:=λe l' t=>e=.normal/\Sub [(4,cM g4)] l'/\Ext af t) ?_ (dM.seq dj ?_)));rotate_left;refine rX 3 (λk (_:Unit)=>[(4,cM g4),(17,j7 d 3 3),(18,j7 g 3 3),(19,i64 k)]) (λk _ t=>Ext af t) () ⟨by trivial,Ext.refl _⟩ ?_;rintro k _ q7 X ag;refine dM.ij (dM.of dj (cS (du ⟨λac=>?_,λbF=>⟨rfl,by trivial,ag⟩⟩)));have E:k<3:=by have:=dO ac;omega
 obtain⟨n,l,z,q1,q2,q3,q4,q5⟩:=t2 k E;refine dM.ij (dM.block (dM.ij ?_));refine cX cV (uE ?_);refine iK k E<|cK (ag.cell q1)<| .exact (.tuple #[i64 z,i64 0]) (λw1 e u hu=>?_) ?_;obtain⟨b,rfl,hd⟩:=hu;exact dG (by rw[<-q5];exact zD hd r (q2.ext (ag.trans e)) q3 (cJ _)) λC e2=>⟨rfl,e2⟩;rintro q8 bT _ _;exact dM.of dj (gJ (lx rfl (fw k E (cu ((ag.trans bT).cell q4) (gJ (lx rfl (dM.of dj (cF ⟨E,(),by trivial,ag.trans bT⟩))))))));rintro e l' q9 ⟨rfl,ad,ha⟩;have hc:=g9.trans ha;refine dM.jN ad<|dM.seq dj (rW λrb rd he bU=>eg [i64 3,i64 1] 3 λrf rg bV _ hf=>cD (Fw (l:=[3,1]) (lc:=2) (bU.ext bV) r (lP hf) (by decide) (by decide)) ?_);rintro v rk ⟨hg,⟨h,_⟩|⟨_,u,rfl,B⟩⟩;exact absurd qu.1.1 h;rw[show dX fy (io (([3,1]:gC).map Int.toNat))=[1,3]from qu.1.2]at B;obtain⟨xa,xc,rfl,B,_⟩:=B.row;have hh:=((hc.trans he).trans bV).trans hg;refine dM.seq dj (rW λro rs hi bW=>eg [i64 3,i64 2,i64 1,i64 0] 3 λrt ru bX _ hl=>cD (Fw (l:=[3,2,1,0]) (lc:=4) (bW.ext bX) r (lP hl) (by decide) (by decide)) ?_);rintro v rv ⟨hm,⟨h,_⟩|⟨_,u,rfl,ah⟩⟩;exact absurd qu.2.1 h;rw[show dX fy (io (([3,2,1,0]:gC).map Int.toNat))=[0,1,2,3]from qu.2.2]at ah;obtain⟨ya,yc,rfl,ah,_⟩:=ah.row;have ai:=(hi.trans bX).trans hm;refine dM.seq dj (rW λrx r0 hn bY=>eg [i64 1,i64 2] 3 λr5 r6 bZ _ ho=>cD (EY (ds:=[1,2]) (c:=2) (bY.ext bZ) r (lP ho) (by decide) (by decide)) ?_);rintro v r7 ⟨hp,⟨h,_⟩|⟨_,hv⟩⟩;exact absurd l8.1.1 h;rw[show gH fy (io (([1,2]:gC).map Int.toNat))=some [[1],[2]]from l8.1.2]at hv;obtain⟨u,rfl,bc⟩:=hv;obtain⟨p,zc,rfl,bc,_⟩:=bc.row;have aj:=(hn.trans bZ).trans hp;refine dM.seq dj (rW λr8 sa hr b0=>cD (EY (ds:=[]) (a:=none) (c:=0) b0 r (zq _) (by decide) (by decide)) ?_);rintro v sb ⟨ht,⟨h,_⟩|⟨_,hv⟩⟩;exact absurd l8.2.1.1 h;rw[show gH fy (io (([]:gC).map Int.toNat))=some []from l8.2.1.2]at hv;obtain⟨u,rfl,hw⟩:=hv;obtain⟨wa,wc,rfl,_,_⟩:=hw.row;have ak:=hr.trans ht;have bd:=((hh.trans ai).trans aj).trans ak;refine dM.seq dj (dA (bd.at_ f4) (eg [i64 2] 3 λsc sh b5 _ hx=>cD (EY (G:=tx) (ds:=[2]) (c:=1) (r4.ext (bd.trans b5)) r (lP hx) (by decide) (by decide)) ?_));rintro v sk ⟨hy,⟨h,_⟩|⟨_,hv⟩⟩;exact absurd l8.2.2.1 h;rw[show gH tx (io (([2]:gC).map Int.toNat))=none from l8.2.2.2]at hv;have hv:v=.tuple #[jK,i64 11]:=hv;subst hv;have al:=b5.trans hy;have hz:=bd.trans al;have am:=ak.trans al;have an:=aj.trans am;have be:=ai.trans an;refine dM.jN (l0:=[(10,i64 0),(12,i64 0),(14,i64 0),(16,i64 0),(22,.slice xa 2 xc),(23,.slice ya 4 yc),(24,.slice p 2 zc),(25,.slice wa 0 wc),(27,i64 11)]) (by trivial) (dM.ij (dM.seq dj ?_));refine gJ<|lx rfl<|gJ<|lx rfl<|gJ<|lx rfl<|gJ<|lx rfl<|gJ<|lx rfl<|cS<|lZ<|lx rfl<|eg [i64 1,i64 3] 3 λsl sm b6 _ hA=>dG (pi (l:=[1,3]) (B.ext (be.trans b6)) (mQ (l:=[1,3]) hA) (by decide)) λsp hB=>ei (lx rfl ?_);have b7:=b6.trans hB;refine eg [i64 0,i64 1,i64 2,i64 3] 3 λss st b8 _ hC=>dG (pi (l:=[0,1,2,3]) (ah.ext ((an.trans b7).trans b8)) (mQ (l:=[0,1,2,3]) hC) (by decide)) λsu hD=>ei (lx rfl ?_);have hE:=(b7.trans b8).trans hD;refine eg [i64 1] 3 λsw b9 hF _ hG=>eg [i64 2] 3 λsy ca cb _ hI=>eg [j7 b9 1 1,j7 ca 1 1] 27 λhJ bf bg _ cc=>?_;have cd:=((hE.trans hF).trans cb).trans bg
 have ao:wM hJ (Bb bf 0) [[1],[2]]:=λk X=>by
  have sz:k<2:=X;obtain rfl|rfl:k=0\/k=1:=by omega
  exact⟨bf,0,some (cY b9 0),1,rfl,cr cc rfl,mQ (l:=[1]) ((cb.trans bg).at_ hG),cJ _⟩;exact⟨bf,0,some (cY ca 0),1,rfl,cr cc rfl,mQ (l:=[2]) (bg.at_ hI),cJ _⟩
 refine dG (Fg (l:=[[1],[2]]) (bc.ext (am.trans cd)) ao (by decide) (by decide)) λsA hK=>ei (dM.of dj (lx rfl ?_));have hL:=(hz.trans cd).trans hK;refine dM.jN (l0:=[]) trivial (dM.seq dj (zp λsT ce hM cf=>?_));refine dS (.agg (nQ ⟨0,0,false⟩).toArray) (dS (.agg (nQ ⟨0,1,false⟩).toArray) (eg (([⟨0,0,false⟩,⟨0,1,false⟩]:List Tq).flatMap nQ) 84 λs0 L a1 _ v1=>?_));refine dS (.agg (nQ ⟨1,2,false⟩).toArray) (dS (.agg (nQ ⟨0,1,false⟩).toArray) (eg (([⟨1,2,false⟩,⟨0,1,false⟩]:List Tq).flatMap nQ) 84 λs5 W H _ v2=>?_));refine dS (.agg (nQ ⟨0,0,true⟩).toArray) (dS (.agg (nQ ⟨0,2,false⟩).toArray) (eg (([⟨0,0,true⟩,⟨0,2,false⟩]:List Tq).flatMap nQ) 84 λs6 n3 I _ v3=>?_));refine eg [j7 ce 3 3,j7 L 2 2,j7 W 2 2,j7 n3 2 2] 25 λs7 nl J _ A=>eg [i64 0,i64 4,i64 5,i64 12] 38 λap ne T _ K=>?_;have hN:=hL.trans (((((hM.trans a1).trans H).trans I).trans J).trans T)
 have t3:∀k,k<4->∃(n:Nat) (l:List Tq) (z:Int),ap.cell? (cY nl (0+k))=some (j7 n l.length l.length)/\ja ap (Bb n 0) l/\l.length<=1000/\ap.cell? (cY ne (0+k))=some (i64 z)/\jQ fy l=z:=λk X=>by
  have A:=T.at_ A;obtain rfl|rfl|rfl|rfl:k=0\/k=1\/k=2\/k=3:=by omega
  exact⟨ce,nK,0,cell_of A rfl,cf.ext ((((a1.trans H).trans I).trans J).trans T),by decide,cell_of K rfl,qq.1⟩;exact⟨L,_,4,cell_of A rfl,J6 ((((H.trans I).trans J).trans T).at_ v1),by decide,cell_of K rfl,qq.2.1⟩;exact⟨W,_,5,cell_of A rfl,J6 (((I.trans J).trans T).at_ v2),by decide,cell_of K rfl,qq.2.2.1⟩;exact⟨n3,_,12,cell_of A rfl,J6 ((J.trans T).at_ v3),by decide,cell_of K rfl,qq.2.2.2⟩
 refine dM.jN (l0:=[(28,j7 nl 4 4),(29,j7 ne 4 4)]) (by trivial) (dM.ij (dM.mono (Q:=λe l' t=>e=.normal/\Ext ap t) ?_ (dM.seq dj ?_)));rotate_left;refine rX 4 (λk (_:Unit)=>[(28,j7 nl 4 4),(29,j7 ne 4 4),(30,i64 k)]) (λk _ t=>Ext ap t) () ⟨by trivial,Ext.refl _⟩ ?_;rintro k _ s8 X aq;refine dM.ij (dM.of dj (cS (du ⟨λac=>?_,λbF=>⟨rfl,aq⟩⟩)));have ar:k<4:=by have:=dO ac;omega
 obtain⟨n,l,z,q1,q2,q3,q4,q5⟩:=t3 k ar;refine dM.ij (dM.block (dM.ij ?_));refine cX cV (uE ?_);refine iK k ar<|cK (aq.cell q1)<| .exact (i64 z) (λw1 e u hu=>?_) ?_;obtain⟨b,rfl,hd⟩:=hu;exact dG (by rw[<-q5];exact Kh hd r (q2.ext (aq.trans e)) (by omega)) λC e2=>⟨rfl,e2⟩;refine iK k ar<|cK (aq.cell q4)<|Cg ?_;rintro s9 hO _ _;exact dM.of dj (lx rfl (dM.of dj (cF ⟨ar,(),by trivial,aq.trans hO⟩)));rintro e l' ta ⟨rfl,hP⟩;have hQ:=hN.trans hP;refine dM.jN (l0:=[]) trivial<|dM.seq dj (rW λtb tc hR cg=>zp λtd tm ch ci=>cD (Kr (G:=fy) (l:=nK) (lc:=3) (cg.ext ch) r ci (by decide)) ?_);rintro v tr ⟨hT,⟨h,_⟩|⟨_,u,rfl,B⟩⟩;exact absurd qq.1 h;rw[show(fQ fy nK).2=B8 from cT Prod.snd Nq,uJ.1]at B;obtain⟨xa,xc,rfl,B,_⟩:=B.row;have hU:=((hQ.trans hR).trans ch).trans hT;refine dM.seq dj (rW λts ty hV cj=>zp λt0 t4 ck cl=>cD (Ks (G:=fy) (l:=nK) (lc:=3) (cj.ext ck) r cl (by decide)) ?_);rintro v t5 ⟨hW,⟨h,_⟩|⟨_,u,rfl,aI⟩⟩;exact absurd qq.1 h;rw[show(fQ fy nK).2=B8 from cT Prod.snd Nq,uJ.2.1]at aI;obtain⟨ua,uc,rfl,aI,_⟩:=aI.gen;have bh:=(hV.trans ck).trans hW;refine dM.seq dj (rW λt6 t7 hX cm=>zp λt8 t9 co cp=>cD (zk (l:=nK) (lc:=3) (cm.ext co) r cp (by decide) 4) ?_);rintro v ub ⟨hY,⟨h,_⟩|⟨_,u,rfl,aJ⟩⟩;exact absurd lA.2.2.2.2.2 h;rw[show A1 fy (fQ fy nK).2 (4:Int).toNat=[3] by rw[Nq];exact uJ.2.2]at aJ;obtain⟨la,lc,rfl,aJ,_⟩:=aJ.row;have au:=(hX.trans co).trans hY;have av:=bh.trans au;have h0:=hU.trans av;refine dM.jN (l0:=[(10,i64 0),(12,i64 0),(14,i64 0),(22,.slice xa 1 xc),(23,.slice la 1 lc),(31,.slice ua 3 uc)]) (by trivial) (dM.ij (dM.seq dj ?_));refine gJ<|lx rfl<|gJ<|lx rfl<|gJ<|lx rfl<|eg [i64 1] 3 λud ui cs _ h5=>dG (pi (l:=[1]) (B.ext (av.trans cs)) (mQ (l:=[1]) h5) (by decide)) λul h6=>ei (lx rfl ?_);have ct:=cs.trans h6;refine dS (.agg (zK 0).toArray) (dS (.agg (zK 2).toArray) (dS (.agg (zK 3).toArray) (eg (([0,2,3]:cz).flatMap zK) 101 λup h7 cv _ h8=>?_)));refine dG (Hi (G:=fy) (xs:=B8) (l:=[0,2,3]) (ir.ext aI ((au.trans ct).trans cv)) (λk X=>⟨h7,0,rfl,λj v hj=>cr h8 (by rw[cG];simpa using pX (f:=zK) (n:=4) (λ_=>rfl) [0,2,3] k X j v hj)⟩) (by decide)) λus h9=>ei (lx rfl ?_);have c0:=(ct.trans cv).trans h9;refine eg [i64 3] 3 λuv u0 c5 _ ib=>dG (pi (l:=[3]) (aJ.ext (c0.trans c5)) (mQ (l:=[3]) ib) (by decide)) λu1 ic=>ei (dM.of dj (lx rfl ?_));have ih:=h0.trans ((c0.trans c5).trans ic);refine dM.jN (l0:=[]) trivial<|dM.seq dj (rW λi5 i6 c6 bi=>iW (jb (l:=[]) (la:=none) (lc:=0) bi r (Nt _) (by decide) 0) (λt h=>.inr ⟨rfl,h⟩) ?_);rintro v i7 ⟨c7,⟨h,_⟩|⟨_,rfl⟩⟩;exact absurd lA.1 h;rw[uD.1];refine dM.seq dj (rW λi8 i9 c8 bj=>iW (jb (l:=[]) (la:=none) (lc:=0) bj r (Nt _) (by decide) 3) (λt h=>.inr ⟨rfl,h⟩) ?_);rintro v jf ⟨c9,⟨h,_⟩|⟨_,rfl⟩⟩;exact absurd lA.2.1 h;rw[uD.2.1];refine dM.seq dj (rW λjn js da bk=>iW (jb (l:=[]) (la:=none) (lc:=0) bk r (Nt _) (by decide) 4) (λt h=>.inr ⟨rfl,h⟩) ?_);rintro v jt ⟨db,⟨h,_⟩|⟨_,rfl⟩⟩;exact absurd lA.2.2.1 h;rw[uD.2.2.1];refine dM.seq dj (rW λjv j0 dc bl=>zp λj1 j2 aK bm=>iW (jb (l:=nK) (lc:=3) (bl.ext aK) r bm (by decide) 2) (λt h=>.inr ⟨rfl,h⟩) ?_);rintro v j3 ⟨dd,⟨h,_⟩|⟨_,rfl⟩⟩;exact absurd zo.2.1 h;rw[uD.2.2.2];refine dM.seq dj (rW λj4 j5 de bn=>iW (G5 (l:=[]) (la:=none) (lc:=0) bn r (Nt _) (by decide) 0) (λt h=>.inr ⟨rfl,h⟩) ?_);rintro v j6 ⟨df,⟨h,_⟩|⟨_,hv⟩⟩;exact absurd lA.1 h;rw[show zd fy (jo fy (fQ fy []).2 (0:Int).toNat)=some [(0,[0,1]),(1,[2,3]),(2,[2,3]),(3,[0,1])] by rw[P0];exact A4]at hv;obtain⟨pv,rfl,ip⟩:=hv;obtain⟨pa,pc,rfl,iL,_⟩:=ip.row;have dh:=ih.trans (((((c6.trans c7).trans (c8.trans c9)).trans (da.trans db)).trans ((dc.trans aK).trans dd)).trans (de.trans df));refine dM.jN (l0:=[(10,i64 0),(12,i64 0),(14,i64 11),(16,i64 0),(27,i64 0),(32,i64 1),(33,i64 2),(34,i64 1),(35,.slice pa 4 pc)]) (by trivial) (dM.ij (dM.seq dj ?_));refine gJ<|lx rfl<|gJ<|lx rfl<|gJ<|lx rfl<|gJ<|lx rfl<|gJ<|lx rfl<|gJ<|lx rfl<|gJ<|lx rfl<|gJ<|lx rfl<|eg [i64 0,i64 1] 3 λka L a1 _ v1=>dG (BO 0 _ 2 2 _) λkb H=>eg [i64 2,i64 3] 3 λkc W I _ v2=>dG (BO 1 _ 2 2 _) λkd J=>eg [i64 2,i64 3] 3 λke n3 T _ v3=>dG (BO 2 _ 2 2 _) λkf a6=>eg [i64 0,i64 1] 3 λkj i a7 _ A=>dG (BO 3 _ 2 2 _) λkk a8=>eg [i64 0,j7 L 2 2,i64 1,j7 W 2 2,i64 2,j7 n3 2 2,i64 3,j7 i 2 2] 29 λaL np a9 _ K=>?_;have p3:=(a6.trans a7).trans (a8.trans a9);have p2:=(J.trans T).trans p3;have p1:=(H.trans I).trans p2
 have bo:vw aL (Bb np 0) [(0,[0,1]),(1,[2,3]),(2,[2,3]),(3,[0,1])]:=λk X=>by
  have ar:k<4:=X;obtain rfl|rfl|rfl|rfl:k=0\/k=1\/k=2\/k=3:=by omega
  exact⟨np,0,some (cY L 0),2,rfl,cr K rfl,cr K rfl,mQ (l:=[0,1]) (p1.at_ v1),cJ _⟩;exact⟨np,0,some (cY W 0),2,rfl,cr K rfl,cr K rfl,mQ (l:=[2,3]) (p2.at_ v2),cJ _⟩;exact⟨np,0,some (cY n3 0),2,rfl,cr K rfl,cr K rfl,mQ (l:=[2,3]) (p3.at_ v3),cJ _⟩;exact⟨np,0,some (cY i 0),2,rfl,cr K rfl,cr K rfl,mQ (l:=[0,1]) ((a8.trans a9).at_ A),cJ _⟩
 have p0:=a1.trans p1;refine dG (Fa [(0,[0,1]),(1,[2,3]),(2,[2,3]),(3,[0,1])] [(0,[0,1]),(1,[2,3]),(2,[2,3]),(3,[0,1])] pa _ pc 4 aL (iL.gG (p0.gG 0)) bo (by decide) (by decide)) λkl dk=>ei (dM.of dj (lx (by decide) ?_));have dv:=(dh.trans p0).trans dk;refine dM.jN (l0:=[]) trivial<|dM.seq dj (rW λkm kn dx bp=>iW (nL (l:=[]) (la:=none) (lc:=0) bp r (Nt _) (by decide) (by decide) 0 rfl 1 (by decide)) (λt h=>.inr ⟨rfl,h⟩) ?_);rintro v kp ⟨dy,h⟩;rw[P0]at h;obtain rfl:=A8 h;refine dM.seq dj (rW λkr ks d0 bq=>iW (nL (l:=[]) (la:=none) (lc:=0) bq r (Nt _) (by decide) (by decide) 0 rfl 2 (by decide)) (λt h=>.inr ⟨rfl,h⟩) ?_);rintro v kt ⟨d1,h⟩;rw[P0]at h;obtain rfl:=Cb h;refine dM.seq dj (rW λkv kw d2 br=>iW (nL (l:=[]) (la:=none) (lc:=0) br r (Nt _) (by decide) (by decide) 0 rfl 0 (by decide)) (λt h=>.inr ⟨rfl,h⟩) ?_);rintro v kx ⟨d3,h⟩;rw[P0]at h;obtain rfl:=Cc h;refine dM.seq dj (rW λkB kE d4 bs=>iW (EZ (l:=[]) (la:=none) (lc:=0) bs r (Nt _) (by decide) 4 1) (λt h=>.inr ⟨rfl,h⟩) ?_);rintro v kW ⟨d5,⟨h,_⟩|⟨_,xa,xc,rfl,B,_⟩⟩;exact absurd lA.2.2.2.1 h;rw[show oH (tt fy (fQ fy []).2 (4:Int).toNat 1) (dn fy.tries (fQ fy []).2)=[0,1,2,3] by rw[P0];exact wv.1]at B⊢;refine dM.seq dj (rW λk0 k1 d6 bt=>iW (EZ (l:=[]) (la:=none) (lc:=0) bt r (Nt _) (by decide) 0 1) (λt h=>.inr ⟨rfl,h⟩) ?_);rintro v k3 ⟨d7,⟨h,_⟩|⟨_,ya,yc,rfl,ah,_⟩⟩;exact absurd lA.2.2.2.2.1 h;rw[show oH (tt fy (fQ fy []).2 (0:Int).toNat 1) (dn fy.tries (fQ fy []).2)=[] by rw[P0];exact wv.2];have R:=d6.trans d7;have d8:=(dv.trans (((dx.trans dy).trans (d0.trans d1)).trans ((d2.trans d3).trans (d4.trans d5)))).trans R;refine dM.jN (l0:=[(10,i64 0),(12,i64 0),(14,i64 11),(16,i64 0),(27,i64 0),(32,i64 2),(33,i64 3),(22,.slice xa 4 xc),(23,.slice ya 0 yc)]) (by trivial) (dM.ij (dM.seq dj ?_));refine gJ<|lx rfl<|gJ<|lx rfl<|gJ<|lx rfl<|gJ<|lx rfl<|gJ<|lx rfl<|gJ<|lx rfl<|gJ<|lx rfl<|cS<|lZ<|lx rfl<|eg [i64 0,i64 1,i64 2,i64 3] 3 λk4 k5 aM _ d9=>dG (pi (l:=[0,1,2,3]) (B.ext (R.trans aM)) (mQ (l:=[0,1,2,3]) d9) (by decide)) λk6 ea=>ei (dM.of dj (lx rfl ?_));have eb:=d8.trans (aM.trans ea);refine dM.jN (l0:=[]) trivial<|dM.seq dj (rW λk7 k8 ec bu=>zp λlb lg aN bv=>eg [i64 0,i64 3] 3 λlk L a1 _ v1=>dG (BO 3 _ 2 2 _) λlm H=>eg [i64 3,j7 L 2 2] 29 λed np I _ v2=>?_)
 have bL:zl ed (Bb np 0) [(3,[0,3])]:=λk X=>by
  obtain rfl:k=0:=by simpa using X
  exact⟨np,0,some (cY L 0),2,rfl,cr v2 rfl,cr v2 rfl,lP ((H.trans I).at_ v1),cJ _⟩
 have aw:=(a1.trans H).trans I;refine cD (B7 (l:=nK) (lc:=3) (ps:=[(3,[0,3])]) (pc:=1) ((bu.ext aN).ext aw) r (bv.ext aw) (by decide) 2 1 bL (by decide) (by decide)) ?_;rintro v ln ⟨el,rfl⟩;rw[tB.1];have em:=eb.trans (((ec.trans aN).trans aw).trans el);refine dM.seq dj (rW λlo lp en bw=>zp λlr ls aO bx=>eg [i64 2,i64 3] 3 λlu L a1 _ v1=>dG (BO 2 _ 2 2 _) λlv H=>eg [i64 3,i64 0] 3 λlw W I _ v2=>dG (BO 3 _ 2 2 _) λlC J=>eg [i64 3] 3 λlD n3 T _ v3=>dG (BO 4 _ 1 1 _) λlI a6=>eg [i64 2,j7 L 2 2,i64 3,j7 W 2 2,i64 4,j7 n3 1 1] 29 λes np a7 _ A=>?_);have q3:=a6.trans a7;have q2:=(J.trans T).trans q3;have q1:=(H.trans I).trans q2
 have bO:zl es (Bb np 0) [(2,[2,3]),(3,[3,0]),(4,[3])]:=λk X=>by
  have E:k<3:=X;obtain rfl|rfl|rfl:k=0\/k=1\/k=2:=by omega
  exact⟨np,0,some (cY L 0),2,rfl,cr A rfl,cr A rfl,lP (q1.at_ v1),cJ _⟩;exact⟨np,0,some (cY W 0),2,rfl,cr A rfl,cr A rfl,lP (q2.at_ v2),cJ _⟩;exact⟨np,0,some (cY n3 0),1,rfl,cr A rfl,cr A rfl,lP (q3.at_ v3),cJ _⟩
 have ax:=a1.trans q1;refine cD (B7 (l:=nK) (lc:=3) (ps:=[(2,[2,3]),(3,[3,0]),(4,[3])]) (pc:=3) ((bw.ext aO).ext ax) r (bx.ext ax) (by decide) 2 1 bO (by decide) (by decide)) ?_;rintro v lW ⟨et,rfl⟩;rw[tB.2];have eu:=em.trans (((en.trans aO).trans ax).trans et);refine dM.seq dj (rW λl4 l6 ev bz=>zp λma mb aP bA=>eg [i64 2,i64 3] 3 λmd L a1 _ v1=>eg [i64 3] 3 λmf W H _ v2=>?_);have ay:=a1.trans H;refine cD (zA (l:=nK) (lc:=3) (wk:=[2,3]) (op:=[3]) (wc:=2) (oc:=1) ((bz.ext aP).ext ay) r (bA.ext ay) (λh=>by cases h) (by decide) 2 (lP (H.at_ v1)) (by decide) (by decide) (lP v2) (by decide) (by decide)) ?_;rintro v aQ ⟨ex,⟨h,_⟩|⟨_,u,rfl,hq⟩⟩;exact absurd zM h;rw[zN]at hq;obtain⟨q,m,rfl,i0,_⟩:=hq.row;have ey:=eu.trans (((ev.trans aP).trans ay).trans ex);refine dM.jN (l0:=[(10,i64 0),(12,i64 0),(14,i64 0),(36,.bool false),(37,.bool false),(38,.slice q 5 m)]) (by trivial) (dM.seq dj ?_);refine ff (jZ rfl (ff (jZ rfl (ff (jZ rfl (ei (jZ rfl (ei (jZ rfl ?_)))))))));refine cD (Jt aQ) ?_;rintro _ mi ⟨eL,aR,bB,rfl,K⟩;refine dS (.agg (nQ ⟨2,2,false⟩).toArray) (dS (.agg (nQ ⟨3,2,true⟩).toArray) (eg (([⟨2,2,false⟩,⟨3,2,true⟩]:List Tq).flatMap nQ) 84 λeM mm aS _ v6=>?_));have ao:cR 0 84 [i64 0,i64 0,.bool false] eM (j7 aR 3 3) 3 (nK.flatMap nQ):=⟨rfl,.inr ⟨aR,3,_,fV _,rfl,aS.at_ K,rfl,cJ _,by decide,λj _=>by show(nK.flatMap nQ).toArray[j]? =_;simp,λj hj i1=>by simp[nK,MD,nQ,tL]at hj i1;omega⟩⟩;refine GD NC ao (fV _) (news:=([⟨2,2,false⟩,⟨3,2,true⟩]:List Tq).flatMap nQ) rfl (by decide) (λj u hj=>by rw[iB,cG];exact cr v6 (by simpa using hj)) (fK rfl) (by decide) λv' aT g1 g2 _=>?_;have i2:pY 0 aT v' zE:=g1;obtain⟨ra,rc,rfl,i3,_⟩:=i2.row;have aU:Ext aQ aT:=(eL.trans aS).yR g2 λb hb=>by obtain⟨_,_,e⟩:=hb;cases e;exact bB
 refine dG (Fl (l:=zE) (lc:=m) (lc':=rc) (i0.ext aU) i3 (by decide)) λmp e0=>dM.of dj (.inl ⟨_,rfl,rfl,fr.trans ((ey.trans aU).trans e0)⟩)
end Go.Proofs.W
variable{R:Go.cP.dm}{K:dH}
namespace Go.Proofs.W
open Go.Conc Go.cP Go.RowKit
noncomputable def SI(L:cz)(f:Nat):Bool:=f==163||okF L false (λ_=>false) f
abbrev jR:=Array (Nat×Nat)
def jR.sh(a:jR)(b:Nat):Option Nat:=(a[b]?).map (·.2)
def jR.r(a:jR)(b c:Nat):Prop:=∃n,a[b]? =some (c,n)
def jR.mg{d:jR}(b c e:Nat)(h:d.r b c)(a:d.r b e):c=e:=by obtain⟨n,h⟩:=h;obtain⟨m,a⟩:=a;rw[h]at a;cases a;rfl
def jR.oq{a:jR}(b d c:Nat)(h:a.r b c)(f:a.r d c):b=d\/(a.sh b≠none/\a.sh d≠none):=by obtain⟨n,h⟩:=h;obtain⟨m,f⟩:=f;unfold jR.sh;rw[h,f];exact .inr ⟨λe=>(by cases e),λe=>(by cases e)⟩
noncomputable def Qa(L:cz)(a:jR):dm where
 S:=λg=>L.contains g
 dim:=false
 ok:=λf=>gD V.prog (λg=>L.contains g) false false
 df:=λ_=>false
 fs:=PR.funcs
 hole:=λf=>f==163
 sh:=a.sh
 r:=a.r
 mg:=jR.mg
 oq:=jR.oq
def Cj(h:l.all (SI l)=true)(f:Nat)(d:l.contains f=true)(b:f≠163):
 ∃a c,V.prog.funcs[f]? =some a/\a.body=some c/\gD V.prog (λg=>l.contains g) false false c=true/\(a.name== "runtime.NumGoroutine")=false:=by
 have:=mU.1 h f (by simpa using d);unfold SI at this;rw[show(f==163)=false by simpa using b,Bool.false_or]at this;unfold okF at this;split at this;rename_i a e;split at this;rename_i c i;simp only[dW,tE]at this;exact⟨a,c,e,i,this.1,this.2⟩;cases this;cases this
def Qb:(V.f163.name== "runtime.NumGoroutine")=false:=by kernel_rfl
def NL:(Tryz.f163.name== "runtime.NumGoroutine")=false:=by kernel_rfl
def NM:∃c,Tryz.f163.body=some c:=⟨_,xR⟩
def Ku{j:jR}(h:l.all (SI l)=true):Go.cP.Good V.prog (Qa l j):=by
 refine⟨⟨V.zero,λf a=>?_,V.Dg,As _,V.bad⟩,rfl,λf a k=>?_,⟨λf a=>?_⟩,λ⟨f,a⟩=>by cases a⟩;by_cases e:f=163;subst e;exact⟨V.f163,V.wT,V.func163,Qb,rfl⟩;obtain⟨d,c,b,g,_,i⟩:=Cj h f a e;exact⟨d,c,b,i,g⟩;have e:f≠163:=λe=>by subst e;cases k
 obtain⟨d,c,b,g,m,_⟩:=Cj h f a e;exact⟨d,c,b,g,m⟩;by_cases e:f=163;subst e;obtain⟨c,n⟩:=NM;exact⟨Tryz.f163,c,Tryz.func163,NL,n,λh=>by cases h⟩;obtain⟨d,c,b,g,_,i⟩:=Cj h f a e;exact⟨d,c,(V.wU f e).symm.trans b,i,g,λ_=>b⟩
noncomputable def NN(L:cz)(df:Nat->Bool)(a:jR):dm where
 S:=λg=>L.contains g
 dim:=false
 ok:=λf=>gD V.prog (λg=>L.contains g) false (df f)
 df:=df
 fs:=V.prog.funcs
 hole:=λ_=>false
 sh:=a.sh
 r:=a.r
 mg:=jR.mg
 oq:=jR.oq
def NO(b:R.fs=P.funcs)(h:∀f,R.S f=true->∃a c,P.funcs[f]? =some a/\(a.name== "runtime.NumGoroutine")=false/\a.body=some c):Og P R:=⟨λf e=>by obtain⟨a,c,d,g,i⟩:=h f e;exact⟨a,c,by rw[b];exact d,g,i,λ_=>d⟩⟩
def Kv{g:Nat->Bool}{i:jR}(h:l.all (okF l false g)=true):Go.cP.Good V.prog (NN l g i):=by refine⟨V.fit h,rfl,λf a _=>?_,NO (by unfold NN;dsimp only) λf a=>?_,λ_ _=>rfl⟩;obtain⟨b,c,d,e,j,_⟩:=tT h f a;exact⟨b,c,d,e,j⟩;obtain⟨b,c,d,e,_,k⟩:=tT h f a;exact⟨b,c,d,k,e⟩
def runNT_then{b c:Machine}{t d:Trace}(h:runNT P m b t=(.next c,d)):runNT P (m+k) b t=runNT P k c d:=by
 induction m generalizing b t with
 |zero=>
  simp only[runNT]at h;injection h with a e;injection a with a;subst a e;rw[cG]
 |succ m f=>
  rw[show m+1+k=(m+k)+1 from by omega];simp only[runNT]at h⊢;cases g:stepT P b with
  |mk s i=>
   rw[g]at h;cases s with
   |next j=>exact f h
   |ended o w=>simp only at h;injection h with a e;cases a
def Qc(e:Ending)(a:cn):Prop:=e=.returned (.bool true)\/(e=.panicked jh/\QZ a)
def NP{z:Nat->Bool}(hL:l.all (SI l)=true)(ac:f.all (okF f false z)=true){fn:Func}{tm:Tmp}(hf:V.prog.funcs[K]? =some fn)(ad:fn.results=#[.tmp tm])(s:K≠163)(ae:l.contains K=true)(af:f.contains K=true) (ag:PR.inits.idxOf? K=none){k v:cn}{ws:jR} (t:∀b c n:Nat,ws[b]? =some (c,n)->∃o J,v.heap[b]? =some o/\k.heap[c]? =some J/\∀p:dm,p.r=ws.r->p.sh=ws.sh->SO p n o J)(R:∀p:dm,p.r=ws.r->p.sh=ws.sh->fc p X W) (hC:∀T:Ta,Go.cP.Below v T->Calls V.prog K X (cQ v T) Qc):∃N last o q t',runNT PR (N+1) (solo (G (Frame.enter PR K W .normal) []) k) #[]=(.ended o q,t')/\runN PR N (solo (G (Frame.enter PR K W .normal) []) k)=.next last/\Go.step PR last=.ended o q/\
  Go.Conc.Good PR (λx q=>x=.bool true/\Go.RowKit.Below k.heap.size k q) last o q t':=by
 have S:Go.cP.Good jD (Qa l ws):=Ku hL;have am:ws.size<=v.me:=Nat.le_of_not_lt λh=>by obtain⟨_,_,y,_⟩:=t v.me _ _ (iY h);exact Nat.lt_irrefl _ (lt_of_heap y)
 have F:∀b,v.me<=b->ws.sh b=none:=λb hb=>by unfold jR.sh;rw[lT (by omega)];rfl
 have H:∀(p:dm),p.r=ws.r->p.sh=ws.sh->∀b c,ws.r b c->∃o J,v.heap[b]? =some o/\k.heap[c]? =some J/\Hv p (ws.sh b) o J:=λp y A b c ⟨n,P⟩=>by obtain⟨o,J,B,h4,h5⟩:=t b c n P;exact⟨o,J,B,h4,.inr ⟨n,by unfold jR.sh;rw[P];rfl,h5 p y A⟩⟩
 have U:Go.cP.Good jD (NN f z ws):=Kv ac;have ev:(V.prog.it PR.funcs)=PR:=OZ;have I:Inv jD ⟨Frame.enter jD K X .normal,[floor],v⟩:=by
  have h:Inv jD ⟨Frame.enter jD K X .normal,[floor],cQ v (qf v k)⟩:=
   ⟨NN f z ws,k,G (Frame.enter (V.prog.it (NN f z ws).fs) K W .normal) [],U,λ_=>rfl,WR.qf ⟨H _ rfl rfl,F⟩,rJ U af (R _ rfl rfl) .normal (.inl rfl),⟨[],[],rfl,rfl,.nil⟩,⟨rfl,rfl⟩,⟨rfl,rfl⟩,⟨rfl,rfl⟩⟩
  exact h.cQ v.tape
 have C:Go.cP.Reach jD (sJ K (λx _=>x=.bool true)) ⟨Frame.enter jD K X .normal,[floor],v⟩:=by refine qE sJ.callers (λc T hi Q=>?_) I λT hT=>?_;rcases Q with Q|⟨y,A,B,h4,h5⟩;exact .inl (Go.cP.Left.cQ (λx w T h=>h) c T hi Q);exact .inr ⟨y,A,B,h4,h5.cQ T⟩;obtain⟨e,q,fr,Y,Q,Z,hl⟩:=hC T hT [floor];rcases Y with rfl|⟨rfl,Y⟩;obtain⟨n,hn⟩:=Q;exact⟨n,fr,[floor],q,hn,.inl ⟨rfl,Z,_,rfl,hl⟩⟩;obtain⟨n,hn⟩:=Q;exact⟨n,fr,[floor],q,hn,.inr ⟨rfl,Z,hl.1,hl.2.1,Y⟩⟩
 have hI:CL jD PR.funcs k (Qa l ws) (λ_=>False) ⟨Frame.enter jD K X .normal,[floor],v⟩ #[G (Frame.enter (V.prog.it PR.funcs) K W .normal) []] (G (Frame.enter (V.prog.it PR.funcs) K W .normal) []) k #[] (λ_=>0):=by
  refine⟨I,S,rfl,rfl,⟨rJ S ae (R _ rfl rfl) .normal (.inl rfl),⟨[],[],rfl,rfl,.nil⟩,⟨rfl,rfl⟩,⟨rfl,rfl⟩,⟨rfl,rfl⟩⟩,⟨H _ rfl rfl,F⟩,⟨λi g hi hg=>?_,λj _=>Go.ConcN.Deaf_absent (by simp)⟩,?_,λb h=>h.elim,λ_ _ _ h=>h,λb c P hc=>?_,cJ _,λ_ _=>rfl,⟨rfl,rfl,rfl⟩,⟨λg hg=>?_,rfl,λ⟨g,hg⟩=>by cases hg⟩⟩;have:i<1:=(eU.1 hg).1;omega;have h:=past_nil;exact⟨h.clean,λi a ha hm=>by simp[touchAt,Trace.act?]at ha,h.over,h.hears,λop ah=>by simp at ah⟩;obtain⟨n,P⟩:=P;obtain⟨_,_,y,_,A⟩:=t b c n P;obtain⟨cs,fz,_,_,_,rfl,_,B,_⟩:=(A (Qa l ws) rfl rfl).out;exact⟨cs,sR,fz,y,B⟩;have e:g=163:=by have:(g==163)=true:=hg;simpa using this
  subst e;rw[V.func163,show PR.funcs[163]? =some Tryz.f163 from Tryz.func163];intro e;have:=cT Func.ntmps (cO e);rw[Tryz.ntmps163]at this;cases this
 obtain⟨N,ai,q,aa,t',q',L,O,X',a',r1,D,r3,_⟩:=lead (fs:=PR.funcs) sJ.callers (PF JX s k) _ C _ _ _ _ _ none _ _ hI
 have aj:Go.cP.Left jD K (λx _=>x=.bool true) L.fr L.cl L.v:=by
  rcases r3 with h|⟨y,A,B,h4,h5⟩;exact h;exfalso;have E:dQ jD O L.fr a'.frame:=by
   have u:=D.gor.fr;generalize E:(G L.fr L.cl).frame=fr at u;generalize al:a'.frame=an at u;cases u with
   |fr hf=>subst E;exact hf
   | @hole g hS hh X ao hx=>
    have:L.fr=Frame.enter jD g X .normal:=E;rw[this]at B;cases B
  have hm:=E.mode;rw[B]at hm;generalize a'.frame.mode=m at hm;cases hm with
  |panicking hc=>
   unfold jh at hc;cases hc with
   |cons Y _=>
    rcases Y.ok with h|h;exact D.holes.2.2 h;exact h 3 _ _ rfl
 have ak:O.hole K=false:=by
  cases h:O.hole K with
  |false=>rfl
  |true=>
   exfalso;exact D.holes.1 K h (V.wU K s)
 obtain⟨M,last,o,w2,t2,s1,s2,s3,s4⟩:=D.ends (sl:=aa) aj hf ad ak (by rw[ev];exact ag) (Post:=λx q=>x=.bool true/\Go.RowKit.Below k.me k q) λx x' d hx hv=>by subst hx;cases hv;exact⟨rfl,D.world.2.1,D.world.1,D.world.2.2,D.grown,λb hb=>D.kept b hb⟩
 rw[ev]at r1 s1 s2 s3 s4;have ab:runNT PR (N+(M+1)) (solo (G (Frame.enter PR K W .normal) []) k) #[]=(.ended o w2,t2):=(runNT_then r1).trans s1;refine⟨N+M,last,o,w2,t2,ab,?_,s3,s4⟩;have y:runNT PR (N+M) (solo (G (Frame.enter PR K W .normal) []) k) #[]=runNT PR M (crowd ai q aa) t':=runNT_then r1;have A:=runNT_fst PR (N+M) (solo (G (Frame.enter PR K W .normal) []) k) #[];rw[y,runNT_fst,s2]at A;exact A.symm
inductive VW (ws:jR):cq->cq->Prop
 |bool (b:Bool):VW ws (.bool b) (.bool b)
 |int (k:IntKind) (n:Int):VW ws (.int k n) (.int k n)
 |nil (l c:Nat):VW ws (.slice none l c) (.slice none l c)
 |slice {j b n:Nat} (l c:Nat) (h:ws[j]? =some (b,n)):VW ws (.slice (some ⟨j,0,none⟩) l c) (.slice (some ⟨b,n,none⟩) l c)
def Cp{c:Type}(a b:Array c):Prop:=∀(j:Nat) p,a[j]? =some p->b[j]? =some p
def VW.mono{e d:jR}(h:VW e x y)(k:Cp e d):VW d x y:=by
 cases h with
 |bool b=>exact .bool b
 |int a b=>exact .int a b
 |nil l c=>exact .nil l c
 |slice l c h=>exact .slice l c (k _ _ h)
def VW.vr{d:jR}(h:VW d x y){ρ:dm}(e:ρ.r=d.r)(f:ρ.sh=d.sh):VR ρ x y:=by
 cases h with
 |bool b=>exact .bool b
 |int a b=>exact .int a b
 |nil l c=>exact .fF l c
 | @slice j b n l c h=>
  refine .slice l c ?_;have:=AR.mk (ρ:=ρ) (b:=j) (c:=b) 0 none (by rw[e];exact⟨n,h⟩);rw[f,jR.sh,h,cG]at this;exact this
structure Seen(W:cn)(ws:jR)(vs:Array (Array cq)):Prop where
 size:vs.size=ws.size
 at_:∀(j b n:Nat),ws[j]? =some (b,n)->∃cs rI t fz,vs[j]? =some cs/\W.heap[b]? =some (.cells rI t fz)/\∀(i:Nat) x,cs[i]? =some x->∃y,rI[i+n]? =some y/\VW ws x y
def Seen.none(W:cn):Seen W #[] #[]:=⟨rfl,λj b n h=>by simp at h⟩
def NQ(b:Array dU)(w:cn):Prop:=∀(j:Nat) a,b[j]? =some a->w.heap[j]? =some (.cells a sR (0,a.size))
def Kw{k:Nat->Bool}(H:l.all (SI l)=true)(m:f.all (okF f false k)=true){E:Func}{tm:Tmp}(I:V.prog.funcs[K]? =some E)(p:E.results=#[.tmp tm])(c:K≠163)(q:l.contains K=true)(s:f.contains K=true) (u:PR.inits.idxOf? K=none){ws:jR}{z:Array dU}(J:Seen w ws z){xs args:dU}(A:∀g:dm,g.r=ws.r->g.sh=ws.sh->fc g xs args)
 (L:∀B:cn,NQ z B->Calls V.prog K xs B (ux λv a=>v=.bool true/\Ext B a)):
 ∃N last o a F,runNT PR (N+1) (solo (G (Frame.enter PR K args .normal) []) w) #[]=(.ended o a,F)/\runN PR N (solo (G (Frame.enter PR K args .normal) []) w)=.next last/\Go.step PR last=.ended o a/\Go.Conc.Good PR (λx a=>x=.bool true/\Go.RowKit.Below w.heap.size w a) last o a F:=by
 refine NP (v:={w with heap:=z.map λd=>.cells d sR (0,d.size)}) (ws:=ws) H m I p c q s u (λj b n C=>?_) A λT Y=>?_;obtain⟨d,M,t,Z,O,P,Q⟩:=J.at_ j b n C;refine⟨.cells d sR (0,d.size),_,by simp[O],P,λg R D=>⟨_,_,_,_,_,rfl,rfl,λo S=>⟨fV _,S⟩,λi x U=>?_⟩⟩;obtain⟨y,W,X⟩:=Q i x U;exact⟨y,W,X.vr R D⟩;refine(L _ λj d C=>?_).mono λe a h=>?_;simp[cQ,C];rcases h with⟨v,rfl,rfl,_⟩|h;exact .inl rfl;exact .inr h
end Go.Proofs.W
namespace Go.Proofs.YteeagjkaflglpaaGreat
open Go.ChangeShapes Go.WideShapes Go.ChangeAt Go.RowKit Go.Conc Go.Proofs.W Go.Deep
section
variable{H:Type}{enc:cw×cq->H}{w:cn}{sp:Nat->Bool}{b0:Nat}
instance:Inhabited Tq:=⟨⟨0,0,false⟩⟩
instance:Inhabited Dr:=⟨⟨0,0,0⟩⟩
end
end Go.Proofs.YteeagjkaflglpaaGreat
namespace Go.Proofs.W
open Go.Conc Go.cP Go.RowKit
def VC(f:Nat):Bool:=f==190||f==163
end Go.Proofs.W
namespace Go.Proofs.W
def z8:cz:=[24,26,38,41,42,44,46,48,53,55,58,61,62,66,69,71,72,73,77,80,84,85,87,95,96,97,105,106,107,108,109,113,114,115,116,117,119,120,121,122,123,125,128,129,130,131,133,134,135,136,137,144,146,153,154,155,156,157,158,159,160,161,162,163,164,165,166,167,168,169,170,171,172,173,174,175,176,178,179,180,184,185,186,195,196,197,198,199,200,201,222,231]
def zH:cz:=[24,26,38,41,42,44,46,48,53,55,58,61,62,66,69,71,72,73,77,80,84,85,87,95,96,97,105,106,107,108,109,113,114,115,116,117,119,120,121,122,123,125,128,129,130,131,133,134,135,136,137,144,146,153,154,155,156,157,158,159,160,161,162,163,164,165,166,167,168,169,170,171,172,173,174,175,176,178,179,180,184,185,186,190,194,195,196,197,198,199,200,201,215,216,222,227,228,229,231]
def z9:z8.all (SI z8)=true:=by kernel_rfl
def zJ:zH.all (okF zH false VC)=true:=by kernel_rfl
end Go.Proofs.W
namespace Go.Proofs.YteeagjkaflglpaaGreat
open Go.ChangeShapes Go.WideShapes Go.ChangeAt Go.RowKit Go.Conc Go.Proofs.W
def wq(n:Os)(a:n.Started)(H:Type)(enc:cw×cq->H):ReturnsInLeavingWide {} Tryz.checked n 24 .any (Rows.roundKnownSpec.pre6 enc Tryz.prog Tryz.f24 Rows.roundKnownRow.domain false) (Rows.roundKnownSpec.post enc Tryz.prog Tryz.f24 false true false false):=by
 refine returnsInLeavingWide_of_change_sized (C:=Tryz.checked) Tryz.own a Tryz.func24 (ChangeSpec.witness6 (enc:=enc) (C:=Tryz.checked) false ⟨#[],#[],[]⟩ 8 (by kernel_rfl) (by kernel_rfl) (by kernel_rfl) (by kernel_rfl)) ?_;intro m d args u I l c r _ _ _;have e:∀(j:Nat) t v,Tryz.f24.params[j]? =some t->args[j]? =some v->Value.okWide Tryz.prog m .any d t v:=c;have f:=r;obtain⟨p,q,g,x,rfl,_,_⟩:=r;have y:DataW.TrodAll enc Tryz.prog m 0 (λ_=>true) true Tryz.f24.params.toList args.toList u p:=g;have i:Tryz.f24.params=#[]:=by kernel_rfl
 obtain⟨rfl,rfl⟩:=trodVars_none x;simp only[List.append_nil]at f;have k:=y;rw[i]at k e;obtain⟨s,rfl,rfl⟩:=trodAll_nil k;have s:args=#[]:=by cases args;simp_all
 subst s;obtain⟨M,last,o,z,A,B,D,E,F⟩:=Kw z9 zJ (V.fn Tryz.func24 (by decide)) (tm:=0) (by kernel_rfl) (by decide) (by decide) (by decide) (by kernel_rfl) (Seen.none m) (xs:=#[]) (args:=#[]) (λJ K L=>Go.cP.fc.ku .nil) (λw N=>wo w);refine⟨M,last,o,z,A,B,D,E,F.mono λv G=>?_⟩;obtain⟨rfl,b⟩:=G;exact⟨_,_,_,[],[],[],f,trodAll_mk1 (Go.RowKit.shut_bool Tryz.SM true),g,rfl,b.frame _,λh=>by cases h⟩
def KF:Tryz.pinned.checked.prog.funcNamed Rows.roundKnownRow.func=some 24:=by kernel_rfl
def NU:Tryz.f24.isInstance Tryz.pinned.checked.prog Rows.roundKnownRow.origin Rows.roundKnownRow.targs:=dO (by kernel_rfl)
def NV:Tryz.f24.isWrapper Tryz.pinned.checked.prog Rows.roundKnownRow.wrapper Rows.roundKnownRow.mainSum:=by unfold Func.isWrapper;first|(rw[cB (by decide+kernel)];kernel_rfl)|(rw[cy (by decide+kernel)];exact⟨rfl,rfl⟩)
def roundKnown_holds:Rows.RoundKnownSaid:=
 OpenClaim.holds_of_wide_leaving 24 Tryz.f24 rfl rfl rfl rfl rfl rfl rfl ⟨rfl,rfl,rfl,rfl,rfl⟩ rfl rfl rfl rfl rfl KF Tryz.func24 zt NU NV (λc a H b _=>wq c a H b)
#print axioms roundKnown_holds
end Go.Proofs.YteeagjkaflglpaaGreat
