/- RoundAfter: true for every input. Conditions: none. -/
import Derived.Conc.CrowdTrace
import Derived.Below
import Derived.Deep.Slices
import Derived.Conc.LeavingOf
import Derived.Carry
import Derived.ChangeSlices
import Derived.WideShapes
import Derived.Test.YteeagjkaflglpaaGreatX05
set_option maxRecDepth 100000
set_option maxHeartbeats 8000000
set_option linter.all false
namespace Go.Proofs.W
open Go.RowKit
structure Td where
 opened:Bool
 times:Int
 mornings:Int
 evenings:Int
 day:Int
def H8(t:Td):List di:=[.bool t.opened,.int .i64 t.times,.int .i64 t.mornings,.int .i64 t.evenings,.int .i64 t.day]
def zC:Td:=⟨false,0,0,0,-1⟩
def Kb(t:Td)(q:Tq):Td:=⟨t.opened||q.opened,t.times+1,if q.shift.toNat%2=0 then t.mornings+1 else t.mornings,if q.shift.toNat%2=0 then t.evenings else t.evenings+1,((q.shift.toNat/2:Nat):Int)⟩
def zD(d:Int):Td->List Tq->Td
 |t,[]=>t
 |t,q::r=>zD d (if q.door=d then Kb t q else t) r
theorem zl(d:Int)(q:Tq):∀(l:List Tq) (t:Td),zD d t (l++[q])=if q.door=d then Kb (zD d t l) q else zD d t l
 |[],t=>rfl
 |p::r,t=>zl d q r _
def Qv(k:Nat)(t:Td):Prop:=(0<=t.times/\t.times<=k)/\(0<=t.mornings/\t.mornings<=k)/\0<=t.evenings/\t.evenings<=k
def Qv.step{k:Nat}{t:Td}(h:Qv k t)(d:Int)(q:Tq):Qv (k+1) (if q.door=d then Kb t q else t):=by obtain⟨a,b,c⟩:=h;split;unfold Qv Kb;refine⟨⟨by simp only;omega,by simp only;omega⟩,?_,?_⟩<;>simp only<;>split<;>omega;exact⟨by omega,by omega,by omega⟩
def Rz(d:Int)(l:List Tq):Qv l.length (zD d zC l):=by
 have h:∀(l:List Tq) (k:Nat) (t:Td),Qv k t->Qv (k+l.length) (zD d t l):=by
  intro l;induction l with
  |nil=>exactλk t h=>h
  |cons q r a=>
   intro k t h;have:=a (k+1) _ (h.step d q);rw[fq,show k+(r.length+1)=k+1+r.length by omega];exact this
 have:=h l 0 zC ⟨⟨by decide,by decide⟩,⟨by decide,by decide⟩,by decide,by decide⟩;rwa[dB]at this
theorem GC{l:List Tq}{G:Option Addr}{lc:Nat}{w:World}(hr:iA w G l)(W:l.length<=100000)(hs:∀q∈l,0<=q.shift/\q.shift<=1000)(d:Int):
 Calls V.prog 140 #[.slice G l.length lc,.int .i64 d] w (gh λv u=>v=.agg (H8 (zD d zC l)).toArray/\Ext w u):=by
 refine go (V.fn Tryz.func140 (by decide)) Tryz.ntmps140 ?_
 refine fJ λw1 C Y aa x=>eJ (.agg (H8 zC).toArray) (fJ λw2 D Z ab H=>ee H λw3 k3 i=>?_)
 have ac:=Y.size
 have e:¬C=D:=by have:=dG.lt_of_heap x;omega
 have I:=k3.fU (Z.at_ x) e
 have i:w3.heap[D]? =some (.cells (H8 zC).toArray 173):=i
 have E3:Ext w w3:=(Y.trans Z).dz k3 (by omega)
 refine gE l.length (λk (_:Unit)=>[(0,.slice G l.length lc),(1,.int .i64 d),(4,dJ C),(5,dJ D),(6,.int .i64 k)]) (λk _ u=>Ext w u/\u.heap[C]? =some (.cells (sD 173).toArray 173)/\u.heap[D]? =some (.cells (H8 (zD d zC (l.take k))).toArray 173)) () ⟨⟨rfl,rfl,rfl,rfl,rfl,trivial⟩,E3,I,i⟩ ?_
 rintro k _ w4 g ⟨y,p,f⟩
 refine dK (eg ⟨λJ=>?_,λz=>?_⟩)
 ·have g:k<l.length:=by simpa using J
  obtain⟨b,o,K,E⟩:=hr k g
  obtain⟨h0,h6⟩:=hs _ (List.getElem_mem g)
  have L:Qv k (zD d zC (l.take k)):=by have:=Rz d (l.take k);rwa[List.length_take,Nat.min_eq_left (by omega)]at this
  have c:=zl d l[k] (l.take k) zC
  rw[<-List.take_succ_eq_append_getElem g]at c
  subst K
  obtain⟨t,M⟩:∃t:Nat,l[k].shift=t:=⟨l[k].shift.toNat,by omega⟩
  refine fl k 3 g (dl (y.cell (E 0 _ rfl)) (fV ⟨λh=>?_,λh=>?_⟩))
  ·have h:¬l[k].door=d:=of_decide_eq_true h
   rw[if_neg h]at c
   exact dD ⟨g,(),⟨rfl,rfl,rfl,rfl,rfl,trivial⟩,y,p,by rw[c];exact f⟩
  have h:l[k].door=d:=by simpa using of_decide_eq_false h
  rw[if_pos h]at c
  generalize zD d zC (l.take k)=T at*
  obtain⟨ad,ae,af⟩:=L
  have hq:=E 2 _ rfl
  obtain⟨X,N⟩:∃X,X=Kb T l[k]:=⟨_,rfl⟩
  rw[<-N]at c
  have ag:(l[k].shift.toNat:Int)=l[k].shift:=by omega
  refine dl (dj f rfl) ⟨λO=>?_,λO=>fl k 3 g (dl (y.cell hq) ?_)⟩
  all_goals
   refine ee f λw5 F A=>dl (dj A rfl) (dD (ee A λw6 k6 P=>?_))
   have Q:=(y.dz F (by omega)).dz k6 (by omega)
   refine fl k 3 g (dl (Q.cell (E 1 _ rfl)) ?_)
   have h1:=E 1 _ rfl
   rw[M]at h1⊢
   refine nM (n:=2) (by omega) (by omega) (ee P λw7 R B=>fl k 3 g (dl ((Q.dz R (by omega)).cell h1) (yB (m:=t) (n:=2) (by omega) (gA ⟨λr=>?_,λr=>?_⟩))))
   all_goals
    refine dl (dj B rfl) (dD (ee B λw8 k8 S=>dD ⟨g,(),⟨rfl,rfl,rfl,rfl,rfl,trivial⟩,(Q.dz R (by omega)).dz k8 (by omega),k8.fU (R.fU (k6.fU (F.fU p e) e) e) e,?_⟩))
    rw[c]
    refine S.trans ?_
    have hN:l[k].shift.toNat=t:=by omega
    first
    |(have r:t%2=0:=by have:=of_decide_eq_true r;omega
      rw[N];simp[gD,H8,Kb,hN,O,r,Value.cells];done)
    |(have r:¬t%2=0:=by have:=of_decide_eq_false r;omega
      rw[N];simp[gD,H8,Kb,hN,O,r,Value.cells];done)
 ·have z:¬k<l.length:=by simpa using z
  rw[List.take_of_length_le (by omega)]at f
  refine eB (vs:=H8 (zD d zC l)) (λj v U=>by rw[Nat.zero_add];exact dj f (by simpa using U)) (ee p λw5 F s=>?_)
  have s:w5.heap[C]? =some (.cells (H8 (zD d zC l)).toArray 173):=s.trans (congrArg (λa=>some (Obj.cells a 173)) (fo (sD 173).toArray _ rfl))
  exact⟨.agg (H8 (zD d zC l)).toArray,nN _ s λj v U=>by rw[Nat.zero_add];simpa using U,_,rfl,rfl,y.dz F (by omega)⟩
variable{G:Gd}{da:Option Addr}{dc:Nat}{w:dg}
def JN(n:Int)(t:Td):Bool:=t.opened||(decide (n<=t.times)&&(decide (n<2)||(decide (0<t.mornings)&&decide (0<t.evenings))))
theorem H9(t:Td):Calls V.prog 139 #[gV G da dc,.agg (H8 t).toArray] w (gh λv e=>v=.bool (JN G.tries t)/\Ext w e):=by
 refine RP (V.fn Tryz.func139 (by decide)) Tryz.ntmps139 (fE.seq er ?_)
 refine fB λm n f g h=>fB λo p c i b=>?_
 have a:=c.at_ h
 refine fE.pq (sj.start (sj.Pp 25 er ?_))
 refine dl (dj b rfl) ⟨λd=>?_,λd=>dl (dj b rfl) (dl (dj a rfl) (uh ⟨λj=>dl (dj a rfl) (eg ⟨λk=>?_,λk=>dl (dj b rfl) (mE ⟨λl=>dl (dj b rfl) (mE ?_),λl=>?_⟩)⟩),λj=>?_⟩))⟩
 all_goals refine sj.fin (fE.of er ⟨_,rfl,?_,f.trans c⟩)
 all_goals
  show Value.bool _=_
  simp[JN,d, *]
theorem iA.take{a:Option Addr}{l:List Tq}(h:iA w a l)(i:Nat):iA w a (l.take i):=λk d=>by
 have c:k<l.length:=by simp at d;omega
 obtain⟨b,o,e,f⟩:=h k c;exact⟨b,o,e,λj v g=>f j v (by rwa[List.getElem_take]at g)⟩
def wo(G:Gd):List Tq->List Tq->Int
 |_,[]=>0
 |a,q::r=>
  if ly q.door 0 ((G.doors.length:Int)-1)&&ly q.shift 0 (2*G.days-1)then
   if q.shift<fK a then 5
   else if(zD q.door zC a).day=((q.shift.toNat/2:Nat):Int)then 4
   else if JN G.tries (zD q.door zC a)then 12
   else wo G (a++[q]) r
  else 3
def GD(G:Gd)(l:List Tq)(k:Nat)(a:k<l.length):wo G (l.take k) (l.drop k)=(if ly l[k].door 0 ((G.doors.length:Int)-1)&&ly l[k].shift 0 (2*G.days-1)then
 if l[k].shift<fK (l.take k)then 5
 else if(zD l[k].door zC (l.take k)).day=((l[k].shift.toNat/2:Nat):Int)then 4
 else if JN G.tries (zD l[k].door zC (l.take k))then 12
 else wo G (l.take (k+1)) (l.drop (k+1))
 else 3):=by
 rw[qu a,jM a];rfl
def GF(G:Gd)(l:List Tq):Int:=if eF G=0 then wo G [] l else eF G
def uE{l:List Tq}{k:Nat}(a:k<l.length)(b:0<k):fK (l.take k)=l[k-1].shift:=by unfold fK;rw[List.getLast?_take,dp (by omega),fI (by omega)];rfl
def EK(hd:iv w da G.doors)(F:G.doors.length<=100000){l:List Tq}{S:Option Addr}{lc:Nat}(Y:iA w S l)(ah:l.length<=100000)(ai:l.length<=lc):
 Calls V.prog 81 #[gV G da dc,.slice S l.length lc] w (gh λv u=>v=.int .i64 (GF G l)/\Ext w u):=by
 refine go (V.fn Tryz.func81 (by decide)) Tryz.ntmps81 ?_;refine fB λw1 gb Z aj hb=>fg hb (eD (GB (hd.ext Z) F) λw2 e2=>fV ⟨λh=>?_,λh=>?_⟩);have h:¬eF G=0:=eA h;exact⟨_,rfl,by rw[GF,dp h];rfl,Z.trans e2⟩;have hG:eF G=0:=by simpa using eH h
 have ok:=jV hG;have aa:=ok.days;have z:GF G l=wo G [] l:=by rw[GF,dr hG]
 have E2:=Z.trans e2;refine gE l.length (λk (_:Unit)=>[(1,.slice S l.length lc),(2,dJ gb),(6,.int .i64 k)]) (λk _ u=>Ext w2 u/\(∀q∈l.take k,0<=q.shift/\q.shift<=1000)/\GF G l=wo G (l.take k) (l.drop k)) () ⟨⟨rfl,rfl,rfl,trivial⟩,Ext.refl _,λq x=>by simp at x,z⟩ ?_;rintro k _ w3 t ⟨H,hv,c⟩;refine dK (eg ⟨λab=>?_,λI=>?_⟩);have t:k<l.length:=by simpa using ab
 have E3:=E2.trans H;rw[GD G l k t]at c;obtain⟨b,o,ac,hc⟩:=Y k t;have A:=(e2.trans H).at_ hb;have ad:(l.take k).length=k:=by simp;omega
 have J:∀u,Ext w u->Calls V.prog 140 #[.slice S k lc,.int .i64 l[k].door] u _:=λu e=>by have:=GC (lc:=lc) (w:=u) (l:=l.take k) ((Y.ext e).take k) (by omega) hv l[k].door;rw[ad]at this;exact this
 subst ac;refine fl k 3 t (eB (vs:=pj l[k]) (λj v K=>E3.cell (hc j v K)) (fJ λw4 tb e4 ae L=>ee L λT k5 d=>?_));have d:T.heap[tb]? =some (.cells (pj l[k]).toArray 84):=d;have i:Ext w3 T:=e4.dz k5 ae;have M:=i.at_ A;have y:=E3.trans i;refine dl (dj d rfl) (dl (dj M rfl) (dK (gK (dN (gP _ _ _ _) (eC ⟨λh=>?_,λU=>?_⟩)))));exact ki rfl ⟨_,rfl,by rw[c];simp at h;simp[h],y⟩;have U:ly l[k].door 0 ((G.doors.length:Int)-1)=true:=by simpa using U
 refine dl (dj d rfl) (dl (dj M rfl) (u9 (gK (dN (gP _ _ _ _) (eC ⟨λh=>?_,λW=>?_⟩)))));exact⟨_,rfl,by rw[c];simp at h;simp[h],y⟩;have W:ly l[k].shift 0 (2*G.days-1)=true:=by simpa using W
 rw[dr (by rw[U,W];rfl)]at c;simp only[ly,eL,jC]at U W;obtain⟨s,E⟩:∃s:Nat,l[k].shift=(s:Int):=⟨l[k].shift.toNat,by omega⟩;have N:∀q∈l.take (k+1),0<=q.shift/\q.shift<=1000:=λq x=>by rw[jM t]at x;rcases j8.1 x with x|x;exact hv q x;rw[iQ.1 x];omega
 rcases n4 k with X|X;refine dT dO (Az (mX (kg (by omega)) λw6 p=>mX rfl ?_));have m:¬l[k].shift<fK (l.take k):=by subst X;show¬l[0].shift<0;omega
 rw[dp m]at c;have af:=i.trans p;refine dT dO (dx _ (λw2 _=>kC k (by omega) ⟨rfl,dO.refl _⟩) (dI (dj (p.at_ d) rfl) (kZ _ (λO e7=>J O (((y.trans p).trans e7))) (Et ?_))));rintro O x7 _ ⟨db,rfl,B,hD⟩;refine ee hD λC k8 f=>?_;have f:C.heap[db]? =some (.cells (H8 (zD l[k].door zC (l.take k))).toArray 173):=f.trans (dQ (λa=>some (Obj.cells a 173)) (fo (sD 173).toArray _ rfl));have g:Ext T C:=(p.trans x7).dz k8 (dS p.size B);have D:=g.at_ d;have P:=y.trans g;have r:C.cell? ⟨tb,1,none⟩=some (.int .i64 l[k].shift):=dj D rfl;rw[E]at r;refine dl (dj f rfl) (dl r (nM (n:=2) (by omega) (by omega) (gA ⟨λh=>?_,λh=>?_⟩)));exact⟨_,rfl,by rw[c,E,dr (by simpa using eA h)];rfl,P⟩;rw[E,dp (by simpa using eH h)]at c;refine fg ((i.trans g).at_ A) (eB (vs:=H8 (zD l[k].door zC (l.take k))) (λj v K=>by rw[dB];exact dj f (by simpa using K)) (dt (H9 (da:=da) (dc:=dc) _) ?_));rintro _ w9 ⟨rfl,Q⟩;refine⟨λh=>?_,λh=>?_⟩;exact⟨_,rfl,by rw[c,dr h];rfl,P.trans Q⟩;rw[dp (by rw[h];decide)]at c;exact dD ⟨t,(),⟨rfl,rfl,rfl,trivial⟩,H.trans ((i.trans g).trans Q),N,c⟩;obtain⟨_,_,R,ag⟩:=Y (k-1) (by omega);cases R;refine dT dO (Az (ki (decide_eq_true (by omega)) (dI (dj d rfl) (rh (jU (k-1) 3 (by omega) (dI (y.cell (ag 1 _ rfl)) (LJ λw6 p=>⟨λh=>?_,λh=>?_⟩)) (by omega))))));exact⟨_,rfl,by rw[c,dr (by rw[uE t X];exact eA h)];rfl,y.trans p⟩;have m:¬l[k].shift<fK (l.take k):=by rw[uE t X];exact eH h
 rw[dp m]at c;have af:=i.trans p;refine dT dO (dx _ (λw2 _=>kC k (by omega) ⟨rfl,dO.refl _⟩) (dI (dj (p.at_ d) rfl) (kZ _ (λO e7=>J O (((y.trans p).trans e7))) (Et ?_))));rintro O x7 _ ⟨db,rfl,B,hD⟩;refine ee hD λC k8 f=>?_;have f:C.heap[db]? =some (.cells (H8 (zD l[k].door zC (l.take k))).toArray 173):=f.trans (dQ (λa=>some (Obj.cells a 173)) (fo (sD 173).toArray _ rfl));have g:Ext T C:=(p.trans x7).dz k8 (dS p.size B);have D:=g.at_ d;have P:=y.trans g;have r:C.cell? ⟨tb,1,none⟩=some (.int .i64 l[k].shift):=dj D rfl;rw[E]at r;refine dl (dj f rfl) (dl r (nM (n:=2) (by omega) (by omega) (gA ⟨λh=>?_,λh=>?_⟩)));exact⟨_,rfl,by rw[c,E,dr (by simpa using eA h)];rfl,P⟩;rw[E,dp (by simpa using eH h)]at c;refine fg ((i.trans g).at_ A) (eB (vs:=H8 (zD l[k].door zC (l.take k))) (λj v K=>by rw[dB];exact dj f (by simpa using K)) (dt (H9 (da:=da) (dc:=dc) _) ?_));rintro _ w9 ⟨rfl,Q⟩;refine⟨λh=>?_,λh=>?_⟩;exact⟨_,rfl,by rw[c,dr h];rfl,P.trans Q⟩;rw[dp (by rw[h];decide)]at c;exact dD ⟨t,(),⟨rfl,rfl,rfl,trivial⟩,H.trans ((i.trans g).trans Q),N,c⟩;have I:¬k<l.length:=by simpa using I
 rw[List.drop_eq_nil_of_le (by omega)]at c;exact⟨_,rfl,by rw[c];rfl,E2.trans H⟩
end Go.Proofs.W
variable{H N:Go.Proofs.W.Gd}{I J:Int}
namespace Go.Proofs.W
open Go.RowKit
structure uF(b:Int)(x:Sx)(t:Td):Prop where
 tries:x.tries=t.times
 mornings:x.mornings=t.mornings
 evenings:x.evenings=t.evenings
 opened:x.opened=t.opened
 left:x.left=false
 up:∀i:Nat,i<3->pf x i=true->(i:Int)<=t.day
 last:0<=t.day->pf x t.day.toNat=true
 low:2*t.day<=b/\t.day<3
def uF.zero:uF 0 rp zC:=⟨rfl,rfl,rfl,rfl,rfl,λi a h=>by unfold pf rp at h;revert h;split;intro h;cases h;split<;>(intro h;cases h),λh=>absurd h (by decide),by decide,by decide⟩
def uF.mono{x:Sx}{t:Td}(h:uF I x t)(a:I<=J):uF J x t:=⟨h.tries,h.mornings,h.evenings,h.opened,h.left,h.up,h.last,by have:=h.low;omega,h.low.2⟩
def zm(x:Sx)(s:Nat)(o:Bool)(a:s<6)(i:Nat)(b:i<3):pf (gN x s o) i=(decide (i=s/2)||pf x i):=by
 obtain rfl|rfl|rfl:i=0\/i=1\/i=2:=by omega
 all_goals
  obtain h|h|h:s/2=0\/s/2=1\/s/2=2:=by omega
  all_goals simp[pf,gN,h]
def uF.step{b:Int}{x:Sx}{t:Td}(h:uF b x t)(q:Tq)(s:Nat)(f:q.shift=s)(d:s<6)(g:b<=s):uF s (gN x s q.opened) (Kb t q):=by
 have a:q.shift.toNat=s:=by omega
 refine⟨by simp[gN,Kb,h.tries],by simp only[gN,Kb,a,h.mornings],by simp only[gN,Kb,a,h.evenings],by simp[gN,Kb,h.opened],h.left,λi e c=>?_,λ_=>?_,?_⟩;show(i:Int)<=((q.shift.toNat/2:Nat):Int);rw[a];rw[zm x s _ d i e]at c;simp only[GY,jC]at c;rcases c with rfl|c;exact Int.le_refl _;have:=h.up i e c;have:=h.low;omega;show pf (gN x s q.opened) ((q.shift.toNat/2:Nat):Int).toNat=true;rw[a,oO,zm x s _ d _ (by omega)];simp;show 2*((q.shift.toNat/2:Nat):Int)<=s/\((q.shift.toNat/2:Nat):Int)<3;rw[a];omega
theorem uF.day{x:Sx}{t:Td}(h:uF I x t)(s:Nat)(b:s<6)(c:I<=s):pf x (s/2)=true↔t.day=((s/2:Nat):Int):=by constructor;intro a;have d:=h.up (s/2) (by omega) a;have e:=h.low;omega;intro a;have:=h.last (by omega);rwa[a,oO]at this
def uF.met{x:Sx}{t:Td}(h:uF I x t)(n:Int):iq n x=JN n t:=by unfold iq JN;rw[h.left,h.opened,h.tries,h.mornings,h.evenings,Bool.false_or]
def uG(l:List Tq)(q:Tq):fK (l++[q])=q.shift:=by unfold fK;rw[List.getLast?_concat]
theorem zn(x:H.days<=3):∀(l a:List Tq) (c:List Sx),c.length=H.doors.length->(∀d:Nat,d<H.doors.length->uF (fK a) (c.getD d rp) (zD d zC a))->wo H a l=(pP H c (fK a) l).1
 |[],a,c,_,_=>rfl
 |q::r,a,c,y,u=>by
  simp only[wo,pP];by_cases f:(ly q.door 0 ((H.doors.length:Int)-1)&&ly q.shift 0 (2*H.days-1))=true;rw[dr f,dr f];simp only[ly,eL,jC]at f;obtain⟨d,g⟩:∃d:Nat,q.door=(d:Int):=⟨q.door.toNat,by omega⟩;obtain⟨s,v⟩:∃s:Nat,q.shift=(s:Int):=⟨q.shift.toNat,by omega⟩;have n:d<H.doors.length:=by omega
  have i:s<6:=by omega
  have o:=u d n;by_cases j:q.shift<fK a;rw[dr j,dr j];rw[dp j,dp j];have z:q.shift.toNat=s:=by omega
  have p:q.door.toNat=d:=by omega
  rw[z,p,g];have b:=o.day s i (by omega);by_cases k:pf (c.getD d rp) (s/2)=true;rw[dr (b.1 k),dr k];rw[dp λh=>k (b.2 h),dp k,<-o.met H.tries];by_cases m:iq H.tries (c.getD d rp)=true;rw[dr m,dr m];rw[dp m,dp m];have e:q.shift=fK (a++[q]):=(uG a q).symm;rw[e];refine zn x r (a++[q]) _ (by simpa using y) λw t=>?_;rw[uG,zl,v];by_cases A:w=d;subst A;rw[dr g,ng,List.getElem?_set_self (by omega)];exact o.step q s v i (by omega);rw[dp (by omega),ng,List.getElem?_set_ne (by omega),<-ng];exact(u w t).mono (by omega);rw[dp f,dp f]
def Ia(G:Gd)(l:List Tq):GF G l=my G l:=by unfold GF my;by_cases h:eF G=0;rw[dr h,dr h];refine zn (jV h).days.2 l [] _ (by simp) λd a=>?_;rw[ng,List.getElem?_replicate,dr a];exact uF.zero;rw[dp h,dp h]
end Go.Proofs.W
variable{m k i j o p s d:Nat}
namespace Go.Proofs.W
open Go.RowKit
def u64(n:Int):Int:=IntKind.wrap .u64 n
def Ib(n:Int):0<=u64 n:=by unfold u64 IntKind.wrap;simp only[IntKind.signed,Bool.false_and,iw,fp];exact Int.emod_nonneg _ (by decide)
def RA(a b:Int):Int:=u64 (BitVec.ofInt 64 a^^^BitVec.ofInt 64 b).toNat
section
variable{w:dg}{t:dn}{x y:dZ}{a b:Int}
def pW:Sem.run V.prog (do eqGuard .xor t x y (.int .u64 a) (.int .u64 b);binOp .xor t (.int .u64 a) (.int .u64 b)) w=.ok (.int .u64 (RA a b)) w:=rfl
def zo:Sem.run V.prog (do eqGuard .mul t x y (.int .u64 a) (.int .u64 b);binOp .mul t (.int .u64 a) (.int .u64 b)) w=.ok (.int .u64 (u64 (a*b))) w:=rfl
def MU:Sem.run V.prog (do eqGuard .add t x y (.int .u64 a) (.int .u64 b);binOp .add t (.int .u64 a) (.int .u64 b)) w=.ok (.int .u64 (u64 (a+b))) w:=rfl
def Ic(n:Nat)(d:n<=64)(c:b=n:=by rfl):Sem.run V.prog (do eqGuard .shl t x y (.int .u64 a) (.int .u64 b);binOp .shl t (.int .u64 a) (.int .u64 b)) w=.ok (.int .u64 (u64 (a*2^n))) w:=by
 subst c;show Sem.run V.prog (Op.shift .shl .u64 a .u64 n) w=_;unfold Op.shift;rw[dp (by omega)];have:min (n:Int).toNat IntKind.u64.bits=n:=by simp[IntKind.bits];omega
 rw[this];rfl
def se(n:Nat)(d:n<=64)(c:b=n:=by rfl):Sem.run V.prog (do eqGuard .shr t x y (.int .u64 a) (.int .u64 b);binOp .shr t (.int .u64 a) (.int .u64 b)) w=.ok (.int .u64 (a.fdiv (2^n))) w:=by
 subst c;show Sem.run V.prog (Op.shift .shr .u64 a .u64 n) w=_;unfold Op.shift;rw[dp (by omega)];have:min (n:Int).toNat IntKind.u64.bits=n:=by simp[IntKind.bits];omega
 rw[this];rfl
def MV(h:b≠0):Sem.run V.prog (do eqGuard .rem t x y (.int .u64 a) (.int .u64 b);binOp .rem t (.int .u64 a) (.int .u64 b)) w=.ok (.int .u64 (a.tmod b)) w:=by show Sem.run V.prog (Op.intDiv .rem .u64 a b) w=_;unfold Op.intDiv;rw[dp h];rfl
def Io:Tryz.prog.underlying 3=some (.int .i64):=by kernel_rfl
def MW:Tryz.prog.underlying 119=some (.int .u64):=by kernel_rfl
def Ie:Sem.run V.prog (convert 3 119 (.int .i64 a)) w=.ok (.int .u64 (u64 a)) w:=by unfold convert;simp only[Sem.run_bind,gY Io,gY MW,Result.andThen_ok];rfl
def Pq:Sem.run V.prog (convert 119 3 (.int .u64 a)) w=.ok (.int .i64 (IntKind.wrap .i64 a)) w:=by unfold convert;simp only[Sem.run_bind,gY Io,gY MW,Result.andThen_ok];rfl
end
section
variable{E:dg->dg->Prop}{w:dg}{kx:di->Prop}{kr kp kl:gW->Prop}{lb ea:Bool}
def pX{s:Sem di}(v:di)(b:gq E)(c:∀w,Sem.run V.prog s w=.ok v w)(k:kx v):wX E E w (λa d=>jB V.prog s a d) kx kr kp lb kl ea:=.exact v (λa _=>⟨v,a,c a,rfl,b.refl _⟩) k
end
structure iB(db:Nat)(w:dg):Prop where
 at_:∃(la:Option Addr) (ns:List Int) (lc i:Nat) (s:Int),w.heap[db]? =some (.cells #[.slice la ns.length lc,.int .i64 i,.int .u64 s] 121)/\iz w la ns/\(∀b o,ns≠[]->la=some ⟨b,o,none⟩->b<db)/\i<=ns.length/\ns.length<=9223372036854775807
def iz.keep{w c:dg}{a:Option Addr}{l:List Int}{F:Nat->Prop}(h:iz w a l)(k:dP F w c)(g:∀b o,l≠[]->a=some ⟨b,o,none⟩->¬F b):iz c a l:=λi d=>by obtain⟨b,o,f,j⟩:=h i d;exact⟨b,o,f,k.fh j (g b o (λe=>by subst e;exact absurd d (by simp)) f)⟩
def iB.lt{w:dg}(h:iB m w):m<w.heap.size:=by obtain⟨b,c,d,i,s,a,_⟩:=h.at_;exact dG.lt_of_heap a
theorem iB.keep{w a:dg}{F:Nat->Prop}(h:iB m w)(k:dP F w a)(c:∀b,F b->m<b):iB m a:=by obtain⟨f,g,j,i,s,l,n,d,p⟩:=h.at_;refine⟨f,g,j,i,s,k.fU l λx=>Nat.lt_irrefl _ (c _ x),n.keep k λb o q e r=>?_,d,p⟩;have:=d b o q e;have:=c b r;omega
def iB.ext{w a:dg}(h:iB m w)(e:Ext w a):iB m a:=h.keep (e.keep λ_=>False) λ_ h=>h.elim
def DE(c:Nat)(a b:dg):Prop:=dP (λx=>x=c) a b/\(iB c a->iB c b)
def Ext.de{a b:dg}(h:Ext a b)(c:Nat):DE c a b:=⟨h.keep _,λk=>k.ext h⟩
theorem DE.trans{a b c:dg}(h:DE m a b)(k:DE m b c):DE m a c:=⟨h.1.trans k.1 (λ_ _ h=>h) λ_ _ h=>h,λx=>k.2 (h.2 x)⟩
def wQ(d:Nat):gq (DE d):=⟨λw=>(Ext.refl w).de d,λa b c h k=>h.trans k,λw=>(Ext.drew w).de d⟩
def Pr{w:dg}(h:iB m w):Calls V.prog 104 #[dJ m] w (gh λv r=>(∃z:Int,v=.int .u64 z/\0<=z)/\DE m w r):=by
 obtain⟨t,j,p,i,s,D,N,E,W,X⟩:=h.at_
 have u:∀r (F:Int) (y:Nat),dP (λx=>x=m) w r->r.heap[m]? =some (.cells #[.slice t j.length p,.int .i64 y,.int .u64 F] 121)->y<=j.length->DE m w r:=λr F y k G Y=>
  ⟨k,λ_=>⟨t,j,p,y,F,G,N.keep k λb o H e G=>by have:=E b o H e;omega,E,Y,X⟩⟩
 refine go V.func104 Tryz.ntmps104 ?_;refine dT dO (dI (dj D rfl) (dI (dj D rfl) (pX _ dO (λ_=>Ic 13 (by decide)) (pX _ dO (λ_=>pW) λw1 O=>ee (O.at_ D) λZ I d=>?_))));replace d:Z.heap[m]? =some (.cells #[.slice t j.length p,.int .i64 i,.int .u64 (RA s (u64 (s*2^13)))] 121):=d;generalize RA s (u64 (s*2^13))=A at d;replace I:=(O.keep (λx=>x=m)).trans I (λ_ _ h=>h) λ_ _ h=>h;refine dT dO (dI (dj d rfl) (dI (dj d rfl) (pX _ dO (λ_=>se 7 (by decide)) (pX _ dO (λ_=>pW) λw3 P=>ee (P.at_ d) λw4 J f=>?_))));replace f:w4.heap[m]? =some (.cells #[.slice t j.length p,.int .i64 i,.int .u64 (RA A (A.fdiv (2^7)))] 121):=f;generalize RA A (A.fdiv (2^7))=B at f;replace J:=(I.trans (P.keep (λx=>x=m)) (λ_ _ h=>h) λ_ _ h=>h).trans J (λ_ _ h=>h) λ_ _ h=>h;refine dT dO (dI (dj f rfl) (dI (dj f rfl) (pX _ dO (λ_=>Ic 17 (by decide)) (pX _ dO (λ_=>pW) λw5 Q=>ee (Q.at_ f) λw6 l a=>?_))));replace a:w6.heap[m]? =some (.cells #[.slice t j.length p,.int .i64 i,.int .u64 (RA B (u64 (B*2^17)))] 121):=a;generalize RA B (u64 (B*2^17))=R at a;replace l:=(J.trans (Q.keep (λx=>x=m)) (λ_ _ h=>h) λ_ _ h=>h).trans l (λ_ _ h=>h) λ_ _ h=>h;refine dT dO (dI (dj a rfl) (dI (dj a rfl) (lf (LJ λw7 C=>⟨λn=>?_,λaa=>?_⟩))));have n:i<j.length:=by simpa using n
 replace a:=C.at_ a;replace l:=l.trans (C.keep (λx=>x=m)) (λ_ _ h=>h) λ_ _ h=>h;obtain⟨b,o,K,S⟩:=N.keep l (λb o H e G=>by have:=E b o H e;omega) i n;subst K;generalize j[i]=q at S;refine dT dO (dI (dj a rfl) (dI (dj a rfl) (dI (dj a rfl) (nH i n (dI S ?_)))));refine pX (.int .u64 (u64 q)) dO (λ_=>Ie) ?_;refine pX (.int .u64 (u64 (u64 q*13787848793156543929))) dO (λ_=>zo) ?_;refine pX (.int .u64 (u64 (R+u64 (u64 q*13787848793156543929)))) dO (λ_=>MU) ?_;refineλw8 T=>ee (T.at_ a) λw9 k9 g=>?_;generalize u64 (R+u64 (u64 q*13787848793156543929))=U at g;replace g:w9.heap[m]? =some (.cells #[.slice (some ⟨b,o,none⟩) j.length p,.int .i64 i,.int .u64 U] 121):=g;refine dl (dj g rfl) (dD (ee g λL M c=>?_));replace c:L.heap[m]? =some (.cells #[.slice (some ⟨b,o,none⟩) j.length p,.int .i64 ((i+1:Nat):Int),.int .u64 U] 121):=c;refine dl (dj c rfl) ?_;refine eJ _ (eJ _ (eJ _ (eJ _ (eJ _ ⟨_,rfl,⟨_,rfl,Ib _⟩,?_⟩ λ_=>pW) λ_=>se 31 (by decide)) λ_=>zo) λ_=>pW) λ_=>se 30 (by decide);exact u _ _ _ (((l.trans (T.keep (λx=>x=m)) (λ_ _ h=>h) λ_ _ h=>h).trans k9 (λ_ _ h=>h) λ_ _ h=>h).trans M (λ_ _ h=>h) λ_ _ h=>h) c (by omega);replace a:=C.at_ a;replace l:=l.trans (C.keep (λx=>x=m)) (λ_ _ h=>h) λ_ _ h=>h;refine dl (dj a rfl) ?_;refine eJ _ (eJ _ (eJ _ (eJ _ (eJ _ ⟨_,rfl,⟨_,rfl,Ib _⟩,?_⟩ λ_=>pW) λ_=>se 31 (by decide)) λ_=>zo) λ_=>pW) λ_=>se 30 (by decide);exact u _ _ _ l a W
def mB{w:dg}(h:iB m w)(n:Int)(g:n<=1000000):Calls V.prog 35 #[dJ m,.int .i64 n] w (gh λv b=>(∃z:Int,v=.int .i64 z/\0<=z/\(z<=n\/z=0))/\DE m w b):=by
 refine go V.func35 Tryz.ntmps35 ?_;refine eg ⟨λ_=>⟨_,rfl,⟨0,rfl,by omega,.inr rfl⟩,(wQ m).refl _⟩,λa=>?_⟩;have a:1<=n:=by simpa using a
 refine dt (Pr h) ?_;rintro v i ⟨⟨z,rfl,c⟩,d⟩;refine eJ _ (dD (eJ _ (eJ _ (eJ _ ⟨_,rfl,⟨_,rfl,?_⟩,d⟩ λ_=>Pq) λ_=>MV ?_) λ_=>Ie)) λ_=>se 16 (by decide);have e:u64 (n+1)=n+1:=IntWalk.u64_in _ ⟨by omega,by omega⟩;rw[e];have f:0<=z.fdiv (2^16):=Int.fdiv_nonneg c (by decide);have j:=Int.tmod_nonneg (n+1) f;have k:(z.fdiv (2^16)).tmod (n+1)<n+1:=Int.tmod_lt_of_pos _ (by omega);rw[IntWalk.i64_in _ ⟨by omega,by omega⟩];omega;have e:u64 (n+1)=n+1:=IntWalk.u64_in _ ⟨by omega,by omega⟩;rw[e];omega
def ll{w:dg}(h:iB m w)(a b:Int)(g: -1000000<=a/\a<=1000000)(i: -1000000<=b/\b<=1000000)(c:b-a<=1000000):Calls V.prog 30 #[dJ m,.int .i64 a,.int .i64 b] w (gh λv d=>(∃z:Int,v=.int .i64 z/\a<=z/\(z<=b\/z=a))/\DE m w d):=by refine go V.func30 Tryz.ntmps30 ?_;refine gK (dt (mB h _ c) ?_);rintro v j ⟨⟨z,rfl,k,e⟩,f⟩;exact dD ⟨_,rfl,⟨a+z,rfl,by omega,by omega⟩,f⟩
def BV{w:dg}(h:iB m w){l:List Int}{c:Option Addr}(g:iz w c l)(s:0<l.length)(i:l.length<=1000)(j:∀b o,c=some ⟨b,o,none⟩->b≠m):Calls V.prog 59 #[dJ m,.slice c l.length k] w (gh λv n=>(∃z∈l,v=.int .i64 z)/\DE m w n):=by
 refine go V.func59 Tryz.ntmps59 ?_;refine dK (gK (dt (mB h _ (by omega)) ?_));rintro v t ⟨⟨z,rfl,u,p⟩,f⟩;obtain⟨a,rfl⟩:∃a:Nat,z=a:=⟨z.toNat,by omega⟩;have d:a<l.length:=by omega
 obtain⟨b,o,rfl,q⟩:=g.keep f.1 (λb o _ e r=>j b o e r) a d;exact eP a d (dl q ⟨_,rfl,⟨_,fc d,rfl⟩,f⟩)
def EL{w:dg}{l:List Int}{a:Option Addr}(h:iz w a l)(j:l.length<=9223372036854775807):Calls V.prog 27 #[.slice a l.length m] w (gh λv i=>Ext w i/\∃d,v=dJ d/\w.heap.size<=d/\iB d i):=by
 refine go V.func27 Tryz.ntmps27 ?_;refine eJ (.agg #[.slice a l.length m,.int .i64 0,.int .u64 11400714819323198485]) (fB λs k f g n=>?_);refine⟨_,rfl,f,k,rfl,g,a,l,m,0,11400714819323198485,n,h.ext f,λb o p e=>?_,gu _,j⟩;have q:0<l.length:=by rcases l with _|_;exact absurd rfl p;simp
 obtain⟨t,u,c,r⟩:=h 0 q;rw[e]at c;injection c with c;injection c with f x;have:=te r;simp only at*;omega
end Go.Proofs.W
variable{w t e:dg}{x y z:di}{A B C:Nat->Prop}{l f:List Nat}{T U:dn}{a:Option Go.Addr}{M Y:List di}{S:dg->Prop}
namespace Go.Proofs.W
open Go.RowKit
def gQ.at_(h:gQ m w x l)(d:0<l.length):∃b c,x=.slice (some ⟨b,0,none⟩) l.length c/\m<=b/\∀k (a:k<l.length),w.cell? ⟨b,0+k,none⟩=some (.int .i64 l[k]):=by obtain⟨b,c,e,f,g⟩:=dM.cell h d;exact⟨b,c,e,f,λk a=>by rw[dB];exact g k _ (by simp[jk,fI a])⟩
def Qw(h:gQ m w (.slice (some ⟨k,0,none⟩) j i) l)(L:o<l.length)(x:Nat)(z:∀e,dP (dw (.slice (some ⟨k,0,none⟩) j i)) w e->gQ m e (.slice (some ⟨k,0,none⟩) j i) (l.set o x)->S e):Dt V.prog (Instr.storeAt 3 (.pointer (some ⟨k,0+o,none⟩)) (.int .i64 x)) w S:=by
 obtain⟨M,⟨t,p⟩|⟨N,A,q,t,p,B,v,C,D,E,F⟩⟩:=h;cases p;injection p with g G H;injection g with g;injection g with g;subst g;have r:o<q.size:=by rw[v];simp;omega
 have a:jk (l.set o x)=(jk l).set o (.int .i64 x):=by simp[jk,List.map_set]
 refine jj B (by simp[Value.cells];omega) (λe I c=>z e (I.trans (dP.refl (λ_=>False) _) (λy _ J=>⟨j,i,by rw[J]⟩) λ_ _ h=>h.elim) ?_) (λu K=>by
  have:u=.int .i64 x:=by simpa[Value.cells]using K
  subst this;rfl)
 replace c:e.heap[k]? =some (.cells (q.setIfInBounds o (.int .i64 x)) 3):=by rw[c];simp[gD,Value.cells]
 have n:(jk l).length=l.length:=by simp[jk]
 refine⟨by rw[a];simp[n],.inr ⟨k,A,q.setIfInBounds o (.int .i64 x),t,by rw[G,H];simp,c,by simpa using v,by simpa using C,D,λf b=>?_,λf b s=>?_⟩⟩;rw[a]at b⊢;have b:f<(jk l).length:=by simpa using b
 by_cases d:o=f;subst d;rw[kq r,List.getElem?_set_self b];rw[eG d,List.getElem?_set_ne d];exact E f b;rw[a]at b;have b:(jk l).length<=f:=by simpa using b
 rw[eG (by omega)];exact F f b (by simpa using s)
def JO(h:iB m w)(n:Nat)(Z:n<=1000):Calls V.prog 60 #[dJ m,.int .i64 n] w (gh λv g=>DE m w g/\∃l,l.Perm (List.range n)/\gQ w.heap.size g v l):=by
 have P:=h.lt;refine go V.func60 Tryz.ntmps60 ?_;refine gE n (λk v=>[(0,dJ m),(1,.int .i64 n),(5,v),(6,.int .i64 k)]) (λk v g=>Ext w g/\gQ w.heap.size g v (List.range k)) (.slice none 0 0) ⟨⟨rfl,rfl,rfl,rfl,trivial⟩,Ext.refl _,dM.nil _ _ _ _⟩ ?_;rintro k v w1 hk ⟨E,F⟩;refine eg ⟨λo=>?_,λG=>?_⟩;have o:k<n:=by simpa using o
 refine eQ [Value.int .i64 k] 3 λQ nb B R r=>iM uj (F.ext B) (by have:=E.size;have:=B.size;omega) r (by simp;omega) λS L d T _=>dD ⟨o,S,⟨rfl,rfl,rfl,rfl,trivial⟩,(E.trans B).iZ T (F.ext B) (dC _),?_⟩;rw[qv];simpa[gQ,jk]using d
 obtain rfl:k=n:=by have:¬k<n:=by simpa using G
                    omega
 refine gK (gE (k-1) (λ_ (s:List Nat×Int)=>[(0,dJ m),(5,v),(7,.int .i64 s.2)]) (λj s g=>DE m w g/\s.1.Perm (List.range k)/\gQ w.heap.size g v s.1/\s.2=(k:Int)-1-j) (List.range k,(k:Int)-1) ⟨⟨rfl,rfl,rfl,trivial⟩,E.de m,.refl _,F,by simp⟩ ?_);rintro j ⟨l,i⟩ Q hj ⟨C,D,f,U⟩;simp only at D f U;refine mE ⟨λt=>?_,λx=>?_⟩;have t:0<i:=by simpa using t
 have hl:l.length=k:=by simpa using D.length_eq
 refine dt (mB (C.2 h) i (by omega)) ?_;rintro u L ⟨⟨z,rfl,q,W⟩,H⟩;have d:gQ w.heap.size L v l:=dM.keep f H.1 λb r e=>by have:=dM.blk f r;omega
 obtain⟨p,rfl⟩:∃a:Nat,z=a:=⟨z.toNat,by omega⟩;obtain⟨a,rfl⟩:∃a:Nat,i=a:=⟨i.toNat,by omega⟩;obtain⟨b,c,rfl,X,M⟩:=d.at_ (by omega);have A:a<l.length:=by omega
 have q:p<l.length:=by omega
 refine eP a A (dl (M a A) (eP p q (dl (M p q) (eP a A (Qw d A l[p] λw4 N I=>eP p q (Qw I (by simpa using q) l[a] λw5 O J=>gK ⟨by omega,((l.set a l[p]).set p l[a],(a:Int)-1),⟨rfl,rfl,rfl,trivial⟩,?_,(List.set_set_perm A q).trans D,J,by simp only;omega⟩))))));have Y:∀y,dw (.slice (some ⟨b,0,none⟩) l.length c) y->y=b:=λy ⟨_,_,e⟩=>by injection e with e;exact(dQ Addr.block (dH e)).symm
 refine⟨((C.1.trans H.1 (λ_ _ h=>h) λ_ _ h=>h).trans N (λ_ _ h=>h) λy K r=>?_).trans O (λ_ _ h=>h) λy K r=>?_,λ_=>((H.2 (C.2 h)).keep N λy K=>?_).keep O λy K=>?_⟩<;>have:=Y y (by assumption)<;>omega;have x:i<=0:=by simpa using x
 exact⟨_,rfl,C,l,D,f⟩
def Th(c:Nat)(a:Option Addr):Prop:=∀b o,a=some ⟨b,o,none⟩->c<=b
def dM.UT(h:dM m T M w (.slice a k i) j Y):Th m a:=λb o e=>by obtain⟨_,⟨_,h⟩|⟨d,f,g,l,c,_⟩⟩:=h;injection h with h;rw[e]at h;cases h;injection c with c;rw[e]at c;injection c with c;injection c with c;omega
def gi.keep(h:gi w a l)(k:dP A w t)(d:∀b o,a=some ⟨b,o,none⟩->¬A b):gi t a l:=λi e=>by obtain⟨b,o,c,f⟩:=h i e;exact⟨b,o,c,k.fh f (d b o c)⟩
def GG(h:iB m w){dc:Nat}(x:H.doors.length<=1000):Calls V.prog 43 #[dJ m,gV H a dc] w (gh λv n=>DE m w n/\∃(l:List Nat) (f:Option Addr) (c:Nat),v=.slice f l.length c/\gi n f l/\l.length<=c/\l.length<=H.doors.length/\l.Nodup/\(∀d∈l,d<H.doors.length)/\Th w.heap.size f):=by
 refine go V.func43 Tryz.ntmps43 ?_;refine fB λF G g y p=>dl (dj p rfl) (dK (dt (JO (h.ext g) H.doors.length x) ?_));rintro v I ⟨q,l,i,r⟩;obtain⟨f,c,rfl,A,J⟩:=r.row;have s:=dM.UT r;have K:l.length=H.doors.length:=by simpa using i.length_eq
 refine dK (dt (mB (q.2 (h.ext g)) l.length (by omega)) ?_);rintro u L ⟨⟨z,rfl,M,B⟩,t⟩;obtain⟨k,rfl⟩:∃k:Nat,z=k:=⟨z.toNat,by omega⟩;have C:k<=l.length:=by omega
 have D:=h.lt;have j:=g.size;refine kC k (by omega) ⟨_,rfl,((g.de m).trans q).trans t,l.take k,f,c,by rw[xq,Nat.min_eq_left C];rfl,gi.cut (gi.keep A t.1 λb o e p=>?_) k,by simp;omega,by simp;omega,?_,λd E=>?_,λb o e=>dS j (s b o e)⟩;have:=s b o e;omega;exact((i.nodup_iff).2 List.nodup_range).sublist (List.take_sublist k l);have:=i.subset (List.mem_of_mem_take E);simpa using this
def mj(b:Nat)(w:dg)(v:di)(a:List Dr):Prop:=dM b 81 [.int .i64 0,.int .i64 0,.int .i64 0] w v a.length (a.flatMap dL)
theorem vy:∀a:List Dr,(a.flatMap dL).length=a.length*3
 |[]=>rfl
 |d::r=>by have:=vy r;simp[dL,this];omega
def mj.row{d:List Dr}(h:mj m w x d):∃a c,x=.slice a d.length c/\iv w a d/\d.length<=c:=by obtain⟨p,⟨g,rfl⟩|⟨b,c,q,r,rfl,e,s,j,t,f,u⟩⟩:=h;exact⟨none,0,by rw[g],λk i=>by omega,by omega⟩;refine⟨_,c,rfl,λk i=>?_,j⟩;obtain⟨l,n,o⟩:=uk d k i;have g:=vy d;refine⟨b,0,rfl,dj e ?_,dj e ?_,dj e ?_⟩;rw[dB,f _ (by omega)];exact l;rw[dB,f _ (by omega)];exact n;rw[dB,f _ (by omega)];exact o
def mj.RB{b:List Dr}(h:mj m w (.slice a b.length k) b):iv w a b:=by obtain⟨c,d,e,h,_⟩:=h.row;injection e with e;rw[e];exact h
structure AX(n:Int)(d:Dr):Prop where
 st:0<=d.st/\d.st<=n-1
 at_:0<=d.at_/\d.at_<=20
 talk:1<=d.talk/\d.talk<=9
theorem wq:∀{f:List Dr},(∀d∈f,AX I d)->lP I f=0
 |[],_=>rfl
 |d::r,h=>by
  have e:=h d iV;have:nI I d=0:=by have a:=e.st;have b:=e.at_;have c:=e.talk;simp[nI,ly,a,b,c]
  simp only[lP,this,ei];exact wq λx g=>h x (iF _ g)
def GE(c:Nat)(v:di)(a b:dg):Prop:=dP (λx=>x=c\/dw v x) a b/\(iB c a->iB c b)
def DE.ge(h:DE m w t):GE m x w t:=⟨h.1.trans (dP.refl (λ_=>False) _) (λ_ _ h=>.inl h) λ_ _ h=>h.elim,h.2⟩
def UU(d:Nat)(v:di):gq (GE d v):=⟨λw=>((Ext.refl w).de d).ge,λa b c h k=>⟨h.1.trans k.1 (λ_ _ h=>h) λ_ _ h=>h,λx=>k.2 (h.2 x)⟩,λw=>((Ext.drew w).de d).ge⟩
structure W7(n0 gb:Nat)(st co kn mi da tr:Int)(ds:List Dr)(v:di)(w:dg):Prop where
 g:w.heap[gb]? =some (.cells #[.int .i64 st,.int .i64 co,.int .i64 kn,.int .i64 mi,.int .i64 da,.int .i64 tr,v] 24)
 r:mj n0 w v ds
 ok:∀d∈ds,AX st d
def JP(p:Int->Prop)(v:di):Prop:=∃z:Int,v=.int .i64 z/\p z
def mj.low{a:List Dr}(h:mj m w x a)(g:k<=m):mj k w x a:=by obtain⟨d,h|⟨b,c,e,i,f⟩⟩:=h;exact⟨d,.inl h⟩;exact⟨d,.inr ⟨b,c,e,by omega,f⟩⟩
def BW(h:iB m w)(n:Nat)(hn:n<=5):Calls V.prog 28 #[dJ m,.int .i64 n] w (gh λv Z=>DE m w Z/\∃G a c,v=gV G a c/\mj w.heap.size Z (.slice a G.doors.length c) G.doors/\iv Z a G.doors/\eF G=0/\G.doors.length<=n):=by
 have aE:=h.lt;refine go V.func28 Tryz.ntmps28 ?_;refine fJ λw1 rb e1 aF hr=>?_;have f:=h.ext e1;have aD:=dG.lt_of_heap hr;have ar:=e1.size;refine dt (ll f 1 3 (by omega) (by omega) (by omega)) ?_;rintro _ w2 ⟨⟨F,rfl,s1,s2⟩,O⟩;refine dt (ll (O.2 f) 1 5 (by omega) (by omega) (by omega)) ?_;rintro _ t ⟨⟨co,rfl,c1,c2⟩,d3⟩;replace d3:=O.trans d3;refine dt (ll (d3.2 f) 1 3 (by omega) (by omega) (by omega)) ?_;rintro _ B ⟨⟨kn,rfl,k1,k2⟩,d4⟩;replace d4:=d3.trans d4;refine dt (ll (d4.2 f) 20 45 (by omega) (by omega) (by omega)) ?_;rintro _ w5 ⟨⟨a1,rfl,a2,a3⟩,d5⟩;replace d5:=d4.trans d5;refine dt (ll (d5.2 f) 30 60 (by omega) (by omega) (by omega)) ?_;rintro _ w6 ⟨⟨b1,rfl,b2,b3⟩,d6⟩;replace d6:=d5.trans d6;refine dt (ll (d6.2 f) 1 90 (by omega) (by omega) (by omega)) ?_;rintro _ w7 ⟨⟨x1,rfl,x2,x3⟩,d7⟩;replace d7:=d6.trans d7;refine eQ [.int .i64 a1,.int .i64 b1,.int .i64 x1] 3 λw8 mb e8 aG D=>?_;have d8:=d7.trans (e8.de m);have s7:=d7.1.size;refine dt (BV (l:=[a1,b1,x1]) (d8.2 f) (lT D) (by simp) (by simp) (λb o e=>by injection e with e;injection e with e;omega)) ?_;rintro _ w9 ⟨⟨S,ad,rfl⟩,d9⟩;replace d9:=d8.trans d9;have ad:1<=S/\S<=90:=by simp only[ft,lZ,jN]at ad;omega
 refine eQ [.int .i64 1,.int .i64 2,.int .i64 2,.int .i64 3,.int .i64 3] 3 λaH yb au aI hy=>?_;have aa:=d9.trans (au.de m);have s9:=d9.1.size;refine dt (BV (l:=[1,2,2,3,3]) (aa.2 f) (lT hy) (by simp) (by simp) (λb o e=>by injection e with e;injection e with e;omega)) ?_;rintro _ aJ ⟨⟨P,ae,rfl⟩,J⟩;replace J:=aa.trans J;have ae:1<=P/\P<=3:=by simp only[ft,lZ,jN]at ae;omega
 refine eJ (.agg #[.int .i64 F,.int .i64 co,.int .i64 kn,.int .i64 S,.int .i64 P,.int .i64 0,.slice none 0 0]) (fJ λaK Q av aw hg=>ee hg λaf ax H=>?_);replace H:af.heap[Q]? =some (.cells #[.int .i64 F,.int .i64 co,.int .i64 kn,.int .i64 S,.int .i64 P,.int .i64 0,.slice none 0 0] 24):=H;have aL:=J.1.size;have T:DE m w1 af:=J.trans ((Ext.dz av ax aw).de m);refine dl (dj H rfl) (dt (ll (T.2 f) 1 P (by omega) (by omega) (by omega)) ?_);rintro _ aM ⟨⟨tr,rfl,t1,t2⟩,U⟩;have ag:=U.1.fU H (show¬Q=m by omega);refine ee ag λah ai K=>?_;replace K:ah.heap[Q]? =some (.cells #[.int .i64 F,.int .i64 co,.int .i64 kn,.int .i64 S,.int .i64 P,.int .i64 tr,.slice none 0 0] 24):=K;have aj:DE m w1 ah:=⟨(T.trans U).1.trans ai (λ_ _ h=>h) (λx A e=>by omega),λx=>((T.trans U).2 x).keep ai λb e=>by omega⟩;refine dt (mB (aj.2 f) n (by omega)) ?_;rintro _ aN ⟨⟨z,rfl,z1,z2⟩,L⟩;have ak:=L.1.fU K (show¬Q=m by omega);replace L:=aj.trans L;have al:=L.1.fU hr (show¬rb=m by omega);clear U T J aa d9 d8 d7 d6 d5 d4 d3 O;refine gE z.toNat (λ_ (s:(List Dr×di)×Int)=>[(0,dJ m),(4,dJ rb),(5,dJ Q),(6,.int .i64 s.2)]) (λk s Z=>DE m w1 Z/\W7 w1.heap.size Q F co kn S P tr s.1.1 s.1.2 Z/\Z.heap[rb]? =some (.cells (sD 24).toArray 24)/\s.1.1.length=k/\s.2=z-k) (([],.slice none 0 0),z) ⟨⟨rfl,rfl,rfl,rfl,trivial⟩,L,⟨ak,dM.nil _ _ _ _,λd M=>by cases M⟩,al,rfl,by simp⟩ ?_;rintro k ⟨⟨R,v⟩,i⟩ w2 hk ⟨O,D,X,am,hi⟩;simp only at D am hi;refine mE ⟨λan=>?_,λab=>?_⟩;have an:0<i:=by simpa using an
 have W:∀b,dw v b->w1.heap.size<=b/\b<w2.heap.size:=λb E=>dM.blk D.r E;have ay:¬(Q=m\/dw v Q):=by rintro(e|E);omega;obtain⟨cs,q⟩:=dM.c_ D.r E;exact gO q D.g (by decide)
 have hg:∀t,GE m v w2 t->t.heap[Q]? =some (.cells #[.int .i64 F,.int .i64 co,.int .i64 kn,.int .i64 S,.int .i64 P,.int .i64 tr,v] 24):=λt p=>p.1.fU D.g ay;have hD:=O.2 f;have s2:=O.1.size;have fresh:∀{a b:dg} {x:Nat} {o:Obj},a.heap[x]? =some o->GE m v a b->w2.heap.size<=x->b.heap[x]? =some o:=λA e ab=>e.1.fU A (by rintro(e|E);omega;have:=(W _ E).2;omega);refine io 20 (wQ m) (UU m v) (λa b h=>h.ge) ?_;refine .exact v (λt p=>dl (dj (hg t p) rfl) ⟨rfl,(wQ m).refl _⟩) ?_;refine .exact (.int .i64 F) (λt p=>dl (dj (hg t p) rfl) ⟨rfl,(wQ m).refl _⟩) ?_;refine .exact (.int .i64 (F-1)) (λt p=>gK ⟨rfl,(wQ m).refl _⟩) ?_;refine .rel (λu _=>JP (λx=>0<=x/\x<=F-1) u) (λ_ _ _ h _=>h) (λt p=>dt (mB (p.2 hD) _ (by omega)) λu B ⟨⟨x,e,f,I⟩,d⟩=>⟨⟨x,e,by omega⟩,d⟩) ?_;refine .rel (λu _=>JP (λx=>0<=x/\x<=20) u) (λ_ _ _ h _=>h) (λt p _ _=>dt (mB (p.2 hD) 9 (by omega)) λu B ⟨⟨x,e,f,I⟩,d⟩=>⟨⟨x,e,by omega⟩,d⟩) ?_;refine .rel (λu _=>JP (λx=>0<=x/\x<=20) u) (λ_ _ _ h _=>h) (λt p _ _=>dt (mB (p.2 hD) 9 (by omega)) λu B ⟨⟨x,e,f,I⟩,d⟩=>⟨⟨x,e,by omega⟩,d⟩) ?_;refine .rel (λu _=>JP (λx=>0<=x/\x<=20) u) (λ_ _ _ h _=>h) (λt p _ _=>dt (mB (p.2 hD) 20 (by omega)) λu B ⟨⟨x,e,f,I⟩,d⟩=>⟨⟨x,e,by omega⟩,d⟩) ?_;refine .rel (λu B=>∃b x y z:Int,∃C:Nat,u=.slice (some ⟨C,0,none⟩) 3 3/\w2.heap.size<=C/\B.heap[C]? =some (.cells ([x,y,z].map (Value.int .i64)).toArray 3)/\∀j∈[x,y,z],0<=j/\j<=20) (λu a b ⟨_,x,y,z,C,f,I,Y,h4⟩ e=>⟨0,x,y,z,C,f,I,fresh Y e I,h4⟩) (λt p u1 f u2 I u3 Y=>?_) ?_;obtain⟨x,rfl,A⟩:=f;obtain⟨y,rfl,hy⟩:=I;obtain⟨z,rfl,hz⟩:=Y;have:=p.1.size;refine eQ [.int .i64 z,.int .i64 y,.int .i64 x] 3 λB C N ao E=>⟨⟨0,z,y,x,C,rfl,by omega,E,?_⟩,N.de m⟩;intro j hj;simp only[ft,lZ,jN]at hj;omega;refine .rel (λu _=>JP (λx=>0<=x/\x<=20) u) (λ_ _ _ h _=>h) (λt p u1 f _ _=>?_) ?_;obtain⟨_,x,y,z,C,rfl,g1,g2,g3⟩:=f;refine dt (BV (l:=[x,y,z]) (p.2 hD) (lT g2) (by simp) (by simp) (λb o e=>by injection e with e;injection e with e;omega)) λu B ⟨⟨j,hj,e⟩,d⟩=>⟨⟨j,e,g3 j hj⟩,d⟩;refine .rel (λu _=>JP (λx=>1<=x/\x<=9) u) (λ_ _ _ h _=>h) (λt p _ _=>dt (ll (p.2 hD) 1 6 (by omega) (by omega) (by omega)) λu B ⟨⟨x,e,f,I⟩,d⟩=>⟨⟨x,e,by omega⟩,d⟩) ?_;refine .rel (λu _=>∃d,AX F d/\u=.agg (dL d).toArray) (λ_ _ _ h _=>h) (λt p u1 f u2 I u3 Y=>?_) ?_;obtain⟨x,rfl,A⟩:=f;obtain⟨y,rfl,hy⟩:=I;obtain⟨z,rfl,hz⟩:=Y;exact eJ (.agg (dL ⟨z,y,x⟩).toArray) ⟨⟨⟨z,y,x⟩,⟨hz,hy,A⟩,rfl⟩,(wQ m).refl _⟩;refine .rel (λu B=>∃(d:Dr) (C:Nat),AX F d/\u=.slice (some ⟨C,0,none⟩) 1 1/\w2.heap.size<=C/\B.heap[C]? =some (.cells (dL d).toArray 81)) (λu a b ⟨d,C,f,I,Y,h4⟩ e=>⟨d,C,f,I,Y,fresh h4 e Y⟩) (λt p u1 f=>?_) ?_;obtain⟨d,M,rfl⟩:=f;have:=p.1.size;exact eQ (dL d) 81 λB C N ao E=>⟨⟨d,C,M,rfl,by omega,E⟩,N.de m⟩;refine .spec (λu B=>∃d,AX F d/\mj w1.heap.size B u (R++[d])) (λu a b ⟨d,M,hu⟩ e=>⟨d,M,dM.keep hu e.1 λx A e=>by have:=(dM.blk hu A).1;have:=f.lt;omega⟩) (λB N u1 f _ _=>?_) ?_;obtain⟨d,C,M,rfl,ao,E⟩:=f;have az:mj w1.heap.size B v R:=dM.keep D.r N.1 λx A e=>by have:=(dM.blk D.r A).1;have:=h.lt;omega
 have:=N.1.size;refine iM OL az (by omega) E (by omega) λv' w5 g1 g2 g3=>⟨⟨d,M,by simpa[mj]using g1⟩,g2.trans (dP.refl (λ_=>False) _) (λ_ _ h=>.inr h) (λ_ _ h=>h.elim),λx=>x.keep g2 λb E=>?_⟩;have:=(W b E).1;omega;rintro B N u1 ⟨d,M,hu⟩ _ _ _ _ _ _ _ _ _ _ _ _ _ _ _ _ _ _;obtain⟨a9,c9,rfl,_⟩:=mj.row hu;have q4:=hg B N;refine ee q4 λw5 k5 aA=>gK ⟨by omega,((R++[d],.slice a9 (R++[d]).length c9),i-1),⟨rfl,rfl,rfl,rfl,trivial⟩,⟨(O.1.trans N.1 (λ_ _ h=>h) λx A e=>?_).trans k5 (λ_ _ h=>h) λx A e=>by omega,λx=>(N.2 (O.2 x)).keep k5 λb e=>by omega⟩,⟨aA,dM.keep hu k5 λx A e=>?_,λx A=>?_⟩,?_,by simp;omega,by simp only;omega⟩;rcases e with e|e;exact e;have:=(W x e).1;omega;subst e;obtain⟨cs,q⟩:=dM.c_ hu A;exact gO q q4 (by decide);rcases j8.1 A with A|A;exact D.ok x A;rcases iQ.1 A with rfl;exact M;refine k5.fU (N.1.fU X ?_) (by omega);rintro(e|E);omega;have:=(W _ E).1;omega;have ab:i<=0:=by simpa using ab
 obtain⟨a,c,rfl,aO,hc⟩:=mj.row D.r;obtain⟨G,hG⟩:∃G:Gd,G=⟨F,co,kn,S,P,tr,R⟩:=⟨_,rfl⟩;have ac:R=G.doors:=by rw[hG]
 have hg:w2.heap[Q]? =some (.cells (gL G a c).toArray 24):=by rw[hG];exact D.g
 refine fg hg (ee X λt k3 ap=>?_);have aB:t.heap[rb]? =some (.cells (gL G a c).toArray 24):=ap.trans (dQ (λa=>some (Obj.cells a 24)) (fo (sD 24).toArray (gL G a c) rfl));have hl:Sem.run V.prog (loadVar 24 ⟨rb,0,none⟩) t=.ok (gV G a c) t:=nN (gL G a c) aB λj v hj=>by rw[dB];simpa using hj
 clear ap;have aq:∀x,dw (.slice a R.length c) x->¬x=rb:=λx A e=>by have:=(dM.blk D.r A).1;omega
 refine⟨gV G a c,hl,_,rfl,⟨((e1.keep _).trans O.1 (λ_ _ h=>h) λ_ _ h=>h).trans k3 (λ_ _ h=>h) λx A e=>by omega,λx=>(O.2 (x.ext e1)).keep k3 λb e=>by omega⟩,G,a,c,rfl,?_,?_,?_,by rw[<-ac];omega⟩;rw[<-ac];exact mj.low (dM.keep D.r k3 aq) ar;rw[<-ac];exact mj.RB (dM.keep D.r k3 aq);have aC:∀d∈R,AX F d:=D.ok;rw[hG];have M:=wq aC;have hh:j9 ⟨F,co,kn,S,P,tr,R⟩=true:=by simp only[j9,ly,eL,jC];omega
 have h5:¬(5:Int)<R.length:=by omega
 simp only[eF,hh,ei,h5,fp];exact M
def EM(h:iB m w)(n:Int)(c: -1000000<=n/\n<=1000000):Calls V.prog 93 #[dJ m,.int .i64 n] w (gh λv a=>(∃b,v=.bool b)/\DE m w a):=by refine go (V.fn Tryz.func93 (by decide)) Tryz.ntmps93 ?_;refine gK (dt (mB h (n-1) (by omega)) ?_);rintro _ e ⟨⟨z,rfl,_⟩,d⟩;exact gA ⟨_,rfl,⟨_,rfl⟩,d⟩
section
variable{G:Gd}{xs:List Sx}
end
section
variable{H G:Gd}
end
def RR(t:Ty):Tq:=⟨t.door,t.shift,t.opened⟩
def zp(w:dg)(a:Option Addr)(l:List Ty):Prop:=∀k (h:k<l.length),∃b o,a=some ⟨b,o,none⟩/\∀j v,(tL l[k])[j]? =some v->w.cell? ⟨b,o+k*3+j,none⟩=some v
def zp.ext{l:List Ty}(h:zp w a l)(e:Ext w t):zp t a l:=λk c=>by obtain⟨b,o,d,f⟩:=h k c;exact⟨b,o,d,λj v g=>e.cell (f j v g)⟩
def zp.q{l:List Ty}(h:zp w a l):iA w a (l.map RR):=λk c=>by obtain⟨b,o,d,e⟩:=h k (by simpa using c);exact⟨b,o,d,λj v f=>e j v (by simpa[pj,RR,tL]using f)⟩
def ml(l:List Ty)(d h:Nat):Nat:=(l.filter λt=>decide (t.door=d/\t.shift%2=h)).length
def zq(l:List Ty)(d:Nat):Bool:=l.any λt=>decide (t.door=d)&&t.opened
def JQ(l:List Ty)(d a:Nat):Bool:=l.any λt=>decide (t.door=d)&&decide (t.shift/2=a)
def tz(l:List Ty)(t:Ty)(d h:Nat):ml (l++[t]) d h=ml l d h+if t.door=d/\t.shift%2=h then 1 else 0:=by simp only[ml,List.filter_append,kN];congr 1;by_cases c:t.door=d/\t.shift%2=h<;>simp[List.filter,c]
def tA(l:List Ty)(t:Ty)(d:Nat):zq (l++[t]) d=(zq l d||(decide (t.door=d)&&t.opened)):=by simp[zq]
def zr(l:List Ty)(t:Ty)(d a:Nat):JQ (l++[t]) d a=(JQ l d a||(decide (t.door=d)&&decide (t.shift/2=a))):=by simp[JQ]
def zt(l:List Ty)(d h:Nat):ml l d h<=l.length:=List.length_filter_le ..
def Ig{m n:Nat}(a:0<n)(w:dg):Calls V.prog 34 #[.int .i64 m,.int .i64 n] w (gh λv b=>v=.int .i64 ((m%n:Nat):Int)/\b=w):=by refine go (V.fn Tryz.func34 (by decide)) Tryz.ntmps34 ?_;exact yB a (eg (mX (by simp;omega) ⟨_,rfl,rfl,rfl⟩))
def EN{l:List Ty}{lc:Nat}(x:zp w a l)(u:l.length<=100000)(d h:Nat):Calls V.prog 74 #[.slice a l.length lc,.int .i64 d,.int .i64 h] w (gh λv p=>v=.tuple #[.int .i64 (ml l d h),.bool (zq l d)]/\p=w):=by
 refine go (V.fn Tryz.func74 (by decide)) Tryz.ntmps74 ?_;refine gE l.length (λk (_:Unit)=>[(0,.slice a l.length lc),(1,.int .i64 d),(2,.int .i64 h),(8,.int .i64 (ml (l.take k) d h)),(9,.bool (zq (l.take k) d)),(10,.int .i64 k)]) (λ_ _ p=>p=w) () ⟨⟨rfl,rfl,rfl,rfl,rfl,rfl,trivial⟩,rfl⟩ ?_;rintro k _ z A rfl;refine dK (eg ⟨λr=>?_,λs=>?_⟩);have c:k<l.length:=by simpa using r
 obtain⟨b,o,rfl,m⟩:=x k c;have y:=zt (l.take k) d h;rw[xq]at y;have g:=tz (l.take k) l[k] d h;have i:=tA (l.take k) l[k] d;rw[<-jM c]at g i;refine fl k 3 c (dl (m 0 _ rfl) (gA ⟨λj=>?_,λj=>?_⟩));have j:l[k].door=d:=Int.ofNat.inj (eA j);rw[decide_eq_true j,Bool.true_and]at i;refine⟨λt=>?_,λt=>?_⟩;rw[t,Bool.true_or]at i;refine fl k 3 c (dl (m 1 _ rfl) (dN (Ig (n:=2) (by omega) _) (gA ⟨λf=>?_,λf=>?_⟩)));have f:l[k].shift%2=h:=Int.ofNat.inj (eA f);rw[dr ⟨j,f⟩]at g;refine dD (dD ⟨c,(),⟨rfl,rfl,rfl,?_,?_,rfl,trivial⟩,rfl⟩);show some _=some _;rw[g];rfl;show some _=some _;rw[i];have f:¬l[k].shift%2=h:=λe=>eH f (dQ Int.ofNat e);rw[dp (λq=>f q.2),nj (ml (l.take k) d h)]at g;refine dD ⟨c,(),⟨rfl,rfl,rfl,?_,?_,rfl,trivial⟩,rfl⟩;show some _=some _;rw[g];show some _=some _;rw[i];rw[t,Bool.false_or]at i;refine fl k 3 c (dl (m 2 _ rfl) (fl k 3 c (dl (m 1 _ rfl) (dN (Ig (n:=2) (by omega) _) (gA ⟨λf=>?_,λf=>?_⟩)))));have f:l[k].shift%2=h:=Int.ofNat.inj (eA f);rw[dr ⟨j,f⟩]at g;refine dD (dD ⟨c,(),⟨rfl,rfl,rfl,?_,?_,rfl,trivial⟩,rfl⟩);show some _=some _;rw[g];rfl;show some _=some _;rw[i];have f:¬l[k].shift%2=h:=λe=>eH f (dQ Int.ofNat e);rw[dp (λq=>f q.2),nj (ml (l.take k) d h)]at g;refine dD ⟨c,(),⟨rfl,rfl,rfl,?_,?_,rfl,trivial⟩,rfl⟩;show some _=some _;rw[g];show some _=some _;rw[i];have j:¬l[k].door=d:=λe=>eH j (dQ Int.ofNat e);rw[dp (λq=>j q.1),nj (ml (l.take k) d h)]at g;rw[kg j,Bool.false_and,Bool.or_false]at i;refine dD ⟨c,(),⟨rfl,rfl,rfl,?_,?_,rfl,trivial⟩,rfl⟩;show some _=some _;rw[g];show some _=some _;rw[i];obtain rfl:k=l.length:=by simp at s;omega
 rw[qx];exact⟨_,rfl,rfl,rfl⟩
def zu(G:Gd)(a b:Nat):Bool:=decide (G.tries<=(a:Int)+b)&&(decide (G.tries<2)||(decide (0<(a:Int))&&decide (0<(b:Int))))
def MY{G:Gd}{h:Option Addr}{i:Nat}{w:dg}(a b:Nat)(m:a<=1000000)(j:b<=1000000):Calls V.prog 75 #[gV G h i,.int .i64 a,.int .i64 b] w (gh λv k=>v=.bool (zu G a b)/\Ext w k):=by refine go (V.fn Tryz.func75 (by decide)) Tryz.ntmps75 ?_;refine fB λn o e l g=>dD (dl (dj g rfl) (uh ⟨λd=>?_,λd=>?_⟩));refine dl (dj g rfl) (eg ⟨λf=>?_,λf=>?_⟩);exact⟨_,rfl,by simp[zu,d,f],e⟩;refine mE ⟨λc=>?_,λc=>?_⟩;have c:0<(a:Int):=eA c;exact mE ⟨_,rfl,by rw[zu,d,f,decide_eq_true c];rfl,e⟩;have c:¬0<(a:Int):=eH c;exact⟨_,rfl,by rw[zu,d,f,kg c];rfl,e⟩;exact⟨_,rfl,by simp[zu,d],e⟩
def GH(G:Gd)(l:List Ty)(d:Nat):Bool:=zq l d||zu G (ml l d 0) (ml l d 1)
def BX{G:Gd}{g:Option Addr}{dc:Nat}{l:List Ty}{e:Option Addr}{lc:Nat}{w:dg}(f:zp w e l)(a:l.length<=100000)(d:Nat):Calls V.prog 49 #[gV G g dc,.slice e l.length lc,.int .i64 d] w (gh λv h=>v=.bool (GH G l d)/\Ext w h):=by refine go (V.fn Tryz.func49 (by decide)) Tryz.ntmps49 ?_;refine fB λm n b i j=>?_;have o:=zt l d 0;have p:=zt l d 1;refine dN (EN (f.ext b) a d 0) (dN (EN (f.ext b) a d 1) ⟨λc=>?_,λc=>?_⟩);exact⟨_,rfl,by simp[GH,c],b⟩;refine fg j (eD (MY (ml l d 0) (ml l d 1) (by omega) (by omega)) λq k=>⟨_,rfl,by simp[GH,c],b.trans k⟩)
def EO{l:List Ty}(y:zp w a l)(u:l.length<=100000)(z:∀t∈l,t.shift<=1000000)(d c:Nat):Calls V.prog 98 #[.slice a l.length m,.int .i64 d,.int .i64 c] w (gh λv j=>v=.bool (JQ l d c)/\j=w):=by
 refine go (V.fn Tryz.func98 (by decide)) Tryz.ntmps98 ?_;refine gE l.length (λk (_:Unit)=>[(0,.slice a l.length m),(1,.int .i64 d),(2,.int .i64 c),(7,.int .i64 k)]) (λk _ j=>j=w/\JQ (l.take k) d c=false) () ⟨⟨rfl,rfl,rfl,rfl,trivial⟩,rfl,by simp[JQ]⟩ ?_;rintro k _ B C ⟨rfl,i⟩;refine dK (eg ⟨λp=>?_,λq=>?_⟩);have f:k<l.length:=by simpa using p
 obtain⟨b,o,rfl,x⟩:=y k f;have r:=zr (l.take k) l[k] d c;rw[<-jM f,i,Bool.false_or]at r;have A:=z _ (fc f);have s:l[k].door=d->l[k].shift/2=c->JQ l d c=true:=λg h=>List.any_eq_true.2 ⟨_,fc f,by simp[g,h]⟩;refine fl k 3 f (dl (x 0 _ rfl) (gA ⟨λg=>?_,λg=>?_⟩));have g:l[k].door=d:=Int.ofNat.inj (eA g);refine fl k 3 f (dl (x 1 _ rfl) (nM (n:=2) (by omega) (by omega) (gA ⟨λh=>?_,λh=>?_⟩)));have h:l[k].shift/2=c:=Int.ofNat.inj (eA h);exact⟨_,rfl,by rw[s g h];rfl,rfl⟩;have h:¬l[k].shift/2=c:=λe=>eH h (dQ Int.ofNat e);exact dD ⟨f,(),⟨rfl,rfl,rfl,rfl,trivial⟩,rfl,by rw[r,kg h,Bool.and_false]⟩;have g:¬l[k].door=d:=λe=>eH g (dQ Int.ofNat e);exact mX rfl (dD ⟨f,(),⟨rfl,rfl,rfl,rfl,trivial⟩,rfl,by rw[r,kg g,Bool.false_and]⟩);obtain rfl:k=l.length:=by simp at q;omega
 rw[qx]at i;exact⟨_,rfl,by rw[i];rfl,rfl⟩
def uH(l:List Ty)(d:Nat):Sx:=⟨((ml l d 0+ml l d 1:Nat):Int),(ml l d 0:Nat),(ml l d 1:Nat),zq l d,JQ l d 0,JQ l d 1,JQ l d 2,false⟩
def JR(G:Gd)(l:List Ty)(d:Nat):iq G.tries (uH l d)=GH G l d:=by simp only[iq,uH,GH,zu,Bool.false_or,Int.natCast_add];rfl
def MZ(l:List Ty)(d k:Nat)(a:k<3):pf (uH l d) k=JQ l d k:=by
 obtain rfl|rfl|rfl:k=0\/k=1\/k=2:=by omega
 all_goals rfl
def GI(l:List Ty)(d s:Nat)(o:Bool)(c:s<6):gN (uH l d) s o=uH (l++[⟨d,s,o⟩]) d:=by
 have b:s%2=0\/s%2=1:=by omega
 have a:s/2=0\/s/2=1\/s/2=2:=by omega
 simp only[gN,uH,tz,tA,zr,true_and,decide_true,Bool.true_and];rcases b with b|b<;>rcases a with a|a|a<;>simp[b,a]<;>omega
def GJ(l:List Ty)(t:Ty)(d:Nat)(h:t.door≠d):uH (l++[t]) d=uH l d:=by simp only[uH,tz,tA,zr,h,false_and,fp,nj,decide_false,Bool.false_and,Bool.or_false]
def lastT(b:Int)(l:List Tq):Int:=match l.getLast? with
 |some t=>t.shift
 |none=>b
theorem AY(G:Gd)(t:Tq):∀(l:List Tq) (c a:List Sx) (b:Int),pP G c b l=(0,a)->pP G c b (l++[t])=pP G a (lastT b l) [t]
 |[],c,a,b,h=>by simp only[pP,Prod.mk.injEq,true_and]at h;subst h;rfl
 |x::r,c,a,b,h=>by
  have e:lastT b (x::r)=lastT x.shift r:=by unfold lastT;rw[List.getLast?_cons];cases r.getLast?<;>rfl
  rw[e,oP];simp only[pP]at h;conv=>lhs;unfold pP
  split at h;rename_i d;rw[dr d];split at h;simp at h;rename_i f;rw[dp f];split at h;simp at h;rename_i g;rw[dp g];split at h;simp at h;rename_i i;rw[dp i];exact AY G t r _ a _ h;simp at h
structure Made(G:Gd)(l:List Ty)(s:Nat):Prop where
 log:jw G (l.map RR)=(0,(List.range G.doors.length).map (uH l))
 last:∀t∈l,t.shift<=s
def Made.nil(G:Gd):Made G [] 0:=⟨by simp only[jw,vC,pP];congr 1;refine List.ext_getElem (by simp) λi a b=>?_;simp only[List.getElem_replicate,List.getElem_map];rfl,λt h=>by cases h⟩
def Made.up{l:List Ty}(h:Made H l s)(a:s<=m):Made H l m:=⟨h.log,λt b=>dS (h.last t b) a⟩
def Made.more{l:List Ty}{o:Bool}(h:Made H l s)(c:d<H.doors.length)(p:(s:Int)<2*H.days)(q:H.days<=3)(f:JQ l d (s/2)=false)(g:GH H l d=false):Made H (l++[⟨d,s,o⟩]) s:=by
 refine⟨?_,λt a=>?_⟩;have j:((List.range H.doors.length).map (uH l)).getD d rp=uH l d:=by rw[ng,sn,List.getElem?_range c];rfl
 have r:lastT 0 (l.map RR)<=s:=by
  unfold lastT;rw[List.getLast?_map];cases k:l.getLast? with
  |none=>exact Int.natCast_nonneg s
  |some t=>exact Int.ofNat_le.2 (h.last t (List.mem_of_getLast? k))
 have e:=AY H ⟨(d:Int),(s:Int),o⟩ _ _ _ 0 h.log;have m:(ly (d:Int) 0 ((H.doors.length:Int)-1)&&ly (s:Int) 0 (2*H.days-1))=true:=by simp[ly];omega
 rw[jw,vB,lA,vC];refine e.trans ?_;have b:((List.range H.doors.length).map (uH l)).getD ((d:Int)).toNat rp=uH l d:=j;simp only[pP,m,ei];rw[dp (by omega),b,MZ l d _ (by omega),JR];simp only[oO];rw[f,g];simp only[iw,fp,pP];congr 1;rw[GI l d s o (by omega)];refine List.ext_getElem (by simp) λi u n=>?_;have v:i<H.doors.length:=by simpa using n
 rw[List.getElem_set];simp only[List.getElem_map,List.getElem_range];split;rename_i e;rw[e];rename_i e;exact(GJ l ⟨d,s,o⟩ i e).symm;rcases j8.1 a with a|a;exact h.last t a;rw[iQ.1 a];exact dC _
def zv:ES 25 84 [.int .i64 0,.int .i64 0,.bool false]:=⟨by kernel_rfl,Tryz.t84,_,by kernel_rfl,rfl,by kernel_rfl,by kernel_rfl,by decide+kernel,by decide⟩
def qp(a:Nat)(w:dg)(v:di)(l:List Ty):Prop:=dM a 84 [.int .i64 0,.int .i64 0,.bool false] w v l.length (l.flatMap tL)
theorem rD{a:Type}{f:a->List di}{n:Nat}(b:∀x,(f x).length=n):∀l:List a,(l.flatMap f).length=l.length*n
 |[]=>by simp
 |t::r=>by rw[tG,kN,b,rD b r,fq,Nat.add_mul,Nat.one_mul,Nat.add_comm]
theorem rE{b:Type}{f:b->List di}{n:Nat}(a:∀x,(f x).length=n):∀(l:List b) (k:Nat) (c:k<l.length) (j:Nat) (v:di),(f l[k])[j]? =some v->(l.flatMap f)[k*n+j]? =some v
 |x::r,0,_,j,v,h=>by have d:j<(f x).length:=(je.1 h).1;rw[tG,Nat.zero_mul,dB,oQ d];exact h
 |x::r,k+1,c,j,v,h=>by have e:=rE a r k (by simpa using c) j v (by simpa using h);rw[tG,qa (by rw[a,Nat.add_mul];omega),a,show(k+1)*n+j-n=k*n+j by rw[Nat.add_mul];omega];exact e
def JS(l:List Ty):(l.flatMap tL).length=l.length*3:=rD (f:=tL) (n:=3) (λ_=>rfl) l
def JU(l:List Ty)(k:Nat)(a:k<l.length)(j:Nat)(v:di)(h:(tL l[k])[j]? =some v):(l.flatMap tL)[k*3+j]? =some v:=rE (f:=tL) (n:=3) (λ_=>rfl) l k a j v h
def qp.row{l:List Ty}(h:qp m w x l):∃a c,x=.slice a l.length c/\zp w a l/\l.length<=c:=by obtain⟨q,⟨d,rfl⟩|⟨b,c,r,s,rfl,g,t,i,u,n,v⟩⟩:=h;exact⟨none,0,by rw[d],λk e=>by omega,by omega⟩;refine⟨_,c,rfl,λk e=>⟨b,0,rfl,λj x f=>dj g ?_⟩,i⟩;have o:j<(tL l[k]).length:=(je.1 f).1;have p:(tL l[k]).length=3:=rfl;have d:=JS l;rw[dB,n _ (by omega)];exact JU l k e j x f
def qp.low{l:List Ty}(h:qp m w x l)(f:k<=m):qp k w x l:=by obtain⟨a,h|⟨b,c,d,g,e⟩⟩:=h;exact⟨a,.inl h⟩;exact⟨a,.inr ⟨b,c,d,by omega,e⟩⟩
def JV(h:iB m w){dc:Nat}(hG:eF N=0):Calls V.prog 29 #[dJ m,gV N a dc] w (gh λv g=>DE m w g/\∃l s,qp w.heap.size g v l/\Made N l s/\(s:Int)<2*N.days/\l.length<=30):=by
 have ok:=jV hG;have hm:=ok.many;have U:=ok.days;refine go (V.fn Tryz.func29 (by decide)) Tryz.ntmps29 ?_;refine fB λj u y af B=>?_;have ag:=h.lt;have ah:=dG.lt_of_heap B;refine dl (dj B rfl) (u9 (gK (dt (mB (h.ext y) (2*N.days-1) (by omega)) ?_)));rintro _ w2 ⟨⟨z,rfl,ai,hz⟩,d2⟩;have W:=d2.1.fU B (show¬u=m by omega);have aj:z<=2*N.days-1:=by omega
 refine gE z.toNat (λs (x:di×List Ty)=>[(0,dJ m),(3,dJ u),(5,x.1),(6,.int .i64 z),(7,.int .i64 s)]) (λs x g=>DE m j g/\g.heap[u]? =some (.cells (gV N a dc).cells 24)/\qp j.heap.size g x.1 x.2/\Made N x.2 s/\x.2.length<=5*s) (.slice none 0 0,[]) ⟨⟨rfl,rfl,rfl,rfl,rfl,trivial⟩,d2,W,dM.nil _ _ _ _,Made.nil N,dC _⟩ ?_;rintro s ⟨v,l⟩ w3 hs ⟨d3,X,A,k,o⟩;simp only at A k o;refine eg ⟨λC=>?_,λD=>?_⟩;have Y:(s:Int)<z:=eA C;refine gE N.doors.length (λi (x:di×List Ty)=>[(0,dJ m),(3,dJ u),(5,x.1),(6,.int .i64 z),(7,.int .i64 s),(8,.int .i64 i)]) (λi x g=>DE m j g/\g.heap[u]? =some (.cells (gV N a dc).cells 24)/\qp j.heap.size g x.1 x.2/\Made N x.2 s/\x.2.length<=5*s+i) (v,l) ⟨⟨rfl,rfl,rfl,rfl,rfl,rfl,trivial⟩,d3,X,A,k,o⟩ ?_;rintro i ⟨v,l⟩ w4 hi ⟨Z,E,A,k,o⟩;simp only at A k o;refine dl (dj E rfl) (dK (eg ⟨λC=>?_,λD=>?_⟩));have d:i<N.doors.length:=by simpa using C
 refine dt (EM (Z.2 (h.ext y)) 3 (by omega)) ?_;rintro _ Q ⟨⟨b,rfl⟩,d5⟩;have F:=d5.1.fU E (show¬u=m by omega);have G:=Z.trans d5;have p:qp j.heap.size Q v l:=dM.keep A d5.1 λb B e=>by have:=(dM.blk A B).1;have:=y.size;omega
 obtain⟨L,c,rfl,M,hc⟩:=p.row;have f:∀I,Ext Q I->DE m j I/\I.heap[u]? =some (.cells (gV N a dc).cells 24)/\qp j.heap.size I (.slice L l.length c) l/\Made N l s/\l.length<=5*s+(i+1):=λI q=>⟨G.trans (q.de m),q.at_ F,dM.ext p q,k,by omega⟩;refine⟨λaa=>?_,λaa=>?_⟩;refine nM (n:=2) (by omega) (by omega) (dN (EO M (by omega) (λt ht=>by have:=k.last t ht;omega) i (s/2)) (eC ⟨λR=>?_,λR=>?_⟩));have R:JQ l i (s/2)=false:=by simpa using R
 refine fg F (eD (BX M (by omega) i) λI q=>eC ⟨λS=>?_,λS=>?_⟩);have S:GH N l i=false:=by simpa using S
 have ab:=q.at_ F;refine dt (EM ((q.de m).2 (G.2 (h.ext y))) 4 (by omega)) ?_;rintro _ w7 ⟨⟨T,rfl⟩,d7⟩;have ac:=d7.1.fU ab (show¬u=m by omega);have r:qp j.heap.size w7 (.slice L l.length c) l:=dM.keep (dM.ext p q) d7.1 λb B e=>by have:=(dM.blk p B).1;have:=y.size;omega
 have O:=(G.trans (q.de m)).trans d7;refine eJ (.agg (tL ⟨i,s,T⟩).toArray) (eQ (tL ⟨i,s,T⟩) 84 λw8 nb J ak ad=>iM zv (dM.ext r J) (by have:=O.1.size;have:=J.size;omega) ad (by omega) λv' w9 ae k9 _=>dD ⟨d,(v',l++[⟨i,s,T⟩]),⟨rfl,rfl,rfl,rfl,rfl,rfl,trivial⟩,?_,?_,?_,k.more d (by omega) (by omega) R S,by simp;omega⟩);have P:=O.trans (J.de m);refine⟨(P.1.trans k9 (H:=λx=>x=m\/j.heap.size<=x) (λ_ _ h=>.inl h) λx _ K=>.inr (dM.blk (dM.ext r J) K).1).trans (dP.refl (λ_=>False) _) (λx K h=>h.elim id λh=>by omega) λ_ _ h=>h.elim,λhD=>(P.2 hD).keep k9 λx K=>?_⟩;have:=(dM.blk (dM.ext r J) K).1;have:=y.size;omega;refine k9.fU (J.at_ ac) λK=>?_;have:=(dM.blk (dM.ext r J) K).1;omega;unfold qp;rw[kN,List.flatMap_append];have h9:dM j.heap.size 84 [.int .i64 0,.int .i64 0,.bool false] w9 v' (l.length+1) (l.flatMap tL++tL ⟨i,s,T⟩):=ae;simpa using h9;exact dD ⟨d,(.slice L l.length c,l),⟨rfl,rfl,rfl,rfl,rfl,rfl,trivial⟩,f I q⟩;exact mX rfl (dD ⟨d,(.slice L l.length c,l),⟨rfl,rfl,rfl,rfl,rfl,rfl,trivial⟩,f Q (Ext.refl _)⟩);exact mX rfl (mX rfl (dD ⟨d,(.slice L l.length c,l),⟨rfl,rfl,rfl,rfl,rfl,rfl,trivial⟩,f Q (Ext.refl _)⟩));obtain rfl:i=N.doors.length:=by simp at D;omega
 exact dD ⟨by omega,(v,l),⟨rfl,rfl,rfl,rfl,rfl,trivial⟩,Z,E,A,k.up (by omega),by simp only;omega⟩;have Y:¬(s:Int)<z:=eH D;exact⟨_,rfl,(y.de m).trans d3,l,s,A.low y.size,k,by omega,by omega⟩
theorem jr.blk{a:List (List Nat)}(h:jr m w x a)(b:dw x k):m<=k/\k<w.heap.size:=by obtain⟨d,c,_⟩:=h;exact c.blk b
def zw(l:List Ty):Nat:=match l.getLast? with
 |some t=>t.shift
 |none=>0
def GK{l:List Ty}(f:zp w a l)(d:l.length<=100000):Calls V.prog 31 #[.slice a l.length m] w (gh λv g=>v=.int .i64 (zw l)/\g=w):=by
 refine go (V.fn Tryz.func31 (by decide)) Tryz.ntmps31 ?_;refine dK (gA ⟨λh=>?_,λh=>?_⟩);have h:l.length=0:=Int.ofNat.inj (eA h);obtain rfl:l=[]:=nZ h;exact⟨_,rfl,rfl,rfl⟩;have h:¬l.length=0:=λe=>eH h (dQ Int.ofNat e);have c:l.length-1<l.length:=by omega
 obtain⟨b,o,rfl,i⟩:=f _ c;have j:zw l=l[l.length-1].shift:=by unfold zw;rw[List.getLast?_eq_getElem?,fI c]
 rw[j];refine dK (gK ?_);rw[show((l.length:Int)-1)=((l.length-1:Nat):Int) by omega];exact fl (l.length-1) 3 c (dl (i 1 _ rfl) ⟨_,rfl,rfl,rfl⟩)
def M0(a:Ext w t)(d:DE m t e)(h:w.heap.size<=m):Ext w e:=⟨d.1.os.trans a.os,d.1.tape.trans a.tape,d.1.output.trans a.output,dS a.size d.1.size,dS a.drawn d.1.drawn,λx b=>(d.1.block x (eh b a.size) (by omega)).trans (a.block x b)⟩
def qp.rowOf{l:List Ty}(h:qp m w (.slice a k i) l):zp w a l:=by obtain⟨d,f,e,b,g⟩:=h.row;injection e with c;rw[c];exact b
def M4{l:List Ty}(h:Made H l s):zw l<=s:=by
 unfold zw;cases a:l.getLast? with
 |none=>exact gu _
 |some t=>exact h.last t (List.mem_of_getLast? a)
def JW(b:List Dr):∀u∈b.flatMap dL,u.oneCell'=true:=λu c=>by obtain⟨d,_,a⟩:=tH.1 c;simp only[dL,ft,lZ,jN]at a;rcases a with rfl|rfl|rfl<;>rfl
def zV(R:iu w a (H.doors.flatMap dL))(K:H.doors.length<=100000):Calls V.prog 36 #[gV H a m] w (gh λv L=>Ext w L/\∃b c,v=gV H b c/\mj w.heap.size L (.slice b H.doors.length c) H.doors):=by
 refine go (V.fn Tryz.func36 (by decide)) Tryz.ntmps36 ?_;refine fB λw1 s M u y=>fJ λN z p S i=>eQ [] 81 λw3 nb r A B=>?_;have d:=M.trans p;have s1:=M.size;have s2:=p.size;have s3:=r.size;refine dl (dj ((p.trans r).at_ y) rfl) (mQ (n0:=N.heap.size) OL B A (vy H.doors) ((R.ext d).ext r) (JW _) (by omega) λv4 O C T=>?_);have f:=T N r (dC _);have U:=d.trans f;obtain⟨b,c,rfl,W,hc⟩:=mj.row C;have k:O.heap[s]? =some (.cells (gV H a m).cells 24):=f.at_ (p.at_ y);have l:=f.at_ i;refine ee k λX D g=>?_;replace g:X.heap[s]? =some (.cells (gL H b c).toArray 24):=g;have E:z≠s:=by have:=dG.lt_of_heap y;omega
 have F:=D.fU l E;refine fg g (ee F λG P I=>?_);have J:G.heap[z]? =some (.cells (gL H b c).toArray 24):=I.trans (dQ (λb=>some (Obj.cells b 24)) (fo (sD 24).toArray (gL H b c) rfl));have Y:Sem.run V.prog (loadVar 24 ⟨z,0,none⟩) G=.ok (gV H b c) G:=nN (gL H b c) J λj v Z=>by rw[dB];simpa using Z
 refine⟨gV H b c,Y,_,rfl,(U.dz D u).dz P (by omega),b,c,rfl,?_⟩;have n:∀x,dw (.slice b H.doors.length c) x->∀Q t,O.heap[x]? =some (.cells Q t)->t=81:=λx o Q t h=>by obtain⟨aa,q⟩:=dM.c_ C o;rw[q]at h;injection h with h;injection h with _ h;exact h.symm
 exact mj.low (dM.keep (dM.keep C D λx o e=>by subst e;exact absurd (n _ o _ _ k) (by decide)) P (λx o e=>by subst e;exact absurd (n _ o _ _ l) (by decide))) d.size
def kM{c:Type}(f:c->List di)(n:Nat)(w:dg)(a:Option Addr)(l:List c):Prop:=∀k (h:k<l.length),∃b o,a=some ⟨b,o,none⟩/\∀j v,(f l[k])[j]? =some v->w.cell? ⟨b,o+k*n+j,none⟩=some v
def kM.cells{k:Type}{f:k->List di}{n:Nat}{w:dg}{a:Option Addr}{l:List k}(h:kM f n w a l)(m:0<n)(d:∀x,(f x).length=n):iu w a (l.flatMap f):=by
 rcases n4 l.length with g|g;exact .inl (by rw[nZ g];rfl);obtain⟨b,o,e,_⟩:=h 0 g;refine .inr ⟨b,o,e,λj u p=>?_⟩;have c:=(je.1 p).1;rw[rD d]at c;have i:=Nat.div_add_mod j n;have v:=Nat.mod_lt j m;have q:j/n<l.length:=(Nat.div_lt_iff_lt_mul m).2 c;rw[Nat.mul_comm]at i;have r:j%n<(f l[j/n]).length:=by rw[d];exact v
 have s:=rE d l (j/n) q (j%n) _ (fI r);rw[i,p]at s;obtain⟨z,A,t,y⟩:=h (j/n) q;rw[e]at t;cases t;have:=y (j%n) _ (fI r);rw[tK,i]at this;rw[this,dH s]
def kM.own{d:Type}{f:d->List di}{n m:Nat}{w:dg}{l:List d}(h:dM m T M w z l.length (l.flatMap f))(u:M.length=n)(o:∀x,(f x).length=n):∃a c,z=.slice a l.length c/\kM f n w a l/\l.length<=c:=by obtain⟨v,⟨p,rfl⟩|⟨b,c,y,A,rfl,q,B,r,C,s,D⟩⟩:=h;exact⟨none,0,by rw[p],λk e=>by omega,by omega⟩;refine⟨_,c,rfl,λk e=>⟨b,0,rfl,λj z g=>dj q ?_⟩,r⟩;have t:j<(f l[k]).length:=(je.1 g).1;have i:=rE o l k e j z g;rw[dB,s _ (je.1 i).1];exact i
theorem iA.cells{w:dg}{a:Option Addr}{l:List Tq}(h:iA w a l):iu w a (l.flatMap pj):=kM.cells (f:=pj) (n:=3) h (by decide) λ_=>rfl
theorem iv.cells{w:dg}{a:Option Addr}{l:List Dr}(h:iv w a l):iu w a (l.flatMap dL):=kM.cells (f:=dL) (n:=3) (λk d=>by
 obtain⟨b,o,e,g,i,m⟩:=h k d;refine⟨b,o,e,λj v c=>?_⟩;match j,c with
 |0,c=>cases c;exact g
 |1,c=>cases c;exact i
 |2,c=>cases c;exact m) (by decide) λ_=>rfl
def iL(n:Int):List di:=[.int .i64 n]
theorem iz.cells{w:dg}{a:Option Addr}{l:List Int}(h:iz w a l):iu w a (l.flatMap iL):=kM.cells (f:=iL) (n:=1) (λk d=>by
 obtain⟨b,o,e,g⟩:=h k d;refine⟨b,o,e,λj v c=>?_⟩;match j,c with
 |0,c=>cases c;rw[nk];exact g) (by decide) λ_=>rfl
def oM(a:Nat)(w:dg)(v:di)(l:List Tq):Prop:=dM a 84 [.int .i64 0,.int .i64 0,.bool false] w v l.length (l.flatMap pj)
def vz(a:Nat)(w:dg)(v:di)(l:List Int):Prop:=dM a 3 [.int .i64 0] w v l.length (l.flatMap iL)
def oM.row{w:dg}{l:List Tq}(h:oM m w z l):∃a c,z=.slice a l.length c/\iA w a l/\l.length<=c:=kM.own h rfl λ_=>rfl
def vz.row{w:dg}{l:List Int}(h:vz m w z l):∃a c,z=.slice a l.length c/\iz w a l/\l.length<=c:=by obtain⟨a,c,d,g,i⟩:=kM.own (f:=iL) (n:=1) h rfl λ_=>rfl;refine⟨a,c,d,λk j=>?_,i⟩;obtain⟨b,o,e,p⟩:=g k j;have:=p 0 _ rfl;rw[nk]at this;exact⟨b,o,e,this⟩
def BY{a:Type}{f:a->List di}(b:∀x,∀u∈f x,u.oneCell'=true)(l:List a):∀u∈l.flatMap f,u.oneCell'=true:=λu c=>by obtain⟨d,_,e⟩:=tH.1 c;exact b d u e
def GO(x:Tq):∀u∈pj x,u.oneCell'=true:=λu a=>by simp only[pj,ft,lZ,jN]at a;rcases a with rfl|rfl|rfl<;>rfl
def Ti(x:Int):∀u∈iL x,u.oneCell'=true:=λu a=>by simp only[iL,ft,lZ,jN]at a;rw[a];rfl
def uI{l:List Int}{w:dg}(h:iz w a l)(b:l.length<=1000000):Calls V.prog 45 #[.slice a l.length m] w (gh λv d=>Ext w d/\vz w.heap.size d v l):=by refine go V.func45 Tryz.ntmps45 ?_;exact eQ [] 3 λk o e c g=>mQ (us:=l.flatMap iL) uj g c (rD (f:=iL) (n:=1) (λ_=>rfl) l) ((h.ext e).cells) (BY Ti l) b λp q i j=>⟨_,rfl,j w e (dC _),i⟩
def M5{l:List Tq}{w:dg}(h:iA w a l)(c:l.length<=100000):Calls V.prog 37 #[.slice a l.length m] w (gh λv d=>Ext w d/\oM w.heap.size d v l):=by refine go (V.fn Tryz.func37 (by decide)) Tryz.ntmps37 ?_;exact eQ [] 84 λk o e b g=>mQ (n0:=w.heap.size) zv g b (rD (f:=pj) (n:=3) (λ_=>rfl) l) (h.ext e).cells (BY GO l) (by omega) λv p i j=>⟨_,rfl,j w e (dC _),i⟩
def GP{l:List Tq}{w:dg}(h:iA w a l)(i:a=none->l.length=0)(c:l.length<=100000):Calls V.prog 136 #[.slice a l.length m] w (gh λv d=>Ext w d/\oM w.heap.size d v l):=by refine go (V.fn Tryz.func136 (by decide)) Tryz.ntmps136 ?_;refine rj zv ⟨λe=>?_,λe=>eQ [] 84 λq r g b j=>mQ (n0:=w.heap.size) zv j b (rD (f:=pj) (n:=3) (λ_=>rfl) l) (h.ext g).cells (BY GO l) (by omega) λv s k o=>⟨_,rfl,o w g (dC _),k⟩⟩;have p:=i (by simpa using e);obtain rfl:=nZ p;exact⟨_,rfl,Ext.refl _,dM.nil _ _ _ _⟩
section
variable{x y:dZ}{w:dg}
def Tj(q:Tq):Sem.run V.prog (do eqGuard .neq 84 x y (.agg (pj q).toArray) (.agg (pj q).toArray);binOp .neq 84 (.agg (pj q).toArray) (.agg (pj q).toArray)) w=.ok (.bool false) w:=by obtain⟨a,b,c⟩:=q;show Sem.run V.prog (do eqGuard .neq 84 x y (.agg #[.int .i64 a,.int .i64 b,.bool c]) (.agg #[.int .i64 a,.int .i64 b,.bool c]);binOp .neq 84 (.agg #[.int .i64 a,.int .i64 b,.bool c]) (.agg #[.int .i64 a,.int .i64 b,.bool c])) w=.ok (.bool false) w;go_simp
def Tk(q:Dr):Sem.run V.prog (do eqGuard .neq 81 x y (.agg (dL q).toArray) (.agg (dL q).toArray);binOp .neq 81 (.agg (dL q).toArray) (.agg (dL q).toArray)) w=.ok (.bool false) w:=by obtain⟨a,b,c⟩:=q;show Sem.run V.prog (do eqGuard .neq 81 x y (.agg #[.int .i64 a,.int .i64 b,.int .i64 c]) (.agg #[.int .i64 a,.int .i64 b,.int .i64 c]);binOp .neq 81 (.agg #[.int .i64 a,.int .i64 b,.int .i64 c]) (.agg #[.int .i64 a,.int .i64 b,.int .i64 c])) w=.ok (.bool false) w;go_simp
end
def wu{l:List Tq}{f:Option Addr}{w:dg}(s:iA w a l)(h:iA w f l)(r:l.length<=100000):
 Calls V.prog 41 #[.slice a l.length m,.slice f l.length k] w (gh λv g=>v=.bool true/\Ext w g):=by
 refine go (V.fn Tryz.func41 (by decide)) Tryz.ntmps41 ?_;refine dK (dK (fV (mX (by simp) ?_)));refine gE l.length (λd (_:Unit)=>[(0,.slice a l.length m),(1,.slice f l.length k),(5,.int .i64 d)]) (λd _ g=>Ext w g) () ⟨⟨rfl,rfl,rfl,trivial⟩,Ext.refl _⟩ ?_;rintro d _ g y e;refine dK (eg ⟨λc=>?_,λt=>⟨_,rfl,rfl,e⟩⟩);have c:d<l.length:=by simpa using c
 obtain⟨b,o,rfl,u⟩:=s d c;obtain⟨z,A,rfl,i⟩:=h d c;exact dT dO (jU d 3 c (dx (.agg (pj l[d]).toArray) (λn p=>eB (vs:=pj l[d]) (λj v q=>(e.trans p).cell (u j v q)) ⟨rfl,Ext.refl _⟩) (jU d 3 c (dx (.agg (pj l[d]).toArray) (λn p=>eB (vs:=pj l[d]) (λj v q=>(e.trans p).cell (i j v q)) ⟨rfl,Ext.refl _⟩) (dx (.bool false) (λn _=>⟨_,n,Tj _,rfl,Ext.refl _⟩) λB x=>mX rfl (dD ⟨c,(),⟨rfl,rfl,rfl,trivial⟩,e.trans x⟩))))))
def zW{q:Option Addr}{w:dg}(J:iv w a H.doors)(x:iv w q H.doors)(E:H.doors.length<=100000):Calls V.prog 40 #[gV H a m,gV H q k] w (gh λv g=>v=.bool true/\Ext w g):=by
 refine RP (V.fn Tryz.func40 (by decide)) Tryz.ntmps40 (fE.seq er ?_);refine fB λu F r K n=>fB λL s G M y=>?_;have N:=r.trans G;have n:=G.at_ n;refine fE.pq (fE.of er (dl (dj n rfl) (dK (dl (dj y rfl) (dK (fV (mX (by simp) ?_)))))));refine fE.pq (fE.of er ?_);refine gE H.doors.length (λc (_:Unit)=>[(2,dJ F),(3,dJ s),(5,.int .i64 c)]) (λc _ g=>Ext L g) () ⟨⟨rfl,rfl,rfl,trivial⟩,Ext.refl _⟩ ?_;rintro c _ I W e;have l:=N.trans e;refine dl (dj (e.at_ n) rfl) (dK (eg ⟨λd=>?_,λO=>?_⟩));have d:c<H.doors.length:=by simpa using d
 obtain⟨b,o,z,P,Q,i⟩:=J c d;obtain⟨R,S,t,A,B,C⟩:=x c d;subst z t
 have T:∀{g} (h:Ext I g),∀j v,(dL H.doors[c])[j]? =some v->g.cell? ⟨b,o+c*3+j,none⟩=some v:=λh j v f=>by
  match j,f with
  |0,f=>cases f;exact(l.trans h).cell P
  |1,f=>cases f;exact(l.trans h).cell Q
  |2,f=>cases f;exact(l.trans h).cell i
 have D:∀{g} (h:Ext I g),∀j v,(dL H.doors[c])[j]? =some v->g.cell? ⟨R,S+c*3+j,none⟩=some v:=λh j v f=>by
  match j,f with
  |0,f=>cases f;exact(l.trans h).cell A
  |1,f=>cases f;exact(l.trans h).cell B
  |2,f=>cases f;exact(l.trans h).cell C
 exact dT dO (dI (dj (e.at_ n) rfl) (jU c 3 d (dx (.agg (dL H.doors[c]).toArray) (λu r=>eB (vs:=dL H.doors[c]) (T r) ⟨rfl,Ext.refl _⟩) (dI (dj (e.at_ y) rfl) (jU c 3 d (dx (.agg (dL H.doors[c]).toArray) (λu r=>eB (vs:=dL H.doors[c]) (D r) ⟨rfl,Ext.refl _⟩) (dx (.bool false) (λu _=>⟨_,u,Tk _,rfl,Ext.refl _⟩) λX U=>mX rfl (dD ⟨d,(),⟨rfl,rfl,rfl,trivial⟩,e.trans U⟩))))))));refine fE.kJ (l0:=[(2,dJ F),(3,dJ s)]) ⟨rfl,rfl,trivial⟩ (fE.pq (sj.start (sj.Pp 41 er ?_)));have p:=e.at_ n;have i:=e.at_ y;refine dl (dj p rfl) (dl (dj i rfl) (gA (ki (decide_eq_true rfl) ?_)));refine dl (dj p rfl) (dl (dj i rfl) (gA (ki (decide_eq_true rfl) ?_)));refine dl (dj p rfl) (dl (dj i rfl) (gA (ki (decide_eq_true rfl) ?_)));refine dl (dj p rfl) (dl (dj i rfl) (gA (ki (decide_eq_true rfl) ?_)));refine dl (dj p rfl) (dl (dj i rfl) (gA (ki (decide_eq_true rfl) ?_)));exact dl (dj p rfl) (dl (dj i rfl) (gA (sj.fin (fE.of er ⟨_,rfl,dQ Value.bool (decide_eq_true rfl),l⟩))))
section
variable{G:Gd}{da:Option Addr}{dc:Nat}{w:dg}
end
section
variable{G H:Gd}{σ τ:Nat->Nat}
end
section
variable{G H:Gd}{σ τ:Nat->Nat}{xs ys:List Sx}
end
section
variable{G H:Gd}{σ τ:Nat->Nat}
end
variable{G:Gd}{da:Option Addr}{dc:Nat}{w:dg}
def JX{l:List Tq}{a:Option Addr}{c:Nat}(d:iA w a l)(e:l.length<=100000):Calls V.prog 126 #[.slice a l.length c] w (gh λv f=>v=.int .i64 (fK l)/\f=w):=by
 refine go (V.fn Tryz.func126 (by decide)) Tryz.ntmps126 ?_;refine dK (gA ⟨λh=>?_,λh=>?_⟩);have h:l.length=0:=by have:=eA h;omega
 exact⟨_,rfl,by rw[nZ h];rfl,rfl⟩;have h:¬l.length=0:=by have:=eH h;omega
 obtain⟨b,o,rfl,g⟩:=d (l.length-1) (by omega);refine dK (gK (fl (l.length-1) 3 (by omega) (dl (g 1 _ rfl) ⟨_,rfl,?_,rfl⟩) (by omega)));show Value.int .i64 _=_;unfold fK;rw[List.getLast?_eq_getElem?,fI (by omega)]
def EP(q:iv w da G.doors)(b:G.doors.length<=100000){l:List Tq}{k:Option Addr}{m:Nat}(n:iA w k l)(c:l.length<=100000)(e:l.length<=m)(s:Int):
 Calls V.prog 99 #[gV G da dc,.slice k l.length m,.int .i64 s] w (gh λv r=>v=.int .i64 (ep G l s 0)/\Ext w r):=by
 refine go (V.fn Tryz.func99 (by decide)) Tryz.ntmps99 ?_;refine fB λx y f t o=>fg o (eD (EK (dc:=dc) (q.ext f) b (n.ext f) c e) λz p=>?_);rw[Ia];have d:=f.trans p;unfold ep;refine fV ⟨λh=>?_,λh=>?_⟩;have h:¬my G l=0:=eA h;exact⟨_,rfl,by rw[dp h];rfl,d⟩;have h:my G l=0:=by simpa using eH h
 have u:eF G=0:=by unfold my at h;by_cases g:eF G=0;exact g;rw[dp g]at h;exact absurd h g
 have i:=(jV u).days;rw[dr h];unfold sE;refine dl (dj (p.at_ o) rfl) (u9 (gK (dN (gP _ _ _ _) (eC ⟨λa=>?_,λa=>?_⟩))));have a:ly s 0 (2*G.days-1)=false:=by simpa using a
 exact⟨_,rfl,by rw[a];rfl,d⟩;have a:ly s 0 (2*G.days-1)=true:=by simpa using a
 refine dN (JX (n.ext d) c) (eg ⟨λj=>?_,λj=>?_⟩);exact⟨_,rfl,by rw[a,dr (eA j)];rfl,d⟩;exact⟨_,rfl,by rw[a,dp (eH j)];rfl,d⟩
def mn(b:List Int):List Int->List Int->Int
 |_,[]=>0
 |a,d::r=>if pK d b then(if pK d a then 4 else mn b (a++[d]) r)else 3
def zx(b a:List Int)(k:Nat)(c:k<a.length):mn b (a.take k) (a.drop k)=if pK a[k] b then(if pK a[k] (a.take k)then 4 else mn b (a.take (k+1)) (a.drop (k+1)))else 3:=by rw[qu c,jM c];rfl
def jK(s:Int)(a b:List Int):List Tq:=b.map λd=>⟨d,s,pK d a⟩
def lq(G:Gd)(l:List Tq)(s:Int)(a b:List Int):Int:=
 if ep G l s 0≠0 then ep G l s 0
 else if fx G.doors.length a≠0 then fx G.doors.length a
 else if mn a [] b≠0 then mn a [] b
 else my G (l++jK s b a)
def BZ(G:Gd)(l:List Tq)(s:Int)(a b:List Int)(c:Nat)(v:di)(w:dg):Prop:=
 (lq G l s a b≠0/\v=.tuple #[.slice none 0 0,.int .i64 (lq G l s a b)])\/(lq G l s a b=0/\∃u,v=.tuple #[u,.int .i64 0]/\oM c w u (l++jK s b a))
def Ih{l:List Int}:decide (tk I l 0<0)=!pK I l:=by unfold pK;by_cases h:0<=tk I l 0;rw[decide_eq_true h,kg (by omega)];rfl;rw[kg h,decide_eq_true (by omega)];rfl
def zy(s:Int)(b a:List Int)(k:Nat)(c:k<a.length):jK s b (a.take (k+1))=jK s b (a.take k)++[⟨a[k],s,pK a[k] b⟩]:=by unfold jK;rw[jM c,vB];rfl
def GQ(hd:iv w da G.doors)(r:G.doors.length<=100000){l:List Tq}{K:Option Addr}{L:Nat}(hr:iA w K l)(an:l.length<=1000)(Y:l.length<=L)(s:Int){c d:List Int}{C z:Option Addr}{D A:Nat}(Z:iz w C c)(ao:c.length<=1000)(aa:c.length<=D)(ho:iz w z d)(ap:d.length<=1000)(aq:d.length<=A):
 Calls V.prog 78 #[gV G da dc,.slice K l.length L,.int .i64 s,.slice C c.length D,.slice z d.length A] w (gh λv i=>Ext w i/\BZ G l s c d w.heap.size v i):=by
 refine RP (V.fn Tryz.func78 (by decide)) Tryz.ntmps78 (fE.seq er ?_);refine fB λw1 M W ar R=>?_;refine fE.pq (fE.of er (fg R (eD (EP (dc:=dc) (hd.ext W) r (hr.ext W) (by omega) Y s) λw2 X=>fV ⟨λh=>?_,λh=>?_⟩)));have h:¬ep G l s 0=0:=eA h;exact⟨_,rfl,W.trans X,.inl ⟨by rw[lq,dr h];exact h,by rw[lq,dr h];rfl⟩⟩;have h1:¬ep G l s 0≠0:=eH h;have t:lq G l s c d=if fx G.doors.length c≠0 then fx G.doors.length c else if mn c [] d≠0 then mn c [] d else my G (l++jK s d c):=by rw[lq,dp h1]
 have E2:=W.trans X;refine fE.kJ (l0:=[(1,.slice K l.length L),(2,.int .i64 s),(3,.slice C c.length D),(4,.slice z d.length A),(5,dJ M)]) ⟨rfl,rfl,rfl,rfl,rfl,trivial⟩ (fE.pq (fE.of er (fg (X.at_ R) (eD (EJ (dc:=dc) (Z.ext E2) (by omega) aa r) λw3 e3=>fV ⟨λh=>?_,λh=>?_⟩))));have h:¬fx G.doors.length c=0:=eA h;exact⟨_,rfl,E2.trans e3,.inl ⟨by rw[t,dr h];exact h,by rw[t,dr h];rfl⟩⟩;rw[dp (eH h)]at t;have E3:=E2.trans e3;refine fE.kJ (l0:=[(1,.slice K l.length L),(2,.int .i64 s),(3,.slice C c.length D),(4,.slice z d.length A),(5,dJ M)]) ⟨rfl,rfl,rfl,rfl,rfl,trivial⟩ (fE.pq (fE.of er ?_));refine gE d.length (λk (_:Unit)=>[(1,.slice K l.length L),(2,.int .i64 s),(3,.slice C c.length D),(4,.slice z d.length A),(5,dJ M),(14,.int .i64 k)]) (λk _ i=>Ext w3 i/\mn c [] d=mn c (d.take k) (d.drop k)) () ⟨⟨rfl,rfl,rfl,rfl,rfl,rfl,trivial⟩,Ext.refl _,rfl⟩ ?_;rintro k _ B N ⟨e4,F⟩;have x:=E3.trans e4;refine dK (eg ⟨λI=>?_,λy=>?_⟩);have N:k<d.length:=by simpa using I
 rw[zx c d k N]at F;obtain⟨b,o,ab,O⟩:=ho k N;have ac:∀i,Ext w i->Calls V.prog 138 #[.slice C c.length D,.int .i64 d[k]] i _:=λi e=>sd c d[k] C D i (Z.ext e) (by omega);have ad:∀i,Ext w i->Calls V.prog 138 #[.slice z k A,.int .i64 d[k]] i _:=λi e=>by have:=sd (d.take k) d[k] z A i ((ho.take k).ext e) (by simp;omega);rw[xq,Nat.min_eq_left (by omega)]at this;exact this
 subst ab;refine eP k N (dl (x.cell O) (dN (ac B x) (eg ⟨λh=>?_,λh=>?_⟩)));rw[Ih]at h;have p:mn c [] d=3:=by rw[F,dp (by simpa using h)]
 exact⟨_,rfl,x,.inl ⟨by rw[t,dr (by rw[p];decide),p];decide,by rw[t,dr (by rw[p];decide),p];rfl⟩⟩;rw[Ih]at h;rw[dr (by simpa using h)]at F;refine dT dO (dx _ (λw2 _=>kC k (by omega) ⟨rfl,dO.refl _⟩) (nH k N (dI (x.cell O) (gU dO _ (λw5 H=>ad w5 (x.trans H)) (Qb λw5 H=>⟨λh=>?_,λh=>?_⟩)))));rw[xj]at h;have p:mn c [] d=4:=by rw[F,dr h]
 exact⟨_,rfl,x.trans H,.inl ⟨by rw[t,dr (by rw[p];decide),p];decide,by rw[t,dr (by rw[p];decide),p];rfl⟩⟩;rw[xj]at h;rw[dp (by rw[h];decide)]at F;exact dD ⟨N,(),⟨rfl,rfl,rfl,rfl,rfl,rfl,trivial⟩,e4.trans H,F⟩;have y:¬k<d.length:=by simpa using y
 rw[List.drop_eq_nil_of_le (by omega)]at F;rw[dp (by rw[F];exactλh=>h rfl)]at t;refine fE.kJ (l0:=[(1,.slice K l.length L),(2,.int .i64 s),(3,.slice C c.length D),(4,.slice z d.length A),(5,dJ M)]) ⟨rfl,rfl,rfl,rfl,rfl,trivial⟩ (fE.seq er ?_);refine eQ [] 84 λw5 q H E ae=>mQ (n0:=B.heap.size) zv ae E (rD (f:=pj) (n:=3) (λ_=>rfl) l) ((hr.ext x).ext H).cells (BY GO l) (by omega) λv0 w6 g1 g2=>?_;have E6:=x.trans (g2 B H (dC _));have af:oM B.heap.size w6 v0 l:=g1;refine fE.pq (fE.of er ?_);refine gE c.length (λk (v:di)=>[(2,.int .i64 s),(3,.slice C c.length D),(4,.slice z d.length A),(5,dJ M),(15,v),(16,.int .i64 k)]) (λk v i=>Ext w i/\Ext B i/\oM B.heap.size i v (l++jK s d (c.take k))) v0 ⟨⟨rfl,rfl,rfl,rfl,rfl,rfl,trivial⟩,E6,g2 B H (dC _),by simpa[jK]using af⟩ ?_;rintro j v w7 P ⟨Q,J,p⟩;refine dK (eg ⟨λI=>?_,λy=>?_⟩)
 ·have P:j<c.length:=by simpa using I
  have ag:=zy s d c j P;obtain⟨b,o,ah,O⟩:=Z j P;subst ah;have au:=J.size;have av:=x.size;have S:¬dw v b:=λR=>by have:=(dM.blk p R).1;have:=pi O;omega
  refine io 15 dO (im (dw v)) (λa b h=>h.keep _) ?_;refine .exact (.pointer (some ⟨b,o+j,none⟩)) (λg _=>eP j P ⟨rfl,Ext.refl _⟩) (.exact (.int .i64 c[j]) (λg m=>dl (m.fh (Q.cell O) S) ⟨rfl,Ext.refl _⟩) ?_);refine .exact (.pointer (some ⟨b,o+j,none⟩)) (λg _=>eP j P ⟨rfl,Ext.refl _⟩) (.exact (.int .i64 c[j]) (λg m=>dl (m.fh (Q.cell O) S) ⟨rfl,Ext.refl _⟩) ?_);refine .yq rfl (.int .i64 (tk c[j] d 0)) (λg m=>dN (sd d c[j] z A g (ho.ext (Q.trans m)) (by omega)) ⟨rfl,Ext.refl _⟩) ?_;refine .exact (.bool (pK c[j] d)) (λg _=>uh ⟨rfl,Ext.refl _⟩) ?_;refine .exact (.agg (pj ⟨c[j],s,pK c[j] d⟩).toArray) (λg _=>eJ _ ⟨rfl,Ext.refl _⟩) ?_;refine .early rfl (λu g=>∃q,u=.slice (some ⟨q,0,none⟩) 1 1/\w7.heap.size<=q/\g.heap[q]? =some (.cells (pj ⟨c[j],s,pK c[j] d⟩).toArray 84)) (λu a b ⟨q,h1,h2,h3⟩ e=>⟨q,h1,h2,e.at_ h3⟩) (λg m=>eQ (pj ⟨c[j],s,pK c[j] d⟩) 84 λw9 q e9 E ai=>⟨⟨q,rfl,dS m.size E,ai⟩,e9⟩) ?_;refine .spec (λu g=>oM B.heap.size g u (l++jK s d (c.take (j+1)))) (λu a b h e=>dM.ext h e) (λg m u T=>?_) ?_;obtain⟨q,rfl,E,aj⟩:∃q,u=.slice (some ⟨q,0,none⟩) 1 1/\w7.heap.size<=q/\g.heap[q]? =some (.cells (pj ⟨c[j],s,pK c[j] d⟩).toArray 84):=T;refine iM zv (dM.ext p m) (by have:=m.size;omega) aj (by simp[jK];omega) λv' w9 ak k9 _=>⟨?_,k9⟩;show oM _ _ _ _;rw[ag,<-List.append_assoc];unfold oM;rw[kN,List.flatMap_append];simpa using ak;refine .late rfl (λu g=>oM B.heap.size g u (l++jK s d (c.take (j+1)))) (λu a b h e=>dM.ext h e) (λg m u T=>?_) ?_
  ·repeat intro _
   exact⟨T,Ext.refl _⟩
  intro g m u T;repeat intro _
  have U:Ext B g:=Ext.iZ J m p (dC _);exact dD ⟨P,u,⟨rfl,rfl,rfl,rfl,rfl,rfl,trivial⟩,x.trans U,U,T⟩
 have y:¬j<c.length:=by simpa using y
 rw[tJ (by omega)]at p;obtain⟨ua,uc,rfl,al,am⟩:=p.row;refine fE.kJ (l0:=[(5,dJ M),(15,.slice ua (l++jK s d c).length uc)]) ⟨rfl,rfl,trivial⟩ (fE.of er (fg ((((X.trans e3).trans e4).trans J).at_ R) (eD (EK (dc:=dc) (hd.ext Q) r al (by simp[jK];omega) am) λg m=>?_)));rw[Ia];refine fV ⟨λh=>?_,λh=>?_⟩;have h:¬my G (l++jK s d c)=0:=eA h;exact⟨_,rfl,Q.trans m,.inl ⟨by rw[t];exact h,by rw[t];rfl⟩⟩;have h:my G (l++jK s d c)=0:=by simpa using eH h
 exact⟨_,rfl,Q.trans m,.inr ⟨by rw[t];exact h,_,rfl,(dM.ext p m).low x.size⟩⟩
variable{G:Gd}{da:Option Addr}{dc:Nat}{w:dg}
def wR{l:List Tq}(h:ep G l I J=0):eF G=0/\my G l=0:=by
 have a:my G l=0:=by unfold ep at h;by_cases a:my G l=0;exact a;rw[dp a]at h;exact absurd h a
 refine⟨?_,a⟩;unfold my at a;by_cases b:eF G=0;exact b;rw[dp b]at a;exact absurd a b
def GR(hd:iv w da G.doors)(D:G.doors.length<=100000){l:List Tq}{E:Option Addr}{lc:Nat}(W:iA w E l)(H:E=none->l.length=0)(aa:l.length<=1000)(s:Int){a c:List Int}{B t:Option Addr}{u x:Nat}(I:iz w B a)(ab:a.length<=1000)(J:a.length<=u)(K:iz w t c)(ac:c.length<=1000)(ad:c.length<=x):
 Calls V.prog 77 #[gV G da dc,.slice E l.length lc,.int .i64 s,.slice B a.length u,.slice t c.length x] w (gh λv y=>Ext w y/\BZ G l s a c w.heap.size v y):=by
 refine go (V.fn Tryz.func77 (by decide)) Tryz.ntmps77 ?_;refine fB λw1 gb F ae hb=>?_;refine fg hb (dt (lj (dc:=dc) (lc:=lc) (hd.ext F) D (W.ext F) (by omega) s 0) ?_);rintro v w2 ⟨X,⟨m,rfl⟩|⟨m,Y,gp,mk,ms,rfl,L,hx⟩⟩;exact fV (ki (by simpa using m) ⟨_,rfl,F.trans X,.inl ⟨by rw[lq,dr m];exact m,by rw[lq,dr m];rfl⟩⟩);have e:=F.trans X;have f:lq G l s a c=if fx G.doors.length a≠0 then fx G.doors.length a else if mn a [] c≠0 then mn a [] c else my G (l++jK s c a):=by rw[lq,dp (λh=>h m)]
 have hG:=(wR m).1;obtain⟨sa,sc,Z,g2,g3,g4⟩:=L.k.at_;have M:=ve (lc:=u) L.k.g (I.ext e) (by omega) J;refine fV (mX rfl (dl Z (dN M (fV ⟨λh=>?_,λh=>?_⟩))));have h:¬fx G.doors.length a=0:=eA h;exact⟨_,rfl,e,.inl ⟨by rw[f,dr h];exact h,by rw[f,dr h];rfl⟩⟩;rw[dp (eH h)]at f;refine dK ?_;refine eZ (n:=c.length) (λk=>[(1,.slice E l.length lc),(2,.int .i64 s),(3,.slice B a.length u),(4,.slice t c.length x),(12,dJ Y),(41,.slice t c.length x),(42,.int .i64 c.length),(43,.int .i64 k)]) (λk y=>y=w2/\mn a [] c=mn a (c.take k) (c.drop k)) ⟨⟨rfl,rfl,rfl,rfl,rfl,rfl,rfl,rfl,trivial⟩,rfl,rfl⟩ ?_ ?_ ?_;rintro k C p hJ;exact eg ⟨rfl,rfl,⟨rfl,rfl,rfl,rfl,rfl,rfl,rfl,rfl,trivial⟩,hJ⟩;rintro k C p ⟨rfl,q⟩;rw[zx a c k p]at q;obtain⟨b,o,N,O⟩:=(K.ext e) k p;have m:=mO a c[k] B u C (I.ext e) (by omega);have z:=mO (c.take k) c[k] t x C ((K.take k).ext e) (by simp;omega);rw[xq,Nat.min_eq_left (by omega)]at z;subst N;refine eP k p (dl O (dN m (eC ⟨λh=>?_,λh=>?_⟩)));have i:mn a [] c=3:=by rw[q,dp (by simpa using h)]
 exact⟨_,rfl,e,.inl ⟨by rw[f,dr (by rw[i];decide),i];decide,by rw[f,dr (by rw[i];decide),i];rfl⟩⟩;rw[dr (by simpa using h)]at q;refine kC k (by omega) (dN z ⟨λh=>?_,λh=>?_⟩);have i:mn a [] c=4:=by rw[q,dr h]
 exact⟨_,rfl,e,.inl ⟨by rw[f,dr (by rw[i];decide),i];decide,by rw[f,dr (by rw[i];decide),i];rfl⟩⟩;rw[dp (by rw[h];decide)]at q;exact dD ⟨⟨rfl,rfl,rfl,rfl,rfl,rfl,rfl,rfl,trivial⟩,rfl,q⟩;rintro C ⟨rfl,q⟩;rw[List.drop_length]at q;rw[dp (by rw[q];exactλh=>h rfl)]at f;refine dt (GP (W.ext e) H (by omega)) ?_;rintro v w4 ⟨e4,i⟩;have s2:=e.size;refine dK ?_;refine iE (n:=a.length) (λk v=>[(1,.slice E l.length lc),(2,.int .i64 s),(3,.slice B a.length u),(4,.slice t c.length x),(12,dJ Y),(17,v),(62,.slice B a.length u),(63,.int .i64 a.length),(64,.int .i64 k)]) (λk v y=>Ext C y/\oM C.heap.size y v (l++jK s c (a.take k))) v ⟨⟨rfl,rfl,rfl,rfl,rfl,rfl,rfl,rfl,rfl,trivial⟩,e4,by simpa[jK]using i⟩ ?_ ?_ ?_;rintro k v P p ⟨j,d⟩;exact eg ⟨rfl,rfl,⟨rfl,rfl,rfl,rfl,rfl,rfl,rfl,rfl,rfl,trivial⟩,j,d⟩;rintro k v P p ⟨j,d⟩;have E5:=e.trans j;obtain⟨b,o,Q,O⟩:=(I.ext E5) k p;have R:=mO c a[k] t x P (K.ext E5) (by omega);subst Q;refine eP k p (dl O (dN R ?_));refine eJ (.agg (pj ⟨a[k],s,pK a[k] c⟩).toArray) (eQ (pj ⟨a[k],s,pK a[k] c⟩) 84 λw6 nb r af S=>iM zv (dM.ext d r) (by have:=j.size;have:=r.size;omega) S (by simp[jK];omega) λv' w7 T k7 _=>dD ⟨v',⟨rfl,rfl,rfl,rfl,rfl,rfl,rfl,rfl,rfl,trivial⟩,(j.trans r).iZ k7 (dM.ext d r) (dC _),?_⟩);rw[zy s c a k p,<-List.append_assoc];unfold oM;rw[kN,List.flatMap_append];simpa using T;rintro v P ⟨j,d⟩;rw[qx]at d;obtain⟨a5,c5,rfl,U,ag⟩:=d.row;refine dl (j.cell Z) (dt (Mi (lc:=c5) (L.k.g.ext j) U (by simp[jK];omega)) ?_);have A:my G (l++jK s c a)=(jw G (l++jK s c a)).1:=by unfold my;rw[dr hG]
 rintro v w6 ⟨r,⟨z,rfl⟩|⟨z,_,_,sb,_,rfl,_⟩⟩;exact fV (ki (by simpa using z) ⟨_,rfl,(e.trans j).trans r,.inl ⟨by rw[f,A];exact z,by rw[f,A];rfl⟩⟩);exact fV (mX rfl ⟨_,rfl,(e.trans j).trans r,.inr ⟨by rw[f,A];exact z,_,rfl,(dM.ext d r).low s2⟩⟩)
def kM.ext{c:Type}{f:c->List di}{l:List c}(h:kM f m w a l)(e:Ext w t):kM f m t a l:=λk d=>by obtain⟨b,o,g,i⟩:=h k d;exact⟨b,o,g,λj v n=>e.cell (i j v n)⟩
def GS{a:Type}(f:a->List di)(n b:Nat)(w:dg)(l:List a):Prop:=∀k (h:k<l.length),∀j v,(f l[k])[j]? =some v->w.cell? ⟨b,0+k*n+j,none⟩=some v
def GS.of{a:Type}{f:a->List di}{l:List a}{t:dn}(b:∀x,(f x).length=m)(c:w.heap[k]? =some (.cells (l.flatMap f).toArray t)):GS f m k w l:=λd e j v g=>by refine dj c ?_;rw[dB];simpa using rE b l d e j v g
def GS.ext{a:Type}{f:a->List di}{l:List a}(h:GS f m k w l)(e:Ext w t):GS f m k t l:=λb c j v d=>e.cell (h b c j v d)
def vA{a:Type}(f:a->di)(b:Nat)(w:dg)(l:List a):Prop:=∀k (h:k<l.length),w.cell? ⟨b,0+k,none⟩=some (f l[k])
def vA.of{a:Type}{f:a->di}{l:List a}{t:dn}(b:w.heap[m]? =some (.cells (l.map f).toArray t)):vA f m w l:=λk c=>by refine dj b ?_;rw[dB];simp[c]
def vA.ext{a:Type}{f:a->di}{l:List a}(h:vA f m w l)(e:Ext w t):vA f m t l:=λk b=>e.cell (h k b)
structure AZ(w:dg)(la:Option Addr)(lc:Nat)(l:List Tq):Prop where
 row:iA w la l
 len:l.length<=31
 cap:l.length<=lc
 nil:la=none->l.length=0
theorem AZ.ext{l:List Tq}(h:AZ w a m l)(e:Ext w t):AZ t a m l:=⟨h.row.ext e,h.len,h.cap,h.nil⟩
structure zz(w:dg)(a:Option Addr)(c:Nat)(l:List Int):Prop where
 row:iz w a l
 len:l.length<=21
 cap:l.length<=c
theorem zz.ext{l:List Int}(h:zz w a m l)(e:Ext w t):zz t a m l:=⟨h.row.ext e,h.len,h.cap⟩
structure M6(w:dg)(da:Option Addr)(G:Gd):Prop where
 row:iv w da G.doors
 len:G.doors.length<=20
theorem M6.ext(h:M6 w a H)(e:Ext w t):M6 t a H:=⟨h.row.ext e,h.len⟩
def M9:Calls V.prog 76 #[gV H a m] w (gh λv b=>v=.bool (decide (20<H.doors.length))/\Ext w b):=by refine go (V.fn Tryz.func76 (by decide)) Tryz.ntmps76 ?_;refine fB λf g c d e=>dl (dj e rfl) (dK (mE ⟨_,rfl,dQ Value.bool ?_,c⟩));rw[Bool.eq_iff_iff];simp only[decide_eq_true_iff];omega
def oM.VP{l:List Tq}(h:oM m w x l)(d:l.length<=31):∃a c,x=.slice a l.length c/\AZ w a c l:=by obtain⟨a,c,rfl,f,g⟩:=h.row;refine⟨a,c,rfl,f,d,g,λe=>?_⟩;subst e;obtain⟨_,⟨i,_⟩|⟨b,j,k,_,e,_⟩⟩:=h;exact i;injection e with e;cases e
def qp.q{l:List Ty}(h:qp m w x l):oM m w x (l.map RR):=by unfold oM;rw[xo,List.flatMap_map];exact h
section
variable{G:Gd}{L:Nat->Nat}
end
section
variable{G:Gd}{xs:List Sx}
end
section
variable{G:Gd}{xs:List Sx}{f:Nat}{ps:List (Nat×List Nat)}
end
section
variable{H G:Gd}{ns:List Nat}
section
variable{xs ys:List Sx}{S:List Nat}{f:Nat}
end
end
def gQ.rowOf(h:gQ m w (.slice a k i) l):gi w a l:=by obtain⟨d,f,e,b,g⟩:=h.row;injection e with c;rw[c];exact b
section
variable{G:Gd}{l:List Ty}{s f:Nat}{S:List Nat}
end
theorem mz.keep{c:List (Nat×List Nat)}(h:mz m w x c)(e:dP A w t)(d:∀b,m<=b->¬A b):mz m t x c:=by obtain⟨i,j,f,l⟩:=h;exact⟨i,j,dM.keep f e λb a=>d b (dM.blk f a).1,λk n=>by obtain⟨u,o,g⟩:=l k n;exact⟨u,o,dM.keep g e λb a=>d b (dM.blk g a).1⟩⟩
def DE.own(h:DE m w t)(k:dP (dw x) t e)(c:∀a,dw x a->w.heap.size<=a):DE m w e:=
 ⟨(h.1.trans k (H:=λa=>a=m\/w.heap.size<=a) (λ_ _ h=>.inl h) λa _ b=>.inr (c a b)).trans (dP.refl (λ_=>False) _) (λa b h=>h.elim id λh=>by omega) λ_ _ h=>h.elim,λd=>(h.2 d).keep k λa b=>by have:=c a b;have:=d.lt;omega⟩
structure zA(n0:Nat)(a b:dg):Prop where
 k:dP (λx=>n0<=x) a b
 p:∀(x:Nat) cs t,t≠24->a.heap[x]? =some (.cells cs t)->b.heap[x]? =some (.cells cs t)
 q:∀(x:Nat) cs,a.heap[x]? =some (.cells cs 24)->∃rI:Array di,b.heap[x]? =some (.cells rI 24)/\rI.size=cs.size
def UV(j:Nat):gq (zA j):=
 ⟨λw=>⟨dP.refl _ w,λ_ _ _ _ h=>h,λ_ d h=>⟨d,h,rfl⟩⟩,λa b c h k=>⟨h.k.trans k.k (λ_ _ h=>h) λ_ _ h=>h,λx d t i e=>k.p x d t i (h.p x d t i e),λx d e=>by obtain⟨f,l,m⟩:=h.q x d e;obtain⟨g,n,o⟩:=k.q x f l;exact⟨g,n,o.trans m⟩⟩,λw=>⟨(Ext.drew w).keep _,λx d t _ e=>(Ext.drew w).at_ e,λx d e=>⟨d,(Ext.drew w).at_ e,rfl⟩⟩⟩
def Ext.et(h:Ext w t)(c:Nat):zA c w t:=⟨h.keep _,λx b d _ a=>h.at_ a,λx b a=>⟨b,h.at_ a,rfl⟩⟩
def dM.et(h:dM k T M w x i Y)(e:zA m w t)(f:T≠24):dM k T M t x i Y:=by obtain⟨a,h|⟨b,c,d,g,j,l,n⟩⟩:=h;exact⟨a,.inl h⟩;exact⟨a,.inr ⟨b,c,d,g,j,e.p b d T f l,n⟩⟩
theorem zA.ext(h:zA m w t)(a:w.heap.size<=m):Ext w t:=h.k.ext λx b=>by omega
structure pr where
 G:Gd
 da:Option Addr
 dc:Nat
 l:List Tq
 la:Option Addr
 lc:Nat
 s:Int
 wk:List Int
 wa:Option Addr
 wc:Nat
 op:List Int
 oa:Option Addr
 oc:Nat
structure B2(w:dg)(c:pr):Prop where
 gI:M6 w c.da c.G
 lI:AZ w c.la c.lc c.l
 wI:zz w c.wa c.wc c.wk
 oI:zz w c.oa c.oc c.op
theorem B2.ext{c:pr}(h:B2 w c)(e:Ext w t):B2 t c:=⟨h.gI.ext e,h.lI.ext e,h.wI.ext e,h.oI.ext e⟩
structure Ps(gs ls ss ws os:Nat)(w:dg)(cs:List pr):Prop where
 gI:GS (λc:pr=>gL c.G c.da c.dc) 7 gs w cs
 lI:vA (λc:pr=>.slice c.la c.l.length c.lc) ls w cs
 sI:vA (λc:pr=>.int .i64 c.s) ss w cs
 wI:vA (λc:pr=>.slice c.wa c.wk.length c.wc) ws w cs
 oI:vA (λc:pr=>.slice c.oa c.op.length c.oc) os w cs
 all:∀c∈cs,B2 w c
theorem Ps.ext{a:List pr}(h:Ps m k i j o w a)(e:Ext w t):Ps m k i j o t a:=⟨h.gI.ext e,h.lI.ext e,h.sI.ext e,h.wI.ext e,h.oI.ext e,λc b=>(h.all c b).ext e⟩
def Na(c:pr):List Tq:=if lq c.G c.l c.s c.wk c.op=0 then c.l++jK c.s c.op c.wk else []
def GT{b:Type}(f:dg->Option Addr->List b->Prop)(l:List b)(e:Int)(u:di)(w:dg):Prop:=∃a c,u=.tuple #[.slice a l.length c,.int .i64 e]/\f w a l
def JY{b:Type}(f:dg->Option Addr->List b->Prop)(l:List b)(u:di)(w:dg):Prop:=∃a c,u=.slice a l.length c/\f w a l
def BZ.res{c:pr}(h:BZ c.G c.l c.s c.wk c.op m x w):GT iA (Na c) (lq c.G c.l c.s c.wk c.op) x w:=by unfold Na;rcases h with⟨b,rfl⟩|⟨b,u,rfl,e⟩;rw[dp b];exact⟨none,0,rfl,λk f=>by simp at f⟩;rw[dr b,b];obtain⟨a,d,rfl,g,_⟩:=e.row;exact⟨a,d,rfl,g⟩
def Nb{c:pr}(a:c.l.length<=31)(b:c.wk.length<=21):(Na c).length<=52:=by unfold Na;split;simp[jK];omega;simp
def B3{dc:Nat}(hd:iv w a H.doors)(ct:H.doors.length<=9223372036854775807){l:List Tq}{la:Option Addr}(hl:iA w la l)(cu:l.length<=9223372036854775807)(bB:l.length<=m)(bC:la=none->l.length=0)(s:Int) {wk:List Int}{wa:Option Addr}(hw:iz w wa wk)(cv:wk.length<=9223372036854775807)(bD:wk.length<=k){op:List Int}{oa:Option Addr}(ho:iz w oa op)(cw:op.length<=9223372036854775807)(bE:op.length<=i)(C:Int) {ns:List Int}{na:Option Addr}(hr:iz w na ns)(bF:ns.length<=9223372036854775807):
 Calls V.prog 18 #[gV H a dc,.slice la l.length m,.int .i64 s,.slice wa wk.length k,.slice oa op.length i,.int .i64 C,.slice na ns.length j] w (uA λv w'=>v=.bool true/\Ext w w'):=by
 refine RP (V.fn Tryz.func18 (by decide)) Tryz.ntmps18 (fE.seq er ?_);refine fB λn ob e1 cx hb=>?_;refine fE.pq (fE.pq (sj.start (sj.Pp 17 er ?_)));refine fg hb (eD M9 λw2 K=>?_);have E2:=e1.trans K;refine⟨λh=>?_,λh=>dK (mE ⟨λh2=>?_,λh2=>dK (mE ⟨λh3=>?_,λh3=>dK (mE ?_)⟩)⟩)⟩;refine sj.fin (fE.of er (ki rfl (ir (mh w2) (λw' h=>.inr ⟨rfl,h⟩) ?_)));rintro _ w3 ⟨rfl,e3⟩;exact .inl ⟨_,rfl,rfl,E2.trans e3⟩;refine sj.fin (fE.of er (ki rfl (ir (mh w2) (λw' h=>.inr ⟨rfl,h⟩) ?_)));rintro _ w3 ⟨rfl,e3⟩;exact .inl ⟨_,rfl,rfl,E2.trans e3⟩;refine sj.fin (fE.of er (ki rfl (ir (mh w2) (λw' h=>.inr ⟨rfl,h⟩) ?_)));rintro _ w3 ⟨rfl,e3⟩;exact .inl ⟨_,rfl,rfl,E2.trans e3⟩;refine sj.fin (fE.of er ⟨λh4=>?_,λh4=>?_⟩);refine ir (mh w2) (λw' h=>.inr ⟨rfl,h⟩) ?_;rintro _ w3 ⟨rfl,e3⟩;exact .inl ⟨_,rfl,rfl,E2.trans e3⟩;have aX:H.doors.length<=20:=by have:=eH h;omega
 have aY:l.length<=30:=by have:=eH h2;omega
 have aZ:wk.length<=20:=by have:=eH h3;omega
 have a0:op.length<=20:=by have:=eH h4;omega
 refine fE.kJ (l0:=[(1,.slice la l.length m),(2,.int .i64 s),(3,.slice wa wk.length k),(4,.slice oa op.length i),(5,.int .i64 C),(6,.slice na ns.length j),(7,dJ ob)]) ⟨rfl,rfl,rfl,rfl,rfl,rfl,rfl,trivial⟩ (fE.seq er ?_);refine dt (EL (hr.ext E2) bF) ?_;rintro _ w3 ⟨e3,db,rfl,cy,hD⟩;have E3:=E2.trans e3;refine fE.seq er (dt (BW hD 5 (by omega)) ?_);rintro _ w4 ⟨d4,M,ma,mc,rfl,hO,cz,hM,cA⟩;have ok:=jV hM;have cB:=ok.days;have cC:=E3.size;have aJ:w.heap.size<=db:=by have:=E2.size;omega
 have cD:=hD.lt;have cE:=d4.1.size;have E4:Ext w w4:=M0 E3 d4 aJ;refine fJ λw5 gb e5 bG bH=>ee bH λw6 k6 ae=>?_;replace ae:w6.heap[gb]? =some (.cells (gL M ma mc).toArray 24):=ae.trans (dQ (λp=>some (Obj.cells p 24)) (fo (sD 24).toArray (gL M ma mc) rfl));have af:Ext w4 w6:=Ext.dz e5 k6 bG;have D6:=(d4.2 hD).ext af;refine fE.kJ (l0:=[(1,.slice la l.length m),(2,.int .i64 s),(3,.slice wa wk.length k),(4,.slice oa op.length i),(5,.int .i64 C),(7,dJ ob),(15,dJ db),(16,dJ gb)]) ⟨rfl,rfl,rfl,rfl,rfl,rfl,rfl,rfl,trivial⟩ (fE.seq er ?_);refine fg ae (dt (JV (dc:=mc) D6 hM) ?_);rintro _ w7 ⟨d7,yl,sm,R,bI,cF,bJ⟩;have cG:=af.size;have cH:=d7.1.size;have ag:¬gb=db:=by omega
 have g7:=d7.1.fU ae ag;have cI:mj w3.heap.size w7 (.slice ma M.doors.length mc) M.doors:=dM.keep (dM.ext hO af) d7.1 λb hb e=>by have:=(dM.blk hO hb).1;omega
 have bK:=M4 bI;have D7:=d7.2 D6;obtain⟨ya,yc,rfl,_,_⟩:=R.row;refine fE.kJ (l0:=[(1,.slice la l.length m),(2,.int .i64 s),(3,.slice wa wk.length k),(4,.slice oa op.length i),(5,.int .i64 C),(7,dJ ob),(15,dJ db),(16,dJ gb),(17,.slice ya yl.length yc)]) ⟨rfl,rfl,rfl,rfl,rfl,rfl,rfl,rfl,rfl,trivial⟩ (fE.seq er ?_);refine dT (wQ db) ?_;refine .exact (.int .i64 (zw yl)) (λw8 e8=>dN (GK (qp.rowOf (dM.keep R e8.1 λb hb e=>by have:=(dM.blk R hb).1;omega)) (by omega)) ⟨rfl,(wQ db).refl _⟩) ?_;refine .exact (.int .i64 M.days) (λw8 e8=>dl (dj (e8.1.fU g7 ag) rfl) ⟨rfl,(wQ db).refl _⟩) ?_;refine .exact (.int .i64 (2*M.days)) (λw8 _=>u9 ⟨rfl,(wQ db).refl _⟩) ?_;refine .exact (.int .i64 (2*M.days-1)) (λw8 _=>gK ⟨rfl,(wQ db).refl _⟩) ?_;refine .rel (λu _=>∃f:Int,u=.int .i64 f) (λ_ _ _ h _=>h) (λw8 e8=>dt (ll (e8.2 D7) (zw yl) (2*M.days-1) (by omega) (by omega) (by omega)) λu w9 ⟨⟨z,e,_⟩,d⟩=>⟨⟨z,e⟩,d⟩) ?_;refine .rel (λu _=>∃f:Int,u=.int .i64 f) (λ_ _ _ h _=>h) (λw8 e8 u R=>⟨R,(wQ db).refl _⟩) ?_;rintro w8 d8 u ⟨f,rfl⟩ _ _;have a1:=d7.trans d8;have g8:=a1.1.fU ae ag;refine fE.kJ (l0:=[(1,.slice la l.length m),(2,.int .i64 s),(3,.slice wa wk.length k),(4,.slice oa op.length i),(5,.int .i64 C),(7,dJ ob),(15,dJ db),(16,dJ gb),(17,.slice ya yl.length yc),(18,.int .i64 f)]) ⟨rfl,rfl,rfl,rfl,rfl,rfl,rfl,rfl,rfl,rfl,trivial⟩ (fE.seq er ?_);refine fg g8 (dt (GG (dc:=mc) (d8.2 D7) (by omega)) ?_);rintro _ w9 ⟨d9,wl,P,Z,rfl,bL,cJ,cK,_,_,bM⟩;refine fE.seq er (dK (dt (mB (d9.2 (d8.2 D7)) wl.length (by omega)) ?_));rintro _ S ⟨⟨z,rfl,cL,cM⟩,aO⟩;obtain⟨aP,rfl⟩:∃aP:Nat,z=aP:=⟨z.toNat,by omega⟩;have hm:aP<=wl.length:=by omega
 have ar:DE db w6 S:=(a1.trans d9).trans aO;have bN:Ext w S:=M0 (E4.trans af) ar aJ;have cN:=d8.1.size;have gM:=ar.1.fU ae ag;have a2:mj w3.heap.size S (.slice ma M.doors.length mc) M.doors:=dM.keep (dM.ext hO af) ar.1 λb hb e=>by have:=(dM.blk hO hb).1;omega
 have a3:qp w6.heap.size S (.slice ya yl.length yc) yl:=dM.keep R (d8.trans (d9.trans aO)).1 λb hb e=>by have:=(dM.blk R hb).1;omega
 have aK:gi S P wl:=bL.keep aO.1 λb o e hb=>by have:=bM b o e;omega
 have a4:S.heap[ob]? =some (.cells (gL H a dc).toArray 24):=by have h1:w4.heap[ob]? =some (.cells (gL H a dc).toArray 24):=d4.1.fU ((K.trans e3).at_ hb) (by have:=dG.lt_of_heap hb;have:=K.size;omega);exact ar.1.fU (af.at_ h1) (by have:=dG.lt_of_heap hb;have:=K.size;omega)
 refine kC aP (by omega) ?_;obtain⟨Y,hY⟩:∃Y,Y=yl.map RR:=⟨_,rfl⟩;have a5:Y.length=yl.length:=by rw[hY];simp
 obtain⟨X,hX⟩:∃X,X=pJ wl:=⟨_,rfl⟩;have bO:X.length=wl.length:=by rw[hX];simp[pJ]
 obtain⟨T,hT⟩:∃T,T=pJ (wl.take aP):=⟨_,rfl⟩;have bP:T.length=aP:=by rw[hT];simp[pJ];omega
 have a6:iz S P X:=by rw[hX];exact aK.ints
 have a7:iz S P T:=by rw[hT];exact(aK.cut aP).ints
 have bQ:oM w6.heap.size S (.slice ya Y.length yc) Y:=by have:=a3.q;rw[<-hY]at this;rw[a5];exact this
 obtain⟨_,_,e,bR⟩:=bQ.VP (by omega);cases e;refine fE.kJ (l0:=[(1,.slice la l.length m),(2,.int .i64 s),(3,.slice wa wk.length k),(4,.slice oa op.length i),(5,.int .i64 C),(7,dJ ob),(16,dJ gb),(17,.slice ya Y.length yc),(18,.int .i64 f),(19,.slice P X.length Z),(20,.slice P T.length Z)]) ⟨rfl,rfl,rfl,rfl,rfl,rfl,rfl,by rw[a5];rfl,rfl,by rw[bO];rfl,by rw[bP];rfl,trivial⟩ (fE.seq er ?_);refine fg a4 (fg gM (fg gM (fg gM (fg gM ?_))));refine eQ (gL H a dc++gL M ma mc++gL M ma mc++gL M ma mc++gL M ma mc) 24 λcO gs bS cP a8=>?_;refine eQ [.slice la l.length m,.slice ya Y.length yc,.slice none 0 0,.slice ya Y.length yc,.slice ya Y.length yc] 25 λau ls am cQ a9=>?_;refine eQ [.int .i64 s,.int .i64 f,.int .i64 f,.int .i64 f,.int .i64 s] 3 λah ss an cR ba=>?_;have ab:=(bS.trans am).trans an;refine fE.kJ (l0:=[(3,.slice wa wk.length k),(4,.slice oa op.length i),(5,.int .i64 C),(19,.slice P X.length Z),(20,.slice P T.length Z),(21,.slice (some ⟨gs,0,none⟩) 5 5),(22,.slice (some ⟨ls,0,none⟩) 5 5),(23,.slice (some ⟨ss,0,none⟩) 5 5)]) ⟨rfl,rfl,rfl,rfl,rfl,rfl,rfl,rfl,trivial⟩ (fE.seq er ?_);refine dt (uI (a6.ext ab) (by omega)) ?_;rintro v cS ⟨bb,hv⟩;have cT:=ab.size;have cU:=bb.size;refine eQ [.int .i64 C] 3 λcV Q av aw bc=>iM uj (dM.ext hv av) (by have:=av.size;omega) bc (by omega) λv' bd bT bU _=>?_;have U:Ext ah bd:=(bb.trans av).iZ bU (dM.ext hv av) (dC _);have be:vz ah.heap.size bd v' (X++[C]):=by unfold vz;rw[kN,List.flatMap_append];exact bT
 obtain⟨va,vc,rfl,bV,bW⟩:=be.row;refine eQ [.slice wa wk.length k,.slice P X.length Z,.slice P X.length Z,.slice va (X++[C]).length vc,.slice P X.length Z] 27 λbf ws ao cW bg=>?_;have ac:=(ab.trans U).trans ao;refine dt (uI (a7.ext ac) (by omega)) ?_;rintro t cX ⟨bh,ht⟩;have cY:=ac.size;have cZ:=bh.size;refine eQ [.int .i64 C] 3 λc0 c1 ax cm bi=>iM uj (dM.ext ht ax) (by have:=ax.size;omega) bi (by omega) λt' bj bX bY _=>?_;have aQ:Ext bf bj:=(bh.trans ax).iZ bY (dM.ext ht ax) (dC _);have bk:vz bf.heap.size bj t' (T++[C]):=by unfold vz;rw[kN,List.flatMap_append];exact bX
 obtain⟨ta,tc,rfl,bZ,b0⟩:=bk.row;refine eQ [.slice oa op.length i,.slice P T.length Z,.slice P T.length Z,.slice P T.length Z,.slice ta (T++[C]).length tc] 27 λai os bl c2 bm=>?_;have E:=aQ.trans bl;have N:=ac.trans E;have aj:=bN.trans N;have bn:=mj.RB a2;obtain⟨cs,aa⟩:∃cs:List pr,cs=[⟨H,a,dc,l,la,m,s,wk,wa,k,op,oa,i⟩,⟨M,ma,mc,Y,ya,yc,f,X,P,Z,T,P,Z⟩,⟨M,ma,mc,[],none,0,f,X,P,Z,T,P,Z⟩,⟨M,ma,mc,Y,ya,yc,f,X++[C],va,vc,T,P,Z⟩,⟨M,ma,mc,Y,ya,yc,s,X,P,Z,T++[C],ta,tc⟩]:=⟨_,rfl⟩;have c3:cs.length=5:=by rw[aa];rfl
 have aL:Ps gs ls ss ws os ai cs:=by have eM:M6 ai ma M:=⟨bn.ext N,by omega⟩;have eY:AZ ai ya yc Y:=bR.ext N;have eX:zz ai P Z X:=⟨a6.ext N,by omega,by omega⟩;have eT:zz ai P Z T:=⟨a7.ext N,by omega,by omega⟩;refine⟨GS.of (t:=24) (λ_=>rfl) ?_,vA.of (t:=25) ?_,vA.of (t:=3) ?_,vA.of (t:=27) ?_,vA.of (t:=27) ?_,?_⟩;rw[aa];exact((((am.trans an).trans U).trans ao).trans E).at_ a8;rw[aa];exact(((an.trans U).trans ao).trans E).at_ a9;rw[aa];exact((U.trans ao).trans E).at_ ba;rw[aa];exact E.at_ bg;rw[aa];exact bm;rw[aa];intro c hc;simp only[ft,lZ,jN]at hc;rcases hc with rfl|rfl|rfl|rfl|rfl;exact⟨⟨hd.ext aj,aX⟩,⟨hl.ext aj,G4 aY,bB,bC⟩,⟨hw.ext aj,G4 aZ,bD⟩,⟨ho.ext aj,G4 a0,bE⟩⟩;exact⟨eM,eY,eX,eT⟩;exact⟨eM,⟨λg hk=>by simp at hk,gu _,dC _,λ_=>rfl⟩,eX,eT⟩;exact⟨eM,eY,⟨bV.ext (ao.trans E),by simp;omega,bW⟩,eT⟩;exact⟨eM,eY,eX,⟨bZ.ext bl,by simp;omega,b0⟩⟩
 clear aa;refine fE.kJ (l0:=[(21,.slice (some ⟨gs,0,none⟩) 5 5),(22,.slice (some ⟨ls,0,none⟩) 5 5),(23,.slice (some ⟨ss,0,none⟩) 5 5),(24,.slice (some ⟨ws,0,none⟩) 5 5),(25,.slice (some ⟨os,0,none⟩) 5 5)]) ⟨rfl,rfl,rfl,rfl,rfl,trivial⟩ (fE.pq (fE.seq er ?_));refine Po 5 (λg (_:Unit)=>[(21,.slice (some ⟨gs,0,none⟩) 5 5),(22,.slice (some ⟨ls,0,none⟩) 5 5),(23,.slice (some ⟨ss,0,none⟩) 5 5),(24,.slice (some ⟨ws,0,none⟩) 5 5),(25,.slice (some ⟨os,0,none⟩) 5 5),(26,.int .i64 g)]) (λg _ w'=>Ext ai w') () ⟨⟨rfl,rfl,rfl,rfl,rfl,rfl,trivial⟩,Ext.refl _⟩ ?_;rintro g _ ay hk az;refine fE.pq (fE.of er (dK (eg ⟨λb1=>?_,λc4=>?_⟩)));rotate_left;refine fE.pq (fE.of er (ir (mh ay) (λw' h=>.inr ⟨rfl,h⟩) ?_));rintro _ aA ⟨rfl,W⟩;exact fE.of er (.inl ⟨_,rfl,rfl,(aj.trans az).trans W⟩);have D:g<5:=by have:=eA b1;omega
 have ak:=aL.ext az;have al:g<cs.length:=by omega
 have B:=ak.all _ (fc al);have qg:=ak.gI g al;have ql:=ak.lI g al;have qs:=ak.sI g al;have qw:=ak.wI g al;have qo:=ak.oI g al;have b2:=aj.trans az;generalize cs[g]=c at*;have sz:=aL;refine fE.pq (fE.block (fE.pq ?_));obtain⟨n0,c5⟩:∃n0,n0=ay.heap.size:=⟨_,rfl⟩;have hE:=UV n0;have ext:∀{n:dg},zA n0 ay n->Ext ay n:=λe=>e.ext (by omega);refine io 21 dO hE (λp b h=>h.et n0) ?_;refine .exact (.pointer (some ⟨gs,0+g*7,none⟩)) (λw _=>fl g 7 D ⟨rfl,Ext.refl _⟩) ?_;refine .exact (gV c.G c.da c.dc) (λw e=>eB (vs:=gL c.G c.da c.dc) (λbo v hj=>(ext e).cell (qg bo v hj)) ⟨rfl,Ext.refl _⟩) ?_;refine .rel (λu n=>∃p d,u=gV c.G p d/\mj n0 n (.slice p c.G.doors.length d) c.G.doors) (λu p b ⟨x,d,h1,h2⟩ e=>⟨x,d,h1,dM.et h2 e (by decide)⟩) (λn e=>?_) ?_;refine dt (zV ((B.gI.row.ext (ext e)).cells) (by have:=B.gI.len;omega)) ?_;rintro u w2 ⟨K,p,d,rfl,h⟩;exact⟨⟨p,d,rfl,mj.low h (by have:=(ext e).size;omega)⟩,K⟩;refine .exact (.pointer (some ⟨ls,0+g,none⟩)) (λw _=>eP g D ⟨rfl,Ext.refl _⟩) ?_;refine .exact (.slice c.la c.l.length c.lc) (λw e=>dl ((ext e).cell ql) ⟨rfl,Ext.refl _⟩) ?_;refine .rel (λu n=>oM n0 n u c.l) (λu p b h e=>dM.et h e (by decide)) (λn e=>?_) ?_
 ·repeat intro _
  exact dt (M5 (B.lI.row.ext (ext e)) (by have:=B.lI.len;omega)) λu w2 ⟨K,h⟩=>⟨dM.low h (by have:=(ext e).size;omega),K⟩
 refine .exact (.pointer (some ⟨ws,0+g,none⟩)) (λw _=>eP g D ⟨rfl,Ext.refl _⟩) ?_;refine .exact (.slice c.wa c.wk.length c.wc) (λw e=>dl ((ext e).cell qw) ⟨rfl,Ext.refl _⟩) ?_;refine .rel (λu n=>vz n0 n u c.wk) (λu p b h e=>dM.et h e (by decide)) (λn e=>?_) ?_
 ·repeat intro _
  exact dt (uI (B.wI.row.ext (ext e)) (by have:=B.wI.len;omega)) λu w2 ⟨K,h⟩=>⟨dM.low h (by have:=(ext e).size;omega),K⟩
 refine .exact (.pointer (some ⟨os,0+g,none⟩)) (λw _=>eP g D ⟨rfl,Ext.refl _⟩) ?_;refine .exact (.slice c.oa c.op.length c.oc) (λw e=>dl ((ext e).cell qo) ⟨rfl,Ext.refl _⟩) ?_;refine .rel (λu n=>vz n0 n u c.op) (λu p b h e=>dM.et h e (by decide)) (λn e=>?_) ?_
 ·repeat intro _
  exact dt (uI (B.oI.row.ext (ext e)) (by have:=B.oI.len;omega)) λu w2 ⟨K,h⟩=>⟨dM.low h (by have:=(ext e).size;omega),K⟩
 refine .rel (λu n=>∃Q,u=dJ Q/\n0<=Q/\∃cs,n.heap[Q]? =some (.cells cs 24)/\cs.size=7) (λu p b ⟨Q,h1,h2,cs,h3,h4⟩ e=>by obtain⟨aR,h5,h6⟩:=e.q Q cs h3;exact⟨Q,h1,h2,aR,h5,h6.trans h4⟩) (λau am=>?_) ?_
 ·repeat intro _
  exact fJ λah Q an aw hb=>⟨⟨Q,rfl,by have:=(ext am).size;omega,_,hb,rfl⟩,an⟩
 refine .vQ (λvs n=>∃Q r p d,vs=dJ Q::r/\n.heap[Q]? =some (.cells (gL c.G p d).toArray 24)/\mj n0 n (.slice p c.G.doors.length d) c.G.doors) (λ_ p b ⟨Q,r,x,d,h1,h2,h3⟩ e=>⟨Q,r,x,d,h1,e.at_ h2,dM.ext h3 e⟩) (λau am=>?_) ?_;rintro _ ⟨Q,rfl,aw,aR,ap,aq⟩ v2 _ _ ⟨p,d,rfl,b3⟩;refine jj (v:=gV c.G p d) ap (by rw[aq];exact dC _) (λah aS bp=>?_) (gG rfl);have ag:∀{x:Nat} {aB:Array di} {t:dn},t≠24->au.heap[x]? =some (.cells aB t)->x≠Q:=λht h1 hx=>by subst hx;exact gO h1 ap ht
 have aM:ah.heap[Q]? =some (.cells (gL c.G p d).toArray 24):=bp.trans (dQ (λp=>some (Obj.cells p 24)) (fo aR (gL c.G p d) aq));have bq:zA n0 au ah:=⟨aS.trans (dP.refl (λ_=>False) _) (λx _ hx=>by subst hx;exact aw) λ_ _ h=>h.elim,λx aB t ht hx=>aS.fU hx (ag ht hx),λx aB hx=>by by_cases br:x=Q;subst br;rw[ap]at hx;injection hx with hx;injection hx with hx;subst hx;exact⟨_,aM,by rw[aq];rfl⟩;exact⟨aB,aS.fU hx br,rfl⟩⟩;exact⟨⟨Q,_,p,d,rfl,aM,dM.et b3 bq (by decide)⟩,bq⟩;refine .rel (λu n=>oM n0 n u c.l) (λu p b h e=>dM.et h e (by decide)) (λn e=>?_) ?_
 ·repeat intro _
  exact⟨by assumption,Ext.refl _⟩
 refine .rel (λu n=>vz n0 n u c.wk) (λu p b h e=>dM.et h e (by decide)) (λn e=>?_) ?_
 ·repeat intro _
  exact⟨by assumption,Ext.refl _⟩
 refine .rel (λu n=>vz n0 n u c.op) (λu p b h e=>dM.et h e (by decide)) (λn e=>?_) ?_
 ·repeat intro _
  exact⟨by assumption,Ext.refl _⟩
 rintro aA W b4 b5 b6 b7 b8 b9 _ ⟨Q,rfl,aw,_⟩ c6 _ c7 _ cn _ _ ⟨_,_,rfl,_⟩;rintro⟨aC,r,p,d,ca,aN,bs⟩;have bt:aC=Q:=by have:=(List.cons.inj ca).1;exact(dQ Addr.block (dH (Value.pointer.inj this))).symm
 subst bt;have W:=ext W;have cb:oM n0 aA b8 c.l:=b9;have cc:vz n0 aA b6 c.wk:=b7;have cd:vz n0 aA b4 c.op:=b5;obtain⟨ka,kc,rfl,aT⟩:=cb.VP B.lI.len;obtain⟨aD,aE,rfl,bu,ce⟩:=cc.row;obtain⟨aF,aG,rfl,bv,cf⟩:=cd.row;have bw:=mj.RB bs;have cg:=b2.trans W;have co:=B.ext W;refine fE.kJ (l0:=[(21,.slice (some ⟨gs,0,none⟩) 5 5),(22,.slice (some ⟨ls,0,none⟩) 5 5),(23,.slice (some ⟨ss,0,none⟩) 5 5),(24,.slice (some ⟨ws,0,none⟩) 5 5),(25,.slice (some ⟨os,0,none⟩) 5 5),(26,.int .i64 g),(27,dJ aC),(28,.slice ka c.l.length kc),(29,.slice aD c.wk.length aE),(30,.slice aF c.op.length aG)]) ⟨rfl,rfl,rfl,rfl,rfl,rfl,rfl,rfl,rfl,rfl,trivial⟩ (fE.pq ?_);have bx:=B.lI.len;have bz:=B.wI.len;have cp:=B.oI.len;have cq:=B.gI.len;refine dT dO ?_;refine .exact (gV c.G p d) (λw e=>fg (e.at_ aN) ⟨rfl,Ext.refl _⟩) ?_;refine .exact (.pointer (some ⟨ss,0+g,none⟩)) (λw _=>eP g D ⟨rfl,Ext.refl _⟩) ?_;refine .exact (.int .i64 c.s) (λw e=>dl (e.cell (W.cell qs)) ⟨rfl,Ext.refl _⟩) ?_;obtain⟨A,hA⟩:∃A,A=lq c.G c.l c.s c.wk c.op:=⟨_,rfl⟩;obtain⟨L,hL⟩:∃L,L=Na c:=⟨_,rfl⟩;have cr:L.length<=52:=by rw[hL];exact Nb bx bz
 have aH:∀(v:di) (p b:dg),GT iA L A v p->Ext p b->GT iA L A v b:=λv p b ⟨x,y,h1,h2⟩ e=>⟨x,y,h1,h2.ext e⟩;have aI:∀(v:di) (p b:dg),JY iA L v p->Ext p b->JY iA L v b:=λv p b ⟨x,y,h1,h2⟩ e=>⟨x,y,h1,h2.ext e⟩;refine .rel (GT iA L A) aH (λn e=>dt (GR (dc:=d) (bw.ext e) (by omega) (aT.row.ext e) aT.nil (by omega) c.s (bu.ext e) (by omega) ce (bv.ext e) (by omega) cf) λu w2 ⟨K,h⟩=>⟨by rw[hL,hA];exact h.res,K⟩) ?_;refine .rel (GT iA L A) aH (λn e u R=>⟨R,Ext.refl _⟩) ?_;refine .rel (JY iA L) aI (λn e u R=>?_) ?_;obtain⟨x,y,rfl,h⟩:=R;exact⟨⟨x,y,rfl,h⟩,Ext.refl _⟩;refine .rel (λu _=>u=.int .i64 A) (λ_ _ _ h _=>h) (λn e u R=>?_) ?_;obtain⟨x,y,rfl,h⟩:=R;exact⟨rfl,Ext.refl _⟩;refine .rel (JY iA L) aI (λn e=>?_) ?_
 ·repeat intro _
  exact⟨by assumption,Ext.refl _⟩
 refine .rel (λu _=>u=.int .i64 A) (λ_ _ _ h _=>h) (λn e=>?_) ?_
 ·repeat intro _
  exact⟨by assumption,Ext.refl _⟩
 rintro c8 aU _ rfl _ ⟨ra,rc,rfl,ch⟩;repeat intro _
 have ci:=cg.trans aU;have F:=W.trans aU;refine fE.kJ (l0:=[(21,.slice (some ⟨gs,0,none⟩) 5 5),(22,.slice (some ⟨ls,0,none⟩) 5 5),(23,.slice (some ⟨ss,0,none⟩) 5 5),(24,.slice (some ⟨ws,0,none⟩) 5 5),(25,.slice (some ⟨os,0,none⟩) 5 5),(26,.int .i64 g),(27,dJ aC),(28,.slice ka c.l.length kc),(29,.slice aD c.wk.length aE),(30,.slice aF c.op.length aG),(31,.slice ra L.length rc),(32,.int .i64 A)]) ⟨rfl,rfl,rfl,rfl,rfl,rfl,rfl,rfl,rfl,rfl,rfl,rfl,trivial⟩ (fE.pq ?_);have O:=B.ext F;refine dT dO ?_;refine .exact (.pointer (some ⟨gs,0+g*7,none⟩)) (λw _=>fl g 7 D ⟨rfl,Ext.refl _⟩) ?_;refine .exact (gV c.G c.da c.dc) (λw e=>eB (vs:=gL c.G c.da c.dc) (λbo v hj=>(F.trans e).cell (qg bo v hj)) ⟨rfl,Ext.refl _⟩) ?_;refine .exact (.pointer (some ⟨ls,0+g,none⟩)) (λw _=>eP g D ⟨rfl,Ext.refl _⟩) ?_;refine .exact (.slice c.la c.l.length c.lc) (λw e=>dl ((F.trans e).cell ql) ⟨rfl,Ext.refl _⟩) ?_;refine .exact (.pointer (some ⟨ss,0+g,none⟩)) (λw _=>eP g D ⟨rfl,Ext.refl _⟩) ?_;refine .exact (.int .i64 c.s) (λw e=>dl ((F.trans e).cell qs) ⟨rfl,Ext.refl _⟩) ?_;refine .exact (.pointer (some ⟨ws,0+g,none⟩)) (λw _=>eP g D ⟨rfl,Ext.refl _⟩) ?_;refine .exact (.slice c.wa c.wk.length c.wc) (λw e=>dl ((F.trans e).cell qw) ⟨rfl,Ext.refl _⟩) ?_;refine .exact (.pointer (some ⟨os,0+g,none⟩)) (λw _=>eP g D ⟨rfl,Ext.refl _⟩) ?_;refine .exact (.slice c.oa c.op.length c.oc) (λw e=>dl ((F.trans e).cell qo) ⟨rfl,Ext.refl _⟩) ?_;refine .rel (GT iA L A) aH (λn e=>dt (GQ (dc:=c.dc) (O.gI.row.ext e) (by omega) (O.lI.row.ext e) (by omega) O.lI.cap c.s (O.wI.row.ext e) (by omega) O.wI.cap (O.oI.row.ext e) (by omega) O.oI.cap) λu w2 ⟨K,h⟩=>⟨by rw[hL,hA];exact h.res,K⟩) ?_;refine .rel (GT iA L A) aH (λn e u R=>⟨R,Ext.refl _⟩) ?_;refine .rel (JY iA L) aI (λn e u R=>?_) ?_;obtain⟨x,y,rfl,h⟩:=R;exact⟨⟨x,y,rfl,h⟩,Ext.refl _⟩;refine .rel (λu _=>u=.int .i64 A) (λ_ _ _ h _=>h) (λn e u R=>?_) ?_;obtain⟨x,y,rfl,h⟩:=R;exact⟨rfl,Ext.refl _⟩;refine .rel (JY iA L) aI (λn e=>?_) ?_
 ·repeat intro _
  exact⟨by assumption,Ext.refl _⟩
 refine .rel (λu _=>u=.int .i64 A) (λ_ _ _ h _=>h) (λn e=>?_) ?_
 ·repeat intro _
  exact⟨by assumption,Ext.refl _⟩
 rintro c9 aV _ rfl _ ⟨cj,ck,rfl,bA⟩;repeat intro _
 have dd:=ci.trans aV;have I:=aU.trans aV;have J:=W.trans I;have ad:=B.ext J;refine fE.kJ (l0:=[(21,.slice (some ⟨gs,0,none⟩) 5 5),(22,.slice (some ⟨ls,0,none⟩) 5 5),(23,.slice (some ⟨ss,0,none⟩) 5 5),(24,.slice (some ⟨ws,0,none⟩) 5 5),(25,.slice (some ⟨os,0,none⟩) 5 5),(26,.int .i64 g),(27,dJ aC),(28,.slice ka c.l.length kc),(29,.slice aD c.wk.length aE),(30,.slice aF c.op.length aG),(31,.slice ra L.length rc),(32,.int .i64 A),(33,.slice cj L.length ck),(34,.int .i64 A)]) ⟨rfl,rfl,rfl,rfl,rfl,rfl,rfl,rfl,rfl,rfl,rfl,rfl,rfl,rfl,trivial⟩ (fE.pq ?_);refine dT dO ?_;refine .exact (.bool false) (λw _=>fV ⟨dQ Value.bool (by simp),Ext.refl _⟩) (mX rfl ?_);refine .exact (.bool true) (λw e=>eD (wu ((ch.ext aV).ext e) (bA.ext e) (by omega)) λw2 K=>⟨rfl,K⟩) ?_;refine .exact (.bool false) (λw _=>eC ⟨rfl,Ext.refl _⟩) (mX rfl ?_);refine .exact (gV c.G p d) (λw e=>fg ((I.trans e).at_ aN) ⟨rfl,Ext.refl _⟩) ?_;refine .exact (.pointer (some ⟨gs,0+g*7,none⟩)) (λw _=>fl g 7 D ⟨rfl,Ext.refl _⟩) ?_;refine .exact (gV c.G c.da c.dc) (λw e=>eB (vs:=gL c.G c.da c.dc) (λbo v hj=>(J.trans e).cell (qg bo v hj)) ⟨rfl,Ext.refl _⟩) ?_;refine .exact (.bool true) (λw e=>eD (zW ((bw.ext I).ext e) (ad.gI.row.ext e) (by omega)) λw2 K=>⟨rfl,K⟩) ?_;refine .exact (.bool false) (λw _=>eC ⟨rfl,Ext.refl _⟩) (mX rfl ?_);refine .exact (.pointer (some ⟨ls,0+g,none⟩)) (λw _=>eP g D ⟨rfl,Ext.refl _⟩) ?_;refine .exact (.slice c.la c.l.length c.lc) (λw e=>dl ((J.trans e).cell ql) ⟨rfl,Ext.refl _⟩) ?_;refine .exact (.bool true) (λw e=>eD (wu ((aT.row.ext I).ext e) (ad.lI.row.ext e) (by omega)) λw2 K=>⟨rfl,K⟩) ?_;refine .exact (.bool false) (λw _=>eC ⟨rfl,Ext.refl _⟩) (mX rfl ?_);refine .exact (.pointer (some ⟨ws,0+g,none⟩)) (λw _=>eP g D ⟨rfl,Ext.refl _⟩) ?_;refine .exact (.slice c.wa c.wk.length c.wc) (λw e=>dl ((J.trans e).cell qw) ⟨rfl,Ext.refl _⟩) ?_;refine .exact (.bool true) (λw e=>dt (tp c.wk c.wk aD c.wa aE c.wc w ((bu.ext I).ext e) (ad.wI.row.ext e) (by omega)) λu w2 ⟨h,K⟩=>⟨by rw[h];simp,K⟩) ?_;refine .exact (.bool false) (λw _=>eC ⟨rfl,Ext.refl _⟩) (mX rfl ?_);refine .exact (.pointer (some ⟨os,0+g,none⟩)) (λw _=>eP g D ⟨rfl,Ext.refl _⟩) ?_;refine .exact (.slice c.oa c.op.length c.oc) (λw e=>dl ((J.trans e).cell qo) ⟨rfl,Ext.refl _⟩) ?_;refine .exact (.bool true) (λw e=>dt (tp c.op c.op aF c.oa aG c.oc w ((bv.ext I).ext e) (ad.oI.row.ext e) (by omega)) λu w2 ⟨h,K⟩=>⟨by rw[h];simp,K⟩) ?_;refine .exact (.bool false) (λw _=>eC ⟨rfl,Ext.refl _⟩) ?_;intro de cl;have aW:=J.trans cl;exact fE.of er (mX rfl (fE.of er (dD ⟨by omega,(),⟨rfl,rfl,rfl,rfl,rfl,rfl,trivial⟩,az.trans aW⟩)))
end Go.Proofs.W
variable{R:Go.dG.dV}{W X:Array di}{K:ej}{P:dq}
namespace Go.Proofs.W
open Go.Conc Go.dG Go.RowKit
noncomputable def RS(L:List Nat)(f:Nat):Bool:=f==163||okF L false (λ_=>false) f
abbrev jW:=Array (Nat×Nat)
def jW.sh(a:jW)(b:Nat):Option Nat:=(a[b]?).map (·.2)
def jW.r(a:jW)(b c:Nat):Prop:=∃n,a[b]? =some (c,n)
def jW.mo{d:jW}(b c e:Nat)(h:d.r b c)(a:d.r b e):c=e:=by obtain⟨n,h⟩:=h;obtain⟨m,a⟩:=a;rw[h]at a;cases a;rfl
def jW.ow{a:jW}(b d c:Nat)(h:a.r b c)(f:a.r d c):b=d\/(a.sh b≠none/\a.sh d≠none):=by obtain⟨n,h⟩:=h;obtain⟨m,f⟩:=f;unfold jW.sh;rw[h,f];exact .inr ⟨λe=>(by cases e),λe=>(by cases e)⟩
noncomputable def Pt(L:List Nat)(a:jW):dV where
 S:=λg=>L.contains g
 dim:=false
 ok:=λf=>gZ V.prog (λg=>L.contains g) false false
 df:=λ_=>false
 fs:=PR.funcs
 hole:=λf=>f==163
 sh:=a.sh
 r:=a.r
 mo:=jW.mo
 ow:=jW.ow
def B4(h:l.all (RS l)=true)(f:Nat)(d:l.contains f=true)(b:f≠163):
 ∃a c,V.prog.funcs[f]? =some a/\a.body=some c/\gZ V.prog (λg=>l.contains g) false false c=true/\(a.name== "runtime.NumGoroutine")=false:=by
 have:=nY.1 h f (by simpa using d);unfold RS at this;rw[show(f==163)=false by simpa using b,Bool.false_or]at this;unfold okF at this;split at this;rename_i a e;split at this;rename_i c i;simp only[eL,xl]at this;exact⟨a,c,e,i,this.1,this.2⟩;cases this;cases this
def Pu:(V.f163.name== "runtime.NumGoroutine")=false:=by kernel_rfl
def Nc:(Tryz.f163.name== "runtime.NumGoroutine")=false:=by kernel_rfl
def Nd:∃c,Tryz.f163.body=some c:=⟨_,xR⟩
def JZ{j:jW}(h:l.all (RS l)=true):Go.dG.Good V.prog (Pt l j):=by
 refine⟨⟨V.zero,λf a=>?_,V.C0,Al _,V.bad⟩,rfl,λf a k=>?_,⟨λf a=>?_⟩,λ⟨f,a⟩=>by cases a⟩;by_cases e:f=163;subst e;exact⟨V.f163,V.wS,V.func163,Pu,rfl⟩;obtain⟨d,c,b,g,_,i⟩:=B4 h f a e;exact⟨d,c,b,i,g⟩;have e:f≠163:=λe=>by subst e;cases k
 obtain⟨d,c,b,g,m,_⟩:=B4 h f a e;exact⟨d,c,b,g,m⟩;by_cases e:f=163;subst e;obtain⟨c,n⟩:=Nd;exact⟨Tryz.f163,c,Tryz.func163,Nc,n,λh=>by cases h⟩;obtain⟨d,c,b,g,_,i⟩:=B4 h f a e;exact⟨d,c,(V.wT f e).symm.trans b,i,g,λ_=>b⟩
noncomputable def Nf(L:List Nat)(df:Nat->Bool)(a:jW):dV where
 S:=λg=>L.contains g
 dim:=false
 ok:=λf=>gZ V.prog (λg=>L.contains g) false (df f)
 df:=df
 fs:=V.prog.funcs
 hole:=λ_=>false
 sh:=a.sh
 r:=a.r
 mo:=jW.mo
 ow:=jW.ow
def Ng(b:R.fs=P.funcs)(h:∀f,R.S f=true->∃a c,P.funcs[f]? =some a/\(a.name== "runtime.NumGoroutine")=false/\a.body=some c):NE P R:=⟨λf e=>by obtain⟨a,c,d,g,i⟩:=h f e;exact⟨a,c,by rw[b];exact d,g,i,λ_=>d⟩⟩
def J0{g:Nat->Bool}{i:jW}(h:l.all (okF l false g)=true):Go.dG.Good V.prog (Nf l g i):=by refine⟨V.fit h,rfl,λf a _=>?_,Ng (by unfold Nf;dsimp only) λf a=>?_,λ_ _=>rfl⟩;obtain⟨b,c,d,e,j,_⟩:=tX h f a;exact⟨b,c,d,e,j⟩;obtain⟨b,c,d,e,_,k⟩:=tX h f a;exact⟨b,c,d,k,e⟩
def runNT_then{b c:Machine}{t d:Trace}(h:runNT P m b t=(.next c,d)):runNT P (m+k) b t=runNT P k c d:=by
 induction m generalizing b t with
 |zero=>
  simp only[runNT]at h;injection h with a e;injection a with a;subst a e;rw[dB]
 |succ m f=>
  rw[show m+1+k=(m+k)+1 from by omega];simp only[runNT]at h⊢;cases g:stepT P b with
  |mk s i=>
   rw[g]at h;cases s with
   |next j=>exact f h
   |ended o w=>simp only at h;injection h with a e;cases a
def Pw(e:Ending)(a:dg):Prop:=e=.returned (.bool true)\/(e=.panicked jm/\Qp a)
def Nh{z:Nat->Bool}(hL:l.all (RS l)=true)(ac:f.all (okF f false z)=true){fn:Func}{tm:Tmp}(hf:V.prog.funcs[K]? =some fn)(ad:fn.results=#[.tmp tm])(s:K≠163)(ae:l.contains K=true)(af:f.contains K=true) (ag:PR.inits.idxOf? K=none){k v:dg}{ws:jW} (t:∀b c n:Nat,ws[b]? =some (c,n)->∃o J,v.heap[b]? =some o/\k.heap[c]? =some J/\∀p:dV,p.r=ws.r->p.sh=ws.sh->RY p n o J)(R:∀p:dV,p.r=ws.r->p.sh=ws.sh->fG p X W) (hC:∀T:Ta,Go.dG.Below v T->Calls V.prog K X (dF v T) Pw):∃N last o q t',runNT PR (N+1) (solo (G (Frame.enter PR K W .normal) []) k) #[]=(.ended o q,t')/\runN PR N (solo (G (Frame.enter PR K W .normal) []) k)=.next last/\Go.step PR last=.ended o q/\
  Go.Conc.Good PR (λx q=>x=.bool true/\Go.RowKit.Below k.heap.size k q) last o q t':=by
 have S:Go.dG.Good V.prog (Pt l ws):=JZ hL;have am:ws.size<=v.heap.size:=Nat.le_of_not_lt λh=>by obtain⟨_,_,y,_⟩:=t v.heap.size _ _ (jp h);exact Nat.lt_irrefl _ (lt_of_heap y)
 have F:∀b,v.heap.size<=b->ws.sh b=none:=λb hb=>by unfold jW.sh;rw[lY (by omega)];rfl
 have H:∀(p:dV),p.r=ws.r->p.sh=ws.sh->∀b c,ws.r b c->∃o J,v.heap[b]? =some o/\k.heap[c]? =some J/\G5 p (ws.sh b) o J:=λp y A b c ⟨n,P⟩=>by obtain⟨o,J,B,h4,h5⟩:=t b c n P;exact⟨o,J,B,h4,.inr ⟨n,by unfold jW.sh;rw[P];rfl,h5 p y A⟩⟩
 have U:Go.dG.Good V.prog (Nf f z ws):=J0 ac;have ev:(V.prog.iC PR.funcs)=PR:=Ot;have I:Inv V.prog ⟨Frame.enter V.prog K X .normal,[floor],v⟩:=by
  have h:Inv V.prog ⟨Frame.enter V.prog K X .normal,[floor],dF v (qf v k)⟩:=
   ⟨Nf f z ws,k,G (Frame.enter (V.prog.iC (Nf f z ws).fs) K W .normal) [],U,λ_=>rfl,WR.qf ⟨H _ rfl rfl,F⟩,rJ U af (R _ rfl rfl) .normal (.inl rfl),⟨[],[],rfl,rfl,.nil⟩,⟨rfl,rfl⟩,⟨rfl,rfl⟩,⟨rfl,rfl⟩⟩
  exact h.dF v.tape
 have C:Go.dG.Reach V.prog (sH K (λx _=>x=.bool true)) ⟨Frame.enter V.prog K X .normal,[floor],v⟩:=by refine qF sH.callers (λc T hi Q=>?_) I λT hT=>?_;rcases Q with Q|⟨y,A,B,h4,h5⟩;exact .inl (Go.dG.Left.dF (λx w T h=>h) c T hi Q);exact .inr ⟨y,A,B,h4,h5.dF T⟩;obtain⟨e,q,fr,Y,Q,Z,hl⟩:=hC T hT [floor];rcases Y with rfl|⟨rfl,Y⟩;obtain⟨n,hn⟩:=Q;exact⟨n,fr,[floor],q,hn,.inl ⟨rfl,Z,_,rfl,hl⟩⟩;obtain⟨n,hn⟩:=Q;exact⟨n,fr,[floor],q,hn,.inr ⟨rfl,Z,hl.1,hl.2.1,Y⟩⟩
 have hI:Cu V.prog PR.funcs k (Pt l ws) (λ_=>False) ⟨Frame.enter V.prog K X .normal,[floor],v⟩ #[G (Frame.enter (V.prog.iC PR.funcs) K W .normal) []] (G (Frame.enter (V.prog.iC PR.funcs) K W .normal) []) k #[] (λ_=>0):=by
  refine⟨I,S,rfl,rfl,⟨rJ S ae (R _ rfl rfl) .normal (.inl rfl),⟨[],[],rfl,rfl,.nil⟩,⟨rfl,rfl⟩,⟨rfl,rfl⟩,⟨rfl,rfl⟩⟩,⟨H _ rfl rfl,F⟩,⟨λi g hi hg=>?_,λj _=>Go.ConcN.Deaf_absent (by simp)⟩,?_,λb h=>h.elim,λ_ _ _ h=>h,λb c P hc=>?_,dC _,λ_ _=>rfl,⟨rfl,rfl,rfl⟩,⟨λg hg=>?_,rfl,λ⟨g,hg⟩=>by cases hg⟩⟩;have:i<1:=(fF.1 hg).1;omega;have h:=past_nil;exact⟨h.clean,λi a ha hm=>by simp[touchAt,Trace.act?]at ha,h.over,h.hears,λop ah=>by simp at ah⟩;obtain⟨n,P⟩:=P;obtain⟨_,_,y,_,A⟩:=t b c n P;obtain⟨cs,fz,_,_,_,rfl,_,B,_⟩:=(A (Pt l ws) rfl rfl).out;exact⟨cs,sP,fz,y,B⟩;have e:g=163:=by have:(g==163)=true:=hg;simpa using this
  subst e;rw[V.func163,show PR.funcs[163]? =some Tryz.f163 from Tryz.func163];intro e;have:=dQ Func.ntmps (dH e);rw[Tryz.ntmps163]at this;cases this
 obtain⟨N,ai,q,aa,t',q',L,O,X',a',r1,D,r3,_⟩:=lead (fs:=PR.funcs) sH.callers (O3 JC s k) _ C _ _ _ _ _ none _ _ hI
 have aj:Go.dG.Left V.prog K (λx _=>x=.bool true) L.fr L.cl L.v:=by
  rcases r3 with h|⟨y,A,B,h4,h5⟩;exact h;exfalso;have E:eu V.prog O L.fr a'.frame:=by
   have u:=D.gor.fr;generalize E:(G L.fr L.cl).frame=fr at u;generalize al:a'.frame=an at u;cases u with
   |fr hf=>subst E;exact hf
   | @hole g hS hh X ao hx=>
    have:L.fr=Frame.enter V.prog g X .normal:=E;rw[this]at B;cases B
  have hm:=E.mode;rw[B]at hm;generalize a'.frame.mode=m at hm;cases hm with
  |panicking hc=>
   unfold jm at hc;cases hc with
   |cons Y _=>
    rcases Y.ok with h|h;exact D.holes.2.2 h;exact h 3 _ _ rfl
 have ak:O.hole K=false:=by
  cases h:O.hole K with
  |false=>rfl
  |true=>
   exfalso;exact D.holes.1 K h (V.wT K s)
 obtain⟨M,last,o,w2,t2,s1,s2,s3,s4⟩:=D.ends (sl:=aa) aj hf ad ak (by rw[ev];exact ag) (Post:=λx q=>x=.bool true/\Go.RowKit.Below k.heap.size k q) λx x' d hx hv=>by subst hx;cases hv;exact⟨rfl,D.world.2.1,D.world.1,D.world.2.2,D.grown,λb hb=>D.kept b hb⟩
 rw[ev]at r1 s1 s2 s3 s4;have ab:runNT PR (N+(M+1)) (solo (G (Frame.enter PR K W .normal) []) k) #[]=(.ended o w2,t2):=(runNT_then r1).trans s1;refine⟨N+M,last,o,w2,t2,ab,?_,s3,s4⟩;have y:runNT PR (N+M) (solo (G (Frame.enter PR K W .normal) []) k) #[]=runNT PR M (crowd ai q aa) t':=runNT_then r1;have A:=runNT_fst PR (N+M) (solo (G (Frame.enter PR K W .normal) []) k) #[];rw[y,runNT_fst,s2]at A;exact A.symm
inductive VW (ws:jW):di->di->Prop
 |bool (b:Bool):VW ws (.bool b) (.bool b)
 |int (k:IntKind) (n:Int):VW ws (.int k n) (.int k n)
 |nil (l c:Nat):VW ws (.slice none l c) (.slice none l c)
 |slice {j b n:Nat} (l c:Nat) (h:ws[j]? =some (b,n)):VW ws (.slice (some ⟨j,0,none⟩) l c) (.slice (some ⟨b,n,none⟩) l c)
def B9{c:Type}(a b:Array c):Prop:=∀(j:Nat) p,a[j]? =some p->b[j]? =some p
def B9.refl{b:Type}(a:Array b):B9 a a:=λ_ _ h=>h
def B9.trans{d:Type}{a b c:Array d}(h:B9 a b)(k:B9 b c):B9 a c:=λj p x=>k j p (h j p x)
theorem B9.push{b:Type}(a:Array b)(x:b):B9 a (a.push x):=λj p h=>by rw[nX,dp (Nat.ne_of_lt (fF.1 h).1)];exact h
def VW.mono{e d:jW}(h:VW e x y)(k:B9 e d):VW d x y:=by
 cases h with
 |bool b=>exact .bool b
 |int a b=>exact .int a b
 |nil l c=>exact .nil l c
 |slice l c h=>exact .slice l c (k _ _ h)
def VW.vr{d:jW}(h:VW d x y){ρ:dV}(e:ρ.r=d.r)(f:ρ.sh=d.sh):VR ρ x y:=by
 cases h with
 |bool b=>exact .bool b
 |int a b=>exact .int a b
 |nil l c=>exact .fW l c
 | @slice j b n l c h=>
  refine .slice l c ?_;have:=AR.mk (ρ:=ρ) (b:=j) (c:=b) 0 none (by rw[e];exact⟨n,h⟩);rw[f,jW.sh,h,dB]at this;exact this
inductive Ca (ws:jW):List di->List di->Prop
 |nil:Ca ws [] []
 |cons {x y:di} {l m:List di} (h:VW ws x y) (t:Ca ws l m):Ca ws (x::l) (y::m)
theorem Ca.length{a:jW}(h:Ca a M Y):M.length=Y.length:=by
 induction h with
 |nil=>rfl
 |cons _ _ b=>simp[b]
def Ca.get{b:jW}(h:Ca b M Y):∀{i:Nat} {x:di},M[i]? =some x->∃y,Y[i]? =some y/\VW b x y:=by
 induction h with
 |nil=>intro i x h;simp at h
 | @cons x y M Y h t c=>
  intro i z a;cases i with
  |zero=>simp at a;subst a;exact⟨y,rfl,h⟩
  |succ i=>simp at a;obtain⟨y,d,e⟩:=c a;exact⟨y,by simpa using d,e⟩
theorem Ca.mono{b a:jW}(h:Ca b M Y)(k:B9 b a):Ca a M Y:=by
 induction h with
 |nil=>exact .nil
 |cons h _ c=>exact .cons (h.mono k) c
def Ca.W8{a:jW}{l m:List di}(h:Ca a l m)(b:R.r=a.r)(c:R.sh=a.sh):fG R l.toArray m.toArray:=by
 refine fG.kT ?_;simp only;induction h with
 |nil=>exact .nil
 |cons h _ d=>exact .cons (h.vr b c) d
theorem Ca.self{a:jW}:∀{l:List di},(∀x∈l,VW a x x)->Ca a l l
 |[],_=>.nil
 |x::l,h=>.cons (h x (by simp)) (Ca.self λy b=>h y (by simp[b]))
structure Seen(W:dg)(ws:jW)(vs:Array (Array di)):Prop where
 size:vs.size=ws.size
 at_:∀(j b n:Nat),ws[j]? =some (b,n)->∃cs rI t fz,vs[j]? =some cs/\W.heap[b]? =some (.cells rI t fz)/\∀(i:Nat) x,cs[i]? =some x->∃y,rI[i+n]? =some y/\VW ws x y
def EQ(c:Array (Array di))(a:Option Addr)(d:List di):Prop:=∀(k:Nat) x,d[k]? =some x->∃j b,a=some ⟨j,0,none⟩/\c[j]? =some b/\b[k]? =some x
def EQ.mono{c b:Array (Array di)}(h:EQ c a M)(k:B9 c b):EQ b a M:=λi x d=>by obtain⟨j,e,f,g,l⟩:=h i x d;exact⟨j,e,f,k _ _ g,l⟩
def Seen.none(W:dg):Seen W #[] #[]:=⟨rfl,λj b n h=>by simp at h⟩
theorem Seen.add{d:jW}{u:Array (Array di)}(h:Seen w d u)(o p:Nat)(z:Ca d M Y) (L:∀s,a=some s->s.spot=.none/\(∃x,w.shape? s.block=some x)/\∀(i:Nat) y,Y[i]? =some y->w.cell? (s.add i)=some y)(N:a=.none->M=[]):∃q r A,Seen w q r/\B9 d q/\B9 u r/\VW q (.slice A o p) (.slice a o p)/\EQ r A M/\(A=.none->a=.none):=by
 cases a with
 |none=>
  obtain rfl:=N rfl;exact⟨d,u,.none,h,.refl _,.refl _,.nil _ _,λk x g=>by simp at g,λh=>h⟩
 |some s=>
  obtain⟨b,l,I⟩:=s;obtain⟨rfl,⟨x,g⟩,O⟩:=L _ rfl;obtain⟨B,t,C,J⟩:∃B t C,w.heap[b]? =some (.cells B t C):=by simp only[World.shape?]at g;split at g;rename_i c e f h;exact⟨c,e,f,h⟩;cases g
  have D:=B9.push d (b,l);have P:(d.push (b,l))[d.size]? =some (b,l):=by simp
  have K:(u.push M.toArray)[d.size]? =some M.toArray:=by simp[<-h.size]
  refine⟨d.push (b,l),u.push M.toArray,some ⟨d.size,0,.none⟩,⟨by simp[h.size],λj c n m=>?_⟩,D,B9.push _ _,.slice o p P,λk x g=>⟨d.size,_,rfl,K,by simpa using g⟩,λe=>by cases e⟩;rw[nX]at m;split at m;rename_i e;subst e;cases m;refine⟨M.toArray,B,t,C,K,J,λi x g=>?_⟩;obtain⟨y,E,F⟩:=z.get (i:=i) (x:=x) (by simpa using g);have v:=O i y E;rw[iK]at v;simp only[World.cell?,J]at v;refine⟨y,?_,F.mono D⟩;rw[Nat.add_comm];simpa using v;obtain⟨G,H,Q,R,E,F,v⟩:=h.at_ j c n m;refine⟨G,H,Q,R,B9.push _ _ _ _ E,F,λi x g=>?_⟩;obtain⟨y,S,T⟩:=v i x g;exact⟨y,S,T.mono D⟩
def Ni(b:Array (Array di))(w:dg):Prop:=∀(j:Nat) a,b[j]? =some a->w.heap[j]? =some (.cells a sP (0,a.size))
def EQ.cell{b:Array (Array di)}(h:EQ b a M)(c:Ni b w)(k:Nat)(d:M[k]? =some x):∃j,a=some ⟨j,0,.none⟩/\w.cell? ⟨j,k,.none⟩=some x:=by obtain⟨j,e,f,g,i⟩:=h k x d;exact⟨j,f,by simp only[World.cell?,c j e g];simpa using i⟩
def J1{k:Nat->Bool}(H:l.all (RS l)=true)(m:f.all (okF f false k)=true){E:Func}{tm:Tmp}(I:V.prog.funcs[K]? =some E)(p:E.results=#[.tmp tm])(c:K≠163)(q:l.contains K=true)(s:f.contains K=true) (u:PR.inits.idxOf? K=none){ws:jW}{z:Array (Array di)}(J:Seen w ws z){xs args:Array di}(A:∀g:dV,g.r=ws.r->g.sh=ws.sh->fG g xs args)
 (L:∀B:dg,Ni z B->Calls V.prog K xs B (uA λv a=>v=.bool true/\Ext B a)):
 ∃N last o a F,runNT PR (N+1) (solo (G (Frame.enter PR K args .normal) []) w) #[]=(.ended o a,F)/\runN PR N (solo (G (Frame.enter PR K args .normal) []) w)=.next last/\Go.step PR last=.ended o a/\Go.Conc.Good PR (λx a=>x=.bool true/\Go.RowKit.Below w.heap.size w a) last o a F:=by
 refine Nh (v:={w with heap:=z.map λd=>.cells d sP (0,d.size)}) (ws:=ws) H m I p c q s u (λj b n C=>?_) A λT Y=>?_;obtain⟨d,M,t,Z,O,P,Q⟩:=J.at_ j b n C;refine⟨.cells d sP (0,d.size),_,by simp[O],P,λg R D=>⟨_,_,_,_,_,rfl,rfl,λo S=>⟨gu _,S⟩,λi x U=>?_⟩⟩;obtain⟨y,W,X⟩:=Q i x U;exact⟨y,W,X.vr R D⟩;refine(L _ λj d C=>?_).mono λe a h=>?_;simp[dF,C];rcases h with⟨v,rfl,rfl,_⟩|h;exact .inl rfl;exact .inr h
end Go.Proofs.W
namespace Go.Proofs.YteeagjkaflglpaaGreat
open Go.ChangeShapes Go.WideShapes Go.ChangeAt Go.RowKit Go.Conc Go.Proofs.W Go.Deep
section
variable{H:Type}{enc:dn×di->H}{w:dg}{sp:Nat->Bool}{b0:Nat}
structure Given{α:Type}(w:dg)(f:α->List di)(a:Option Addr)(cap:Nat)(xs:List α):Prop where
 cap:xs.length<=cap
 len:xs.length<=9223372036854775807
 nil:a=none->xs=[]
 at_:∀ad,a=some ad->ad.spot=none/\(∃x,w.shape? ad.block=some x)/\∀(i:Nat) y,(xs.flatMap f)[i]? =some y->w.cell? (ad.add i)=some y
def rF{α:Type} [Inhabited α]{f:α->List di}{n:Nat}{t e:dn}(C:0<n)(q:∀x,(f x).length=n)(E:Tryz.prog.underlying t=some (.slice e))(M:Tryz.prog.cellsOf e=n) (r:∀{k:Nat} {s:List di} {x:DataW H×List MemPlace},DataW.trod enc Tryz.prog w 0 sp true k e s=some x->∃y,s=f y){v:di}{o:Nat}{x:DataW H×List MemPlace}(u:Value.okWide Tryz.prog w .any b0 t v)(h:DataW.trod enc Tryz.prog w 0 sp true o t [v]=some x):∃a g F,v=.slice a F.length g/\Given w f a g F:=by
 rcases open_slice E h with⟨d,_⟩|⟨a,b,g,m,k,D,W,d,_,N,O,z,_,P⟩;have d:=(List.cons.inj d).1;exact⟨none,0,[],d,⟨gu _,gu _,λ_=>rfl,λQ e=>by cases e⟩⟩;have d:=(List.cons.inj d).1;subst d;obtain⟨R,S⟩:=Ip E u;have T:b<=m:=by rw[z];split<;>omega
 obtain⟨X,U⟩:=choose_lt (α:=α) (n:=b) (p:=λi y=>w.cells? 0 (a.add (i*n)) n=some (f y)) λi A=>by obtain⟨s,d,V⟩:=P i (by omega);obtain⟨y,rfl⟩:=r V;rw[M]at d;exact⟨y,d⟩
 have c:((List.range b).map X).length=b:=by simp
 refine⟨some a,g,(List.range b).map X,by rw[c],⟨by rw[c];exact N,by rw[c];simp only[maxLen]at O;omega,λe=>(by cases e),λQ e=>?_⟩⟩;cases e;refine⟨R,S,λi y G=>?_⟩;have A:=(je.1 G).1;rw[rD q,c]at A;have I:i/n<b:=(Nat.div_lt_iff_lt_mul C).2 A;have J:=Nat.mod_lt i C;have j:=Nat.div_add_mod i n;rw[Nat.mul_comm]at j;obtain⟨_,_,l⟩:=World.cells?_some (U (i/n) I);have K:=l (i%n) J;rw[add_add,j]at K;rw[K];have B:i%n<(f ((List.range b).map X)[i/n]).length:=by rw[q];exact J
 have L:=rE q ((List.range b).map X) (i/n) (by rw[c];exact I) (i%n) _ (fI B);rw[j,G]at L;rw[dH L];simp only[List.getElem_map,List.getElem_range];exact fI _
def zB{t:dn}{k:Nat}{d:List di}{x:DataW H×List MemPlace}(j:Tryz.prog.underlying t=some (.struct (Tryz.prog.fieldsOf t)))(h:DataW.trod enc Tryz.prog w 0 sp true k t d=some x){l:List (dn×Nat)}(m:(Tryz.prog.fieldsOf t).toList.map (λf=>(f.type,f.offset))=l)(i:Nat){u:dn}{o:Nat}(e:l[i]? =some (u,o)):
 ∃k y,DataW.trod enc Tryz.prog w 0 sp true k u ((d.drop o).take (Tryz.prog.cellsOf u))=some y:=by
 obtain⟨p,n,_,_,q,b,r⟩:=DataW.trod_struct j h;subst m;rw[sn]at e;obtain⟨g,a,s⟩:=ix.1 e;have a:(Tryz.prog.fieldsOf t)[i]? =some g:=by simpa using a
 have c:i<p.length:=by rw[b];exact(fF.1 a).1
 have:=r i g a;rw[fI c]at this;cases s;exact⟨n,_,this⟩
def RD:Tryz.prog.cellsOf 4=1:=by kernel_rfl
def Ii:Tryz.prog.cellsOf 84=3:=by kernel_rfl
def Ij:Tryz.prog.cellsOf 81=3:=by kernel_rfl
def Px:Tryz.prog.cellsOf 24=7:=by kernel_rfl
def Py:Tryz.prog.cellsOf 22=1:=by kernel_rfl
def Ik:Tryz.prog.underlying 84=some (.struct (Tryz.prog.fieldsOf 84)):=by kernel_rfl
def Il:Tryz.prog.underlying 81=some (.struct (Tryz.prog.fieldsOf 81)):=by kernel_rfl
def uJ:Tryz.prog.underlying 24=some (.struct (Tryz.prog.fieldsOf 24)):=by kernel_rfl
def Qx:Tryz.prog.underlying 22=some (.slice 81):=by kernel_rfl
def Qy:Tryz.prog.underlying 25=some (.slice 84):=by kernel_rfl
def GU:(Tryz.prog.fieldsOf 84).toList.map (λf=>(f.type,f.offset))=[(3,0),(3,1),(4,2)]:=by kernel_rfl
def GV:(Tryz.prog.fieldsOf 81).toList.map (λf=>(f.type,f.offset))=[(3,0),(3,1),(3,2)]:=by kernel_rfl
def tB:(Tryz.prog.fieldsOf 24).toList.map (λf=>(f.type,f.offset))=[(3,0),(3,1),(3,2),(3,3),(3,4),(3,5),(22,6)]:=by kernel_rfl
def nS{k i o:Nat}{t:dn}{a:List di}{x:DataW H×List MemPlace}(c:Tryz.prog.underlying t=some (.struct (Tryz.prog.fieldsOf t)))(h:DataW.trod enc Tryz.prog w 0 sp true k t a=some x){l:List (dn×Nat)}(d:(Tryz.prog.fieldsOf t).toList.map (λf=>(f.type,f.offset))=l)(e:l[i]? =some (3,o)):∃n,a[o]? =some (.int .i64 n):=by obtain⟨k,y,g⟩:=zB c h d i e;obtain⟨n,b,_⟩:=DataW.trod_int Tryz.Io g;rw[Tryz.Ki]at b;refine⟨n,?_⟩;have j:=dQ (λl:List di=>l[0]?) b;simpa using j
def GW{t:dn}{k:Nat}{b:List di}{x:DataW H×List MemPlace}(c:Tryz.prog.underlying t=some (.struct (Tryz.prog.fieldsOf t)))(h:DataW.trod enc Tryz.prog w 0 sp true k t b=some x):b.length=Tryz.prog.cellsOf t:=by obtain⟨d,n,_,_,a,_⟩:=DataW.trod_struct c h;exact a
def Nj{k:Nat}{d:List di}{x:DataW H×List MemPlace}(h:DataW.trod enc Tryz.prog w 0 sp true k 84 d=some x):∃q:Tq,d=pj q:=by
 obtain⟨a,f⟩:=nS Ik h GU (i:=0) rfl;obtain⟨b,g⟩:=nS Ik h GU (i:=1) rfl;obtain⟨m,y,l⟩:=zB Ik h GU 2 rfl;obtain⟨c,e,_⟩:=DataW.trod_bool Tryz.RX l;have j:=GW Ik h;rw[Ii]at j;rw[RD]at e;match d,j with
 |[u,v,z],_=>
  simp at f g e;exact⟨⟨a,b,c⟩,by simp[pj,f,g,e]⟩
def J2{k:Nat}{d:List di}{x:DataW H×List MemPlace}(h:DataW.trod enc Tryz.prog w 0 sp true k 81 d=some x):∃q:Dr,d=dL q:=by
 obtain⟨a,e⟩:=nS Il h GV (i:=0) rfl;obtain⟨b,f⟩:=nS Il h GV (i:=1) rfl;obtain⟨c,g⟩:=nS Il h GV (i:=2) rfl;have j:=GW Il h;rw[Ij]at j;match d,j with
 |[u,v,z],_=>
  simp at e f g;exact⟨⟨a,b,c⟩,by simp[dL,e,f,g]⟩
instance:Inhabited Tq:=⟨⟨0,0,false⟩⟩
instance:Inhabited Dr:=⟨⟨0,0,0⟩⟩
def tC{v:di}{d:DataW H}{p:List MemPlace}(c:Value.okWide Tryz.prog w .any b0 27 v)(h:DataW.Trod enc Tryz.prog w 0 sp true 27 v d p):∃a b e,v=.slice a e.length b/\Given w iL a b e:=by obtain⟨a,g,b,rfl⟩:=okWide_slice Tryz.vF c;obtain⟨k,h⟩:=h;exact rF (f:=iL) (n:=1) (by decide) (λ_=>rfl) Tryz.vF Tryz.Ki (λh=>by obtain⟨n,i,_⟩:=DataW.trod_int Tryz.Io h;exact⟨n,i⟩) c h
def J3{v:di}{d:DataW H}{p:List MemPlace}(c:Value.okWide Tryz.prog w .any b0 25 v)(h:DataW.Trod enc Tryz.prog w 0 sp true 25 v d p):∃a b e,v=.slice a e.length b/\Given w pj a b e:=by obtain⟨a,g,b,rfl⟩:=okWide_slice Qy c;obtain⟨k,h⟩:=h;exact rF (f:=pj) (n:=3) (by decide) (λ_=>rfl) Qy Ii Nj c h
def A0{v:di}(a:Value.okWide Tryz.prog w .any b0 3 v):∃n,v=.int .i64 n:=okWide_int Tryz.Io a
def Pz:Tryz.prog.cellTypes Tryz.prog.depth 24=some [3,3,3,3,3,3,22]:=by kernel_rfl
def B5{v:di}{d:DataW H}{p:List MemPlace}(c:Value.okWide Tryz.prog w .any b0 24 v)(h:DataW.Trod enc Tryz.prog w 0 sp true 24 v d p):∃G a b,v=gV G a b/\Given w dL a b G.doors:=by
 simp only[Value.okWide,uJ]at c;obtain⟨l,rfl,B,O,e,_,g⟩:=c;rw[Pz]at e;cases e;obtain⟨k,h⟩:=h;have h:DataW.trod enc Tryz.prog w 0 sp true k 24 l.toList=some (d,p):=h;obtain⟨C,o⟩:=nS uJ h tB (i:=0) rfl;obtain⟨D,q⟩:=nS uJ h tB (i:=1) rfl;obtain⟨E,r⟩:=nS uJ h tB (i:=2) rfl;obtain⟨F,s⟩:=nS uJ h tB (i:=3) rfl;obtain⟨I,t⟩:=nS uJ h tB (i:=4) rfl;obtain⟨J,x⟩:=nS uJ h tB (i:=5) rfl;obtain⟨P,y,m⟩:=zB uJ h tB 6 rfl;rw[Py]at m;have z:=GW uJ h;rw[Px]at z;obtain⟨l⟩:=l;match l,z with
 |[Q,R,S,T,U,V,A],_=>
  simp at o q r s t x m;subst o q r s t x;obtain⟨u,K,L⟩:=g 6 A rfl;cases K;have j:Value.okWide Tryz.prog w .any b0 22 A:=by simp only[Value.okWide,Qx];exact L
  obtain⟨a,b,M,rfl,N⟩:=rF (f:=dL) (n:=3) (by decide) (λ_=>rfl) Qx Ij J2 j m;exact⟨⟨C,D,E,F,I,J,M⟩,a,b,rfl,N⟩
end
def Given.seen{m:Type}{f:m->List di}{W:dg}{g:Nat}{i:List m}(h:Given W f a g i){o:jW}{p:Array (Array di)}(q:Seen W o p)(r:∀x,∀u∈f x,(∃k n,u=.int k n)\/∃b,u=.bool b):∃c d j,Seen W c d/\B9 o c/\B9 p d/\VW c (.slice j i.length g) (.slice a i.length g)/\EQ d j (i.flatMap f)/\(j=none->i.length=0):=by obtain⟨c,d,j,s,t,v,w,y,z⟩:=q.add (a:=a) i.length g (Ca.self (l:=i.flatMap f) λu A=>by obtain⟨x,_,B⟩:=tH.1 A;rcases r x u B with⟨k,n,rfl⟩|⟨b,rfl⟩;exact .int _ _;exact .bool _) h.at_ (λe=>by rw[h.nil e];rfl);exact⟨c,d,j,s,t,v,w,y,λe=>by rw[h.nil (z e)];rfl⟩
def rG{d:Type}{f:d->List di}{n:Nat}(p:0<n)(c:∀x,(f x).length=n){g:Array (Array di)}{w:dg}{b:List d}(h:EQ g a (b.flatMap f))(l:Ni g w):kM f n w a b:=λk m=>by
 have q:0<(f b[k]).length:=by rw[c];exact p
 obtain⟨j,e,_⟩:=h.cell l (k*n+0) (rE c b k m 0 _ (fI q));refine⟨j,0,e,λi v r=>?_⟩;obtain⟨t,o,s⟩:=h.cell l (k*n+i) (rE c b k m i v r);rw[e]at o;cases o;rw[dB];exact s
def Tl{w:dg}{l:List Dr}(h:kM dL 3 w a l):iv w a l:=λk d=>by obtain⟨b,o,e,c⟩:=h k d;exact⟨b,o,e,c 0 _ rfl,c 1 _ rfl,c 2 _ rfl⟩
def Nk{w:dg}{l:List Int}(h:kM iL 1 w a l):iz w a l:=λk c=>by obtain⟨b,o,e,d⟩:=h k c;have:=d 0 _ rfl;rw[nk]at this;exact⟨b,o,e,this⟩
def PC(x:Dr):∀u∈dL x,(∃k n,u=.int k n)\/∃b,u=.bool b:=λu a=>by simp only[dL,ft,lZ,jN]at a;rcases a with rfl|rfl|rfl<;>exact .inl ⟨_,_,rfl⟩
def B6(x:Int):∀u∈iL x,(∃k n,u=.int k n)\/∃b,u=.bool b:=λu a=>by simp only[iL,ft,lZ,jN]at a;rw[a];exact .inl ⟨_,_,rfl⟩
def Nl(x:Tq):∀u∈pj x,(∃k n,u=.int k n)\/∃b,u=.bool b:=λu a=>by simp only[pj,ft,lZ,jN]at a;rcases a with rfl|rfl|rfl;exact .inl ⟨_,_,rfl⟩;exact .inl ⟨_,_,rfl⟩;exact .inr ⟨_,rfl⟩
def Tm{c:jW}{d:Option Addr}{b:Nat}(h:VW c (.slice d N.doors.length b) (.slice a N.doors.length b)){e:Go.dG.dV}(f:e.r=c.r)(g:e.sh=c.sh):Go.dG.VR e (gV N d b) (gV N a b):=
 Go.dG.fG.agg (Ca.W8 (l:=gL N d b) (m:=gL N a b) (.cons (.int _ _) (.cons (.int _ _) (.cons (.int _ _) (.cons (.int _ _) (.cons (.int _ _) (.cons (.int _ _) (.cons h .nil))))))) f g)
end Go.Proofs.YteeagjkaflglpaaGreat
namespace Go.Proofs.W
open Go.Conc Go.dG Go.RowKit
def UW(f:Nat):Bool:=f==190||f==163
end Go.Proofs.W
namespace Go.Proofs.W
def Nm:List Nat:=[18,26,27,28,29,30,31,34,35,36,37,38,40,41,42,43,44,45,48,49,53,55,58,59,60,69,71,74,75,76,77,78,81,88,93,95,96,97,98,99,104,105,106,107,108,109,110,111,113,114,115,116,117,119,120,121,122,123,125,126,128,129,130,131,133,134,135,136,137,138,139,140,144,146,153,154,155,156,157,158,159,160,161,162,163,164,165,166,167,168,169,170,171,172,173,174,175,176,178,179,180,184,185,186,195,196,197,198,199,200,201,222,231]
def Im:List Nat:=[18,26,27,28,29,30,31,34,35,36,37,38,40,41,42,43,44,45,48,49,53,55,58,59,60,69,71,74,75,76,77,78,81,88,93,95,96,97,98,99,104,105,106,107,108,109,110,111,113,114,115,116,117,119,120,121,122,123,125,126,128,129,130,131,133,134,135,136,137,138,139,140,144,146,153,154,155,156,157,158,159,160,161,162,163,164,165,166,167,168,169,170,171,172,173,174,175,176,178,179,180,184,185,186,190,194,195,196,197,198,199,200,201,215,216,222,227,228,229,231]
def Nn:Nm.all (RS Nm)=true:=by kernel_rfl
def J4:Im.all (okF Im false UW)=true:=by kernel_rfl
end Go.Proofs.W
namespace Go.Proofs.YteeagjkaflglpaaGreat
open Go.ChangeShapes Go.WideShapes Go.ChangeAt Go.RowKit Go.Conc Go.Proofs.W
def J5{H:Type}{a:dn×di->H}(m:laidOutB P=true)(n:Go.RowKit.Below w.heap.size w t){c:List dn}(j:(c.all λk=>P.readableRec k&&decide (k<P.types.size))=true):∀{e:List di} {f:List (DataW H)} {g:List MemPlace},DataW.TrodAll a P w 0 (λ_=>true) true c e f g->(∀x∈g,x.block<w.heap.size)->
 DataW.TrodAll a P t 0 (λb=>decide (b<w.heap.size)) true c e f g:=by
 induction c with
 |nil=>
  intro e f g h _;obtain⟨rfl,rfl,rfl⟩:=trodAll_nil h;exact trodAll_mk0
 |cons k c o=>
  intro e f g h i;obtain⟨v,e,d,f,p,q,rfl,rfl,rfl,r,s⟩:=trodAll_cons h;simp only[List.all_cons,eL,jC]at j;exact⟨_,_,(Below.trod m j.1.1 j.1.2 r n λx l=>i x (List.mem_append_left _ l)),(o (by simpa using j.2) s λx l=>i x (List.mem_append_right _ l)),rfl⟩
def B7(X:Os)(e:X.Started)(H:Type)(enc:dn×di->H):ReturnsInLeavingWide {} Tryz.checked X 18 .any (Rows.roundAfterSpec.pre6 enc Tryz.prog Tryz.f18 Rows.roundAfterRow.domain false) (Rows.roundAfterSpec.post enc Tryz.prog Tryz.f18 false true false false):=by
 refine returnsInLeavingWide_of_change_sized (C:=Tryz.checked) Tryz.own e Tryz.func18 (ChangeSpec.witness6 (enc:=enc) (C:=Tryz.checked) false ⟨#[],#[.agg #[.int .i64 0,.int .i64 0,.int .i64 0,.int .i64 0,.int .i64 0,.int .i64 0,.slice none 0 0],.slice none 0 0,.int .i64 0,.slice none 0 0,.slice none 0 0,.int .i64 0,.slice none 0 0],[]⟩ 8 (by kernel_rfl) (by kernel_rfl) (by kernel_rfl) (by kernel_rfl)) ?_;intro g y args Y gs E i Z _ _ _;have c:∀(j:Nat) t v,Tryz.f18.params[j]? =some t->args[j]? =some v->Value.okWide Tryz.prog g .any y t v:=i;have k:=Z;obtain⟨p,q,J,hV,rfl,_,_⟩:=Z;have hA:DataW.TrodAll enc Tryz.prog g 0 (λ_=>true) true Tryz.f18.params.toList args.toList Y p:=J;have z:Tryz.f18.params=#[24,25,3,27,27,3,27]:=by kernel_rfl
 obtain⟨rfl,rfl⟩:=trodVars_none hV;simp only[List.append_nil]at k;have K:∀x∈p,x.block<g.heap.size:=λx hx=>by simpa using k.lt x hx
 have m:∀(r:dg),Go.RowKit.Below g.heap.size g r->DataW.TrodAll enc Tryz.prog r 0 (λb=>decide (b<g.heap.size)) true Tryz.f18.params.toList args.toList Y p:=
  λr hn=>J5 Tryz.laidOut hn (by kernel_rfl) hA K
 have a:=hA;rw[z]at a c;obtain⟨v0,l,d0,k0,p0,q,e0,rfl,_,h0,a⟩:=trodAll_cons a;obtain⟨v1,l,d1,k1,p1,q,rfl,rfl,_,h1,a⟩:=trodAll_cons a;obtain⟨v2,l,d2,k2,p2,q,rfl,rfl,_,h2,a⟩:=trodAll_cons a;obtain⟨v3,l,d3,k3,p3,q,rfl,rfl,_,h3,a⟩:=trodAll_cons a;obtain⟨v4,l,d4,k4,p4,q,rfl,rfl,_,h4,a⟩:=trodAll_cons a;obtain⟨v5,l,d5,k5,p5,q,rfl,rfl,_,h5,a⟩:=trodAll_cons a;obtain⟨v6,l,d6,k6,p6,q,rfl,rfl,_,h6,a⟩:=trodAll_cons a;obtain⟨rfl,rfl,_⟩:=trodAll_nil a;have ea:args=#[v0,v1,v2,v3,v4,v5,v6]:=by cases args;simp_all
 subst ea;obtain⟨G,da,dc,rfl,g0⟩:=B5 (c 0 24 v0 rfl rfl) h0;obtain⟨la,lc,l,rfl,L⟩:=J3 (c 1 25 v1 rfl rfl) h1;obtain⟨s,rfl⟩:=A0 (c 2 3 v2 rfl rfl);obtain⟨wa,wc,wk,rfl,N⟩:=tC (c 3 27 v3 rfl rfl) h3;obtain⟨oa,oc,op,rfl,O⟩:=tC (c 4 27 v4 rfl rfl) h4;obtain⟨u,rfl⟩:=A0 (c 5 3 v5 rfl rfl);obtain⟨na,nc,ns,rfl,g6⟩:=tC (c 6 27 v6 rfl rfl) h6;obtain⟨aa,ab,P,S0,_,_,W0,R0,N0⟩:=g0.seen (Seen.none g) PC;obtain⟨ac,ad,Q,S1,P1,Q1,W1,R1,N1⟩:=L.seen S0 Nl;obtain⟨ae,af,R,S3,P3,Q3,W3,R3,N3⟩:=N.seen S1 B6;obtain⟨ag,ah,S,S4,T,U,W4,R4,N4⟩:=O.seen S3 B6;obtain⟨ai,aj,W,S6,F,I,W6,R6,N6⟩:=g6.seen S4 B6
 obtain⟨M,last,o,w',t',r1,r2,r3,r4⟩:=J1 Nn J4 (V.fn Tryz.func18 (by decide)) (tm:=14) (by kernel_rfl) (by decide) (by decide) (by decide) (by kernel_rfl) S6
  (xs:=#[gV G P dc,.slice Q l.length lc,.int .i64 s,.slice R wk.length wc,.slice S op.length oc,.int .i64 u,.slice W ns.length nc]) (args:=#[gV G da dc,.slice la l.length lc,.int .i64 s,.slice wa wk.length wc,.slice oa op.length oc,.int .i64 u,.slice na ns.length nc]) (λρ A B=>Go.dG.fG.kT (.cons (Tm (W0.mono (((P1.trans P3).trans T).trans F)) A B) (.cons ((W1.mono ((P3.trans T).trans F)).vr A B) (.cons (.int _ _) (.cons ((W3.mono (T.trans F)).vr A B) (.cons ((W4.mono F).vr A B) (.cons (.int _ _) (.cons (W6.vr A B) .nil))))))))
  (λw D=>B3 (Tl (rG (f:=dL) (n:=3) (by decide) (λ_=>rfl) (R0.mono (((Q1.trans Q3).trans U).trans I)) D)) g0.len (rG (f:=pj) (n:=3) (by decide) (λ_=>rfl) (R1.mono ((Q3.trans U).trans I)) D) L.len L.cap N1 s
   (Nk (rG (f:=iL) (n:=1) (by decide) (λ_=>rfl) (R3.mono (U.trans I)) D)) N.len N.cap (Nk (rG (f:=iL) (n:=1) (by decide) (λ_=>rfl) (R4.mono I) D)) O.len O.cap u (Nk (rG (f:=iL) (n:=1) (by decide) (λ_=>rfl) R6 D)) g6.len)
 refine⟨M,last,o,w',t',r1,r2,r3,r4.mono λv hF=>?_⟩;obtain⟨rfl,d⟩:=hF;exact⟨_,_,_,[],p,[],k,trodAll_mk1 (Go.RowKit.shut_bool Tryz.RX true),m _ d,rfl,d.frame _,λh=>by cases h⟩
def J6:Tryz.pinned.checked.prog.funcNamed Rows.roundAfterRow.func=some 18:=by kernel_rfl
def No:Tryz.f18.isInstance Tryz.pinned.checked.prog Rows.roundAfterRow.origin Rows.roundAfterRow.targs:=eA (by kernel_rfl)
def Np:Tryz.f18.isWrapper Tryz.pinned.checked.prog Rows.roundAfterRow.wrapper Rows.roundAfterRow.mainSum:=by unfold Func.isWrapper;first|(rw[dr (by decide+kernel)];kernel_rfl)|(rw[dp (by decide+kernel)];exact⟨rfl,rfl⟩)
def roundAfter_holds:Rows.RoundAfterSaid:=
 OpenClaim.holds_of_wide_leaving 18 Tryz.f18 rfl rfl rfl rfl rfl rfl rfl ⟨rfl,rfl,rfl,rfl,rfl⟩ rfl rfl rfl rfl rfl J6 Tryz.func18 EU No Np (λc a H b _=>B7 c a H b)
#print axioms roundAfter_holds
end Go.Proofs.YteeagjkaflglpaaGreat
