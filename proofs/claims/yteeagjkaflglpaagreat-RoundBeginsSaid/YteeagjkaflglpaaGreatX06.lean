/- Laws that the proof needs, part 6. Conditions: none. -/
import Derived.Test.YteeagjkaflglpaaGreatX05
set_option maxRecDepth 100000
set_option maxHeartbeats 8000000
set_option linter.all false
variable{m k i j o p s d:Nat}{w t e:cJ}{x y z:cK}{A B C:Nat->Prop}{l f:List Nat}{T U:cR}{a:Option Go.Addr}{H N:Go.Proofs.W.Gd}{W X:Array cK}{I J:Int}{D E:Bool}{K:dZ}{S:cJ->Prop}{P:cU}
namespace Go.Proofs.W
open Go.RowKit
def gT(n a b:Int)(w:cJ):Calls V.prog 110 #[.int .i64 n,.int .i64 a,.int .i64 b] w (fO λv c=>v=.bool (kT n a b)/\c=w):=by refine jd Tryz.func110 Tryz.ntmps110 ?_;refine oP ⟨λh=>oP ⟨_,rfl,?_,rfl⟩,λh=>⟨_,rfl,?_,rfl⟩⟩<;>simp[kT,h]
def NX(l:List Int)(x:Int)(g:Option Addr)(i:Nat)(w:cJ)(m:iF w g l)(j:l.length<=100000):Calls V.prog 138 #[.slice g l.length i,.int .i64 x] w (fO λv f=>v=.int .i64 (sC x l 0)/\f=w):=by refine jd Tryz.func138 Tryz.ntmps138 ?_;refine fc l.length (λk (_:Unit)=>[(0,.slice g l.length i),(1,i64 x),(5,i64 k)]) (λk _ f=>f=w/\sC x l 0=sC x (l.drop k) k) () ⟨by trivial,rfl,rfl⟩ ?_;rintro k _ f p ⟨rfl,c⟩;refine dm (dN ⟨λa=>?_,λd=>?_⟩);have a:k<l.length:=fB a;obtain⟨b,o,rfl,n⟩:=m k a;rw[CR x l k a]at c;refine eX k a (cP n (eZ ⟨λh=>?_,λh=>?_⟩));have h:x=l[k]:=(fx h).symm;exact⟨_,rfl,by rw[c,cV h];rfl,rfl⟩;have h:¬x=l[k]:=λe=>ie h e.symm;rw[cS h]at c;exact cY ⟨a,(),by trivial,rfl,c⟩;have d:¬k<l.length:=fB d;rw[List.drop_eq_nil_of_le cM]at c;exact⟨_,rfl,by rw[c];rfl,rfl⟩
variable{G:Gd}{da:Option Addr}{dc:Nat}{w:cJ}
def J8(I:gZ w da G.doors)(E:G.doors.length<=100000):Calls V.prog 88 #[gV G da dc] w (fO λv q=>v=.int .i64 (eo G)/\Ext w q):=by
 refine TL Tryz.func88 Tryz.ntmps88 (dX.seq dB ?_);refine eJ λt F d J c=>?_;have a:∀{b:Bool},lj G=false->∃v,Ending.returned (one [Value.int .i64 1])=.returned v/\v=Value.int .i64 (eo G)/\Ext w t:=λh=>⟨_,rfl,by simp[eo,h],d⟩;refine dX.iu (dX.iu (mJ.start (mJ.Cc 36 dB ?_)));refine cP (cO c rfl) (dF (gT _ _ _ _) (eK ⟨λh=>mJ.fin (dX.of dB (ko rfl (a (b:=true) (by simp at h;simp[lj,h])))),λf=>?_⟩));refine cP (cO c rfl) (dF (gT _ _ _ _) (eK ⟨λh=>mJ.fin (dX.of dB (ko rfl (a (b:=true) (by simp at h;simp[lj,h])))),λr=>?_⟩));refine cP (cO c rfl) (dF (gT _ _ _ _) (eK ⟨λh=>mJ.fin (dX.of dB (ko rfl (a (b:=true) (by simp at h;simp[lj,h])))),λs=>?_⟩));refine cP (cO c rfl) (dF (gT _ _ _ _) (eK ⟨λh=>mJ.fin (dX.of dB (ko rfl (a (b:=true) (by simp at h;simp[lj,h])))),λK=>?_⟩));refine cP (cO c rfl) (dF (gT _ _ _ _) (eK ⟨λh=>mJ.fin (dX.of dB (ko rfl (a (b:=true) (by simp at h;simp[lj,h])))),λL=>?_⟩));refine cP (cO c rfl) (cP (cO c rfl) (dF (gT _ _ _ _) (eK (mJ.fin (dX.of dB ⟨λh=>(a (b:=true) (by simp at h;simp[lj,h])),λM=>?_⟩)))));have S: -1000000<=G.streets/\G.streets<=1000000:=by simp[kT]at f;omega
 have H:lj G=true:=by simp at f r s K L M;simp[lj, *]
 refine dX.jJ (l0:=[(1,dQ F)]) (by trivial) (dX.of dB ?_);refine(cP (cO c rfl) (dm (mI ⟨λh=>⟨_,rfl,by simp at h;simp[eo,H,h],d⟩,λu=>?_⟩)));have u:¬(5:Int)<G.doors.length:=fB u;have x:eo G=mS G.streets G.doors:=by simp[eo,H,u]
 refine fc G.doors.length (λk (_:Unit)=>[(1,dQ F),(3,i64 k)]) (λk _ q=>Ext t q/\eo G=mS G.streets (G.doors.drop k)) () ⟨by trivial,Ext.refl _,by rw[x];rfl⟩ ?_;rintro k _ q m ⟨e,g⟩;refine cP (cO (e.at_ c) rfl) (dm (dN ⟨λy=>?_,λn=>?_⟩));have m:k<G.doors.length:=fB y;have⟨b,o,z,N,A,O⟩:=(I.ext (d.trans e)) k m;rw[yy _ _ k m]at g;refine cP (cO (e.at_ c) rfl) ?_;subst z;refine fH k 3 m (ez (vs:=dL G.doors[k]) (λj v i=>?_) (eU λT U P B C=>dI C λQ R l=>?_));match j,i with
 |0,i=>cases i;exact N
 |1,i=>cases i;exact A
 |2,i=>cases i;exact O
 have p:Ext t Q:=(e.trans P).cT R (du e.size B);have D:=p.at_ c;refine cP (cO l rfl) (cP (cO D rfl) (fI (dF (gT _ _ _ _) (eK ⟨λh=>?_,λf=>?_⟩))));exact⟨_,rfl,by simp at h;rw[g];simp[oQ,h],d.trans p⟩;simp at f;refine cP (cO l rfl) (dF (gT _ _ _ _) (eK ⟨λh=>?_,λr=>?_⟩));exact ko rfl ⟨_,rfl,by simp at h;rw[g];simp[oQ,f,h],d.trans p⟩;simp at r;refine cP (cO l rfl) (dF (gT _ _ _ _) (eK ⟨λh=>?_,λs=>?_⟩));exact⟨_,rfl,by simp at h;rw[g];simp[oQ,f,h],d.trans p⟩;simp at s;exact cY ⟨m,(),by trivial,p,by rw[g];simp[oQ,f,r,s]⟩;have n:¬k<G.doors.length:=fB n;rw[List.drop_eq_nil_of_le cM]at g;exact⟨_,rfl,by rw[g];rfl,d.trans e⟩
structure Td where
 opened:Bool
 times:Int
 mornings:Int
 evenings:Int
 day:Int
def IC(t:Td):dP:=[.bool t.opened,.int .i64 t.times,.int .i64 t.mornings,.int .i64 t.evenings,.int .i64 t.day]
def sv:Td:=⟨false,0,0,0,-1⟩
def On(t:Td)(q:Tq):Td:=⟨t.opened||q.opened,t.times+1,if q.shift.toNat%2=0 then t.mornings+1 else t.mornings,if q.shift.toNat%2=0 then t.evenings else t.evenings+1,((q.shift.toNat/2:Nat):Int)⟩
def sx(d:Int):Td->List Tq->Td
 |t,[]=>t
 |t,q::r=>sx d (if q.door=d then On t q else t) r
theorem wO(d:Int)(q:Tq):∀(l:List Tq) (t:Td),sx d t (l++[q])=if q.door=d then On (sx d t l) q else sx d t l
 |[],t=>rfl
 |p::r,t=>wO d q r _
def TV(k:Nat)(t:Td):Prop:=(0<=t.times/\t.times<=k)/\(0<=t.mornings/\t.mornings<=k)/\0<=t.evenings/\t.evenings<=k
theorem TV.step{k:Nat}{t:Td}(h:TV k t)(d:Int)(q:Tq):TV (k+1) (if q.door=d then On t q else t):=by have⟨a,b,c⟩:=h;split;unfold TV On;refine⟨⟨by simp only;omega,by simp only;omega⟩,?_,?_⟩<;>simp only<;>split<;>omega;exact⟨cM,cM,cM⟩
theorem xV(d:Int)(l:List Tq):TV l.length (sx d sv l):=by
 have h:∀(l:List Tq) (k:Nat) (t:Td),TV k t->TV (k+l.length) (sx d t l):=by
  intro l;induction l with
  |nil=>exactλk t h=>h
  |cons q r a=>
   intro k t h;have:=a (k+1) _ (h.step d q);rw[fa,show k+(r.length+1)=k+1+r.length by omega];exact this
 have:=h l 0 sv ⟨⟨kg,kg⟩,⟨kg,kg⟩,kg,kg⟩;rwa[dn]at this
theorem rZ{l:List Tq}{G:Option Addr}{lc:Nat}{w:World}(hr:kz w G l)(W:l.length<=100000)(hs:∀q∈l,0<=q.shift/\q.shift<=1000)(d:Int):
 Calls V.prog 140 #[.slice G l.length lc,.int .i64 d] w (fO λv u=>v=.agg (IC (sx d sv l)).toArray/\Ext w u):=by
 refine jd Tryz.func140 Tryz.ntmps140 ?_
 refine eU λw1 C Y aa x=>eC (.agg (IC sv).toArray) (eU λw2 D Z ab H=>dI H λw3 k3 i=>?_)
 have ac:=Y.size
 have e:¬C=D:=iI (dA.lt_of_heap x)
 have I:=k3.fN (Z.at_ x) e
 have i:w3.heap[D]? =some (.cells (IC sv).toArray 173):=i
 have E3:Ext w w3:=(Y.trans Z).cT k3 cM
 refine fc l.length (λk (_:Unit)=>[(0,.slice G l.length lc),(1,.int .i64 d),(4,dj C),(5,dj D),(6,.int .i64 k)]) (λk _ u=>Ext w u/\u.heap[C]? =some (.cells (pJ 173).toArray 173)/\u.heap[D]? =some (.cells (IC (sx d sv (l.take k))).toArray 173)) () ⟨⟨rfl,rfl,rfl,rfl,rfl,trivial⟩,E3,I,i⟩ ?_
 rintro k _ w4 g ⟨y,p,f⟩
 refine dm (dN ⟨λJ=>?_,λz=>?_⟩)
 ·have g:k<l.length:=fB J
  have⟨b,o,K,E⟩:=hr k g
  have⟨h0,h6⟩:=hs _ (List.getElem_mem g)
  have L:TV k (sx d sv (l.take k)):=by have:=xV d (l.take k);rwa[List.length_take,Nat.min_eq_left cM]at this
  have c:=wO d l[k] (l.take k) sv
  rw[<-List.take_succ_eq_append_getElem g]at c
  subst K
  have⟨t,M⟩:∃t:Nat,l[k].shift=t:=⟨l[k].shift.toNat,cM⟩
  refine fH k 3 g (cP (y.cell (E 0 _ rfl)) (gP ⟨λh=>?_,λh=>?_⟩))
  ·have h:¬l[k].door=d:=of_decide_eq_true h
   rw[if_neg h]at c
   exact cY ⟨g,(),⟨rfl,rfl,rfl,rfl,rfl,trivial⟩,y,p,by rw[c];exact f⟩
  have h:l[k].door=d:=fB (of_decide_eq_false h)
  rw[if_pos h]at c
  generalize sx d sv (l.take k)=T at*
  have⟨ad,ae,af⟩:=L
  have hq:=E 2 _ rfl
  have⟨X,N⟩:=ju (On T l[k])
  rw[<-N]at c
  have ag:(l[k].shift.toNat:Int)=l[k].shift:=cM
  refine cP (cO f rfl) ⟨λO=>?_,λO=>fH k 3 g (cP (y.cell hq) ?_)⟩
  all_goals
   refine dI f λw5 F A=>cP (cO A rfl) (cY (dI A λw6 k6 P=>?_))
   have Q:=(y.cT F cM).cT k6 cM
   refine fH k 3 g (cP (Q.cell (E 1 _ rfl)) ?_)
   have h1:=E 1 _ rfl
   rw[M]at h1⊢
   refine lQ (n:=2) cM cM (dI P λw7 R B=>fH k 3 g (cP ((Q.cT R cM).cell h1) (tx (m:=t) (n:=2) cM (eZ ⟨λr=>?_,λr=>?_⟩))))
   all_goals
    refine cP (cO B rfl) (cY (dI B λw8 k8 S=>cY ⟨g,(),⟨rfl,rfl,rfl,rfl,rfl,trivial⟩,(Q.cT R cM).cT k8 cM,k8.fN (R.fN (k6.fN (F.fN p e) e) e) e,?_⟩))
    rw[c]
    refine S.trans ?_
    have hN:l[k].shift.toNat=t:=cM
    first
    |(have r:t%2=0:=iI (of_decide_eq_true r)
      rw[N];simp[ir,IC,On,hN,O,r,Value.cells];done)
    |(have r:¬t%2=0:=iI (of_decide_eq_false r)
      rw[N];simp[ir,IC,On,hN,O,r,Value.cells];done)
 ·have z:¬k<l.length:=fB z
  rw[List.take_of_length_le cM]at f
  refine ez (vs:=IC (sx d sv l)) (λj v U=>by rw[Nat.zero_add];exact cO f (fB U)) (dI p λw5 F s=>?_)
  have s:w5.heap[C]? =some (.cells (IC (sx d sv l)).toArray 173):=s.trans (congrArg (λa=>some (Obj.cells a 173)) (ef (pJ 173).toArray _ rfl))
  exact⟨.agg (IC (sx d sv l)).toArray,jy _ s λj v U=>by rw[Nat.zero_add];simpa using U,_,rfl,rfl,y.cT F cM⟩
variable{G:Gd}{da:Option Addr}{dc:Nat}{w:cJ}
def Ce(n:Int)(t:Td):Bool:=t.opened||(decide (n<=t.times)&&(decide (n<2)||(decide (0<t.mornings)&&decide (0<t.evenings))))
theorem Fg(t:Td):Calls V.prog 139 #[gV G da dc,.agg (IC t).toArray] w (fO λv e=>v=.bool (Ce G.tries t)/\Ext w e):=by
 refine TK (V.fn Tryz.func139 cL) Tryz.ntmps139 (dX.seq dB ?_)
 refine eJ λm n f g h=>eJ λo p c i b=>?_
 have a:=c.at_ h
 refine dX.iu (mJ.start (mJ.Cc 25 dB ?_))
 refine cP (cO b rfl) ⟨λd=>?_,λd=>cP (cO b rfl) (cP (cO a rfl) (uN ⟨λj=>cP (cO a rfl) (dN ⟨λk=>?_,λk=>cP (cO b rfl) (mI ⟨λl=>cP (cO b rfl) (mI ?_),λl=>?_⟩)⟩),λj=>?_⟩))⟩
 all_goals refine mJ.fin (dX.of dB ⟨_,rfl,?_,f.trans c⟩)
 all_goals
  show Value.bool _=_
  simp[Ce,d, *]
theorem kz.take{a:dW}{l:List Tq}(h:kz w a l)(i:Nat):kz w a (l.take i):=λk d=>by have c:k<l.length:=cL;have⟨b,o,e,f⟩:=h k c;grind
def yT(G:Gd):List Tq->List Tq->Int
 |_,[]=>0
 |a,q::r=>
  if kT q.door 0 ((G.doors.length:Int)-1)&&kT q.shift 0 (2*G.days-1)then
   if q.shift<dV a then 5
   else if(sx q.door sv a).day=((q.shift.toNat/2:Nat):Int)then 4
   else if Ce G.tries (sx q.door sv a)then 12
   else yT G (a++[q]) r
  else 3
def J9(G:Gd)(l:List Tq)(k:Nat)(a:k<l.length):yT G (l.take k) (l.drop k)=(if kT l[k].door 0 ((G.doors.length:Int)-1)&&kT l[k].shift 0 (2*G.days-1)then
 if l[k].shift<dV (l.take k)then 5
 else if(sx l[k].door sv (l.take k)).day=((l[k].shift.toNat/2:Nat):Int)then 4
 else if Ce G.tries (sx l[k].door sv (l.take k))then 12
 else yT G (l.take (k+1)) (l.drop (k+1))
 else 3):=by
 rw[nN a,iT a];rfl
def Ka(G:Gd)(l:List Tq):Int:=if eo G=0 then yT G [] l else eo G
def wP{l:List Tq}{k:Nat}(a:k<l.length)(b:0<k):dV (l.take k)=l[k-1].shift:=by unfold dV;grind
def H4(hd:gZ w da G.doors)(E:G.doors.length<=100000){l:List Tq}{P:Option Addr}{lc:Nat}(S:kz w P l)(ae:l.length<=100000)(af:l.length<=lc):
 Calls V.prog 81 #[gV G da dc,.slice P l.length lc] w (fO λv t=>v=.int .i64 (Ka G l)/\Ext w t):=by
 refine go (V.fn Tryz.func81 cL) Tryz.ntmps81 ?_;refine eJ λw1 gb T ag hb=>eF hb (ep (J8 (hd.ext T) E) λU W=>gP ⟨λh=>?_,λh=>?_⟩);have h:¬eo G=0:=fx h;exact⟨_,rfl,by rw[Ka,cS h];rfl,T.trans W⟩;have hG:eo G=0:=cL;have ok:=eD hG;have X:=ok.days;have y:Ka G l=yT G [] l:=by rw[Ka,cV hG]
 have E2:=T.trans W;refine fc l.length (λk (_:Unit)=>[(1,.slice P l.length lc),(2,dj gb),(6,i64 k)]) (λk _ t=>Ext U t/\(∀q∈l.take k,0<=q.shift/\q.shift<=1000)/\Ka G l=yT G (l.take k) (l.drop k)) () ⟨by trivial,Ext.refl _,cL,y⟩ ?_;rintro k _ w3 u ⟨F,hv,c⟩;refine dm (dN ⟨λah=>?_,λY=>?_⟩);have u:k<l.length:=cL;have E3:=E2.trans F;rw[J9 G l k u]at c;have⟨b,o,Z,hc⟩:=S k u;have z:=(W.trans F).at_ hb;have aa:(l.take k).length=k:=cL;have H:∀t,Ext w t->Calls V.prog 140 #[.slice P k lc,i64 l[k].door] t _:=λt e=>by have:=rZ (lc:=lc) (w:=t) (l:=l.take k) ((S.ext e).take k) cM hv l[k].door;rw[aa]at this;exact this
 subst Z;refine fH k 3 u (ez (vs:=uP l[k]) (λj v hj=>E3.cell cL) (eU λw4 tb e4 ab I=>dI I λQ k5 d=>?_));have d:Q.heap[tb]? =some (.cells (uP l[k]).toArray 84):=d;have g:Ext w3 Q:=e4.cT k5 ab;have J:=g.at_ z;have x:=E3.trans g;refine cP (cO d rfl) (cP (cO J rfl) (dm (fI (dF (gT _ _ _ _) (eK ⟨λh=>?_,λh1=>?_⟩)))));exact ko rfl ⟨_,rfl,by rw[c];simp at h;simp[h],x⟩;have h1:kT l[k].door 0 ((G.doors.length:Int)-1)=true:=cL;refine cP (cO d rfl) (cP (cO J rfl) (qo (fI (dF (gT _ _ _ _) (eK ⟨λh=>?_,λh2=>?_⟩)))));exact⟨_,rfl,by rw[c];simp at h;simp[h],x⟩;have h2:kT l[k].shift 0 (2*G.days-1)=true:=cL;rw[cV cL]at c;simp only[kT,eW,kM]at h1 h2;have⟨s,D⟩:∃s:Nat,l[k].shift=(s:Int):=⟨l[k].shift.toNat,cM⟩;have K:∀q∈l.take (k+1),0<=q.shift/\q.shift<=1000:=λq hq=>by grind [List.take_succ_eq_append_getElem,List.mem_singleton]
 obtain R|R:=nt k;refine dE dD (AG (kZ cL λw6 p=>kZ rfl ?_));have i:¬l[k].shift<dV (l.take k):=by subst R;show¬l[0].shift<0;omega
 rw[cS i]at c;have ac:=g.trans p;refine dE dD (dx _ (λU _=>pK k cM ⟨rfl,dD.refl _⟩) (dl (cO (p.at_ d) rfl) (il _ (λL e7=>H L (((x.trans p).trans e7))) (Ht ?_))));rintro L x7 _ ⟨db,rfl,A,hD⟩;refine dI hD λB k8 m=>?_;have m:B.heap[db]? =some (.cells (IC (sx l[k].door sv (l.take k))).toArray 173):=m.trans (dH (λa=>some (Obj.cells a 173)) (ef (pJ 173).toArray _ rfl));have f:Ext Q B:=(p.trans x7).cT k8 (du p.size A);have C:=f.at_ d;have M:=x.trans f;have r:B.cell? ⟨tb,1,none⟩=some (i64 l[k].shift):=cO C rfl;rw[D]at r;refine cP (cO m rfl) (cP r (lQ (n:=2) dq cM (eZ ⟨λh=>?_,λh=>?_⟩)));exact⟨_,rfl,by rw[c,D,cV (fB (fx h))];rfl,M⟩;rw[D,cS (fB (ie h))]at c;refine eF ((g.trans f).at_ z) (ez (vs:=IC (sx l[k].door sv (l.take k))) (λj v hj=>by rw[dn];grind [cO]) (cX (Fg (da:=da) (dc:=dc) _) ?_));rintro _ w9 ⟨rfl,N⟩;refine⟨λh=>?_,λh=>?_⟩;exact⟨_,rfl,by rw[c,cV h];rfl,M.trans N⟩;rw[cS cL]at c;exact cY ⟨u,(),by trivial,F.trans ((g.trans f).trans N),K,c⟩;have⟨_,_,O,ad⟩:=S (k-1) cM;cases O;refine dE dD (AG (ko cL (dl (cO d rfl) (vo (jx (k-1) 3 cM (dl (x.cell (ad 1 _ rfl)) (G4 λw6 p=>⟨λh=>?_,λh=>?_⟩)) cM)))));exact⟨_,rfl,by rw[c,cV (by rw[wP u R];grind)];rfl,x.trans p⟩;have i:¬l[k].shift<dV (l.take k):=by rw[wP u R];grind
 rw[cS i]at c;have ac:=g.trans p;refine dE dD (dx _ (λU _=>pK k cM ⟨rfl,dD.refl _⟩) (dl (cO (p.at_ d) rfl) (il _ (λL e7=>H L (((x.trans p).trans e7))) (Ht ?_))));rintro L x7 _ ⟨db,rfl,A,hD⟩;refine dI hD λB k8 m=>?_;have m:B.heap[db]? =some (.cells (IC (sx l[k].door sv (l.take k))).toArray 173):=m.trans (dH (λa=>some (Obj.cells a 173)) (ef (pJ 173).toArray _ rfl));have f:Ext Q B:=(p.trans x7).cT k8 (du p.size A);have C:=f.at_ d;have M:=x.trans f;have r:B.cell? ⟨tb,1,none⟩=some (i64 l[k].shift):=cO C rfl;rw[D]at r;refine cP (cO m rfl) (cP r (lQ (n:=2) dq cM (eZ ⟨λh=>?_,λh=>?_⟩)));exact⟨_,rfl,by rw[c,D,cV cL];rfl,M⟩;rw[D,cS cL]at c;refine eF ((g.trans f).at_ z) (ez (vs:=IC (sx l[k].door sv (l.take k))) (λj v hj=>by rw[dn];grind [cO]) (cX (Fg (da:=da) (dc:=dc) _) ?_));rintro _ w9 ⟨rfl,N⟩;refine⟨λh=>?_,λh=>?_⟩;exact⟨_,rfl,by rw[c,cV h];rfl,M.trans N⟩;rw[cS cL]at c;exact cY ⟨u,(),by trivial,F.trans ((g.trans f).trans N),K,c⟩;have Y:¬k<l.length:=cL;rw[List.drop_eq_nil_of_le cM]at c;exact⟨_,rfl,by rw[c];rfl,E2.trans F⟩
section
variable{G:Gd}{da:Option Addr}{dc:Nat}{w:cJ}
def LR(r:gZ w da G.doors){i:Nat}{x:Dr}(e:(eA G)[i]? =some x):Calls V.prog 181 #[gV G da dc,.int .i64 ((i:Int)-1)] w (fO λv s=>v=.agg (dL x).toArray/\Ext w s):=by
 refine go (V.fn Tryz.func181 cL) Tryz.ntmps181 ?_;refine eJ λC D p t u=>eU λF q f y d=>dN ⟨λh=>?_,λh=>?_⟩;have h:(i:Int)-1<0:=fx h;obtain rfl:i=0:=cM;obtain rfl:x=⟨0,0,0⟩:=(dT e).symm;exact eC (.agg (dL ⟨0,0,0⟩).toArray) (dI d λg l c=>by have c:g.heap[q]? =some (.cells (dL ⟨0,0,0⟩).toArray 81):=c.trans (dH (λa=>some (Obj.cells a 81)) (ef (pJ 81).toArray _ rfl));exact⟨.agg (dL ⟨0,0,0⟩).toArray,jy _ c cL,_,rfl,rfl,(p.trans f).cT l cL⟩);have h:¬(i:Int)-1<0:=ie h;obtain⟨k,rfl⟩:∃k,i=k+1:=⟨i-1,cM⟩;rw[show((k+1:Nat):Int)-1=(k:Int) by simp];have e:G.doors[k]? =some x:=by grind [eA]
 have m:k<G.doors.length:=cL;obtain⟨b,o,rfl,z,A,B⟩:=r k m;rw[ft m]at e;obtain rfl:=dT e;have E:=p.trans f;refine cP (cO (f.at_ u) rfl) (fH k 3 m (ez (vs:=dL G.doors[k]) (λj v n=>?_) (dI d λg l c=>?_)));match j with
 |0=>exact(dT n)▸E.cell z
 |1=>exact(dT n)▸E.cell A
 |2=>exact(dT n)▸E.cell B
 |j+3=>grind [dL]
 have c:g.heap[q]? =some (.cells (dL G.doors[k]).toArray 81):=c.trans (dH (λa=>some (Obj.cells a 81)) (ef (pJ 81).toArray _ rfl));exact⟨.agg (dL G.doors[k]).toArray,jy _ c cL,_,rfl,rfl,E.cT l cL⟩
structure Q3(G:Gd)(da:Option Addr)(dc gb n0:Nat)(a b:Int)(x y:Dr)(w0:cJ)(D:Nat->Bool)(l:L)(w:cJ):Prop where
 g:lk l 3=some (dj gb)
 s1:lk l 1=some (.int .i64 a)
 s2:lk l 2=some (.int .i64 b)
 e:Ext w0 w
 v9:D 0=true->lk l 9=some (gV G da dc)
 v10:D 1=true->lk l 10=some (.int .i64 a)
 v11:D 2=true->lk l 11=some (.agg (dL x).toArray)
 v12:D 3=true->lk l 12=some (gV G da dc)
 v13:D 4=true->lk l 13=some (.int .i64 b)
 v14:D 5=true->lk l 14=some (.agg (dL y).toArray)
 p7:D 6=true->∃p cs,lk l 7=some (dj p)/\n0<=p/\w.heap[p]? =some (.cells cs 81)/\cs.size=3/\(D 8=true->cs=(dL x).toArray)
 p8:D 7=true->∃p cs,lk l 8=some (dj p)/\n0<=p/\w.heap[p]? =some (.cells cs 81)/\cs.size=3/\(D 9=true->cs=(dL y).toArray)
 ne:D 6=true->D 7=true->∀p q,lk l 7=some (dj p)->lk l 8=some (dj q)->p≠q
 c8:D 8=true->D 6=true/\D 7=true
 c9:D 9=true->D 6=true/\D 7=true
theorem Q3.ext{k m:Nat}{a b:Int}{x y:Dr}{n w o:World}{D:Nat->Bool}{l:L}(h:Q3 G da dc k m a b x y n D l w)(e:Ext w o):Q3 G da dc k m a b x y n D l o:=
 {h with
  e:=h.e.trans e
  p7:=λc=>by
   have⟨p,d,f,g,i,j⟩:=h.p7 c
   exact⟨p,d,f,g,e.at_ i,j⟩
  p8:=λc=>by
   have⟨p,d,f,g,i,j⟩:=h.p8 c
   exact⟨p,d,f,g,e.at_ i,j⟩}
def zH{p q:Nat}(h:dj p=dj q):p=q:=dH Addr.block (dT (Value.pointer.inj h))
theorem H5(hG:eo G=0)(J:gZ w da G.doors){i j:Nat}(hi:i<=G.doors.length)(hj:j<=G.doors.length):Calls V.prog 145 #[gV G da dc,.int .i64 ((i:Int)-1),.int .i64 ((j:Int)-1)] w (fO λv R=>v=.int .i64 (lA G i j)/\Ext w R):=by
 have ab:(eA G).length=G.doors.length+1:=by simp[eA]
 obtain⟨x,Z⟩:∃x,(eA G)[i]? =some x:=⟨_,List.getElem?_eq_getElem cM⟩
 obtain⟨y,hy⟩:∃y,(eA G)[j]? =some y:=⟨_,List.getElem?_eq_getElem cM⟩
 have ok:=eD hG
 have m:∀d∈eA G,(0<=d.st/\d.st<=2)/\(0<=d.at_/\d.at_<=20):=λd J=>by
  rcases List.mem_cons.1 J with rfl|J
  ·simp
  ·exact⟨(ok.door d J).1,(ok.door d J).2.1⟩
 have ac:=m x (List.mem_of_getElem? Z)
 have ad:=m y (List.mem_of_getElem? hy)
 have hW:lA G i j=xw G.corner x y:=by unfold lA;rw[Z,hy]
 clear m
 obtain⟨a,ha⟩:∃a:Int,a=(i:Int)-1:=⟨_,rfl⟩
 obtain⟨b,S⟩:∃b:Int,b=(j:Int)-1:=⟨_,rfl⟩
 have hA:∀n,Ext w n->Calls V.prog 181 #[gV G da dc,.int .i64 a] n (fO λv R=>v=.agg (dL x).toArray/\Ext n R):=λn e=>by rw[ha];exact LR (J.ext e) Z
 have hB:∀n,Ext w n->Calls V.prog 181 #[gV G da dc,.int .i64 b] n (fO λv R=>v=.agg (dL y).toArray/\Ext n R):=λn e=>by rw[S];exact LR (J.ext e) hy
 rw[<-ha,<-S]
 refine TL Tryz.func145 Tryz.ntmps145 (dX.seq dB ?_)
 refine eJ λn T e1 ae hb=>?_
 refine dX.iu ?_
 refine VZ (Q3 G da dc T n.heap.size a b x y n) ⟨rfl,rfl,rfl,Ext.drew _,λh=>(by cases h),λh=>(by cases h),λh=>(by cases h),λh=>(by cases h),λh=>(by cases h),λh=>(by cases h),λh=>(by cases h),λh=>(by cases h),λh=>(by cases h),λh=>(by cases h),λh=>(by cases h)⟩ ?_ ?_
 ·have sz:∀{D l o},Q3 G da dc T n.heap.size a b x y n D l o->n.heap.size<=o.heap.size:=λh=>h.e.size
  refine⟨λD l o h r _=>⟨[(3,dj T)],⟨h.g,trivial⟩,eF (h.e.at_ hb) {h with v9:=λ_=>rfl}⟩,?_⟩
  refine⟨λD l o h r _=>⟨[(1,.int .i64 a)],⟨h.s1,trivial⟩,{h with v10:=λ_=>rfl}⟩,?_⟩
  refine⟨λD l o h r s=>⟨[(9,gV G da dc),(10,.int .i64 a)],⟨h.v9 s.1,h.v10 s.2.1,trivial⟩,ep (hA o (e1.trans h.e)) λK L=>{h.ext L with v11:=λ_=>rfl}⟩,?_⟩
  refine⟨λD l o h r _=>⟨[(3,dj T)],⟨h.g,trivial⟩,eF (h.e.at_ hb) {h with v12:=λ_=>rfl}⟩,?_⟩
  refine⟨λD l o h r _=>⟨[(2,.int .i64 b)],⟨h.s2,trivial⟩,{h with v13:=λ_=>rfl}⟩,?_⟩
  refine⟨λD l o h r s=>⟨[(12,gV G da dc),(13,.int .i64 b)],⟨h.v12 s.1,h.v13 s.2.1,trivial⟩,ep (hB o (e1.trans h.e)) λK L=>{h.ext L with v14:=λ_=>rfl}⟩,?_⟩
  refine⟨λD l o h r s=>⟨[],trivial,eU λK U L M c=>{h.ext L with
   p7:=λ_=>⟨U,_,rfl,Nat.le_trans (sz h) M,c,rfl,λz=>absurd (h.c8 z).1 (fB r)⟩
   ne:=λ_ H p q m u=>by
    obtain⟨q',W,A,_,X,_⟩:=h.p8 H
    have e:q=q':=(zH (Option.some.inj (A.symm.trans u))).symm
    have e2:U=p:=zH (Option.some.inj m)
    have:=dA.lt_of_heap X
    omega
   c8:=λz=>absurd (h.c8 z).1 (fB r)
   c9:=λz=>absurd (h.c9 z).1 (fB r)}⟩,?_⟩
  refine⟨λD l o h r s=>⟨[],trivial,eU λK U L M c=>{h.ext L with
   p8:=λ_=>⟨U,_,rfl,Nat.le_trans (sz h) M,c,rfl,λz=>absurd (h.c9 z).2 (fB r)⟩
   ne:=λI _ p q m u=>by
    obtain⟨q',W,A,_,X,_⟩:=h.p7 I
    have e:p=q':=(zH (Option.some.inj (A.symm.trans m))).symm
    have e2:U=q:=zH (Option.some.inj u)
    have:=dA.lt_of_heap X
    omega
   c8:=λz=>absurd (h.c8 z).2 (fB r)
   c9:=λz=>absurd (h.c9 z).2 (fB r)}⟩,?_⟩
  refine⟨λD l o h r s=>?_,?_⟩
  ·have I:D 6=true:=s.1
   have H:D 7=true:=s.2.2.2.2.2.2.2.1
   have X:D 2=true:=s.2.1
   obtain⟨p,W,m,B,f,C,_⟩:=h.p7 I
   obtain⟨q,N,u,E,k,F,O⟩:=h.p8 H
   have P:=h.ne I H p q m u
   refine⟨[(7,dj p),(11,.agg (dL x).toArray)],⟨m,h.v11 X,trivial⟩,jw (v:=.agg (dL x).toArray) f (by rw[C];exact Nat.le_refl _) (λK Y c=>?_) (gJ rfl)⟩
   have c:K.heap[p]? =some (.cells (dL x).toArray 81):=c.trans (congrArg (λa=>some (Obj.cells a 81)) (ef W _ C))
   exact{h with
    e:=h.e.cT Y B
    p7:=λ_=>⟨p,_,m,B,c,rfl,λ_=>rfl⟩
    p8:=λ_=>⟨q,_,u,E,Y.fN k (Ne.symm P),F,O⟩
    c8:=λ_=>⟨I,H⟩}
  refine⟨λD l o h r s=>?_,trivial⟩
  have I:D 6=true:=s.2.2.2.2.2.2.2.2.2.1
  have H:D 7=true:=s.1
  have h5:D 5=true:=s.2.1
  obtain⟨p,W,m,B,f,C,Q⟩:=h.p7 I
  obtain⟨q,N,u,E,k,F,_⟩:=h.p8 H
  have P:=h.ne I H p q m u
  refine⟨[(8,dj q),(14,.agg (dL y).toArray)],⟨u,h.v14 h5,trivial⟩,jw (v:=.agg (dL y).toArray) k (by rw[F];exact Nat.le_refl _) (λK Y c=>?_) (gJ rfl)⟩
  have c:K.heap[q]? =some (.cells (dL y).toArray 81):=c.trans (congrArg (λa=>some (Obj.cells a 81)) (ef N _ F))
  exact{h with
   e:=h.e.cT Y E
   p8:=λ_=>⟨q,_,u,E,c,rfl,λ_=>rfl⟩
   p7:=λ_=>⟨p,_,m,B,Y.fN f P,C,Q⟩
   c9:=λ_=>⟨I,H⟩}
 ·intro D l o h t
  obtain⟨p,W,m,B,f,C,Q⟩:=h.p7 (t 6 kg)
  obtain⟨q,N,u,E,k,F,O⟩:=h.p8 (t 7 kg)
  obtain rfl:=Q (t 8 kg)
  obtain rfl:=O (t 9 kg)
  have E2:=e1.trans h.e
  have aa:=h.e.at_ hb
  refine dX.jJ (l0:=[(3,dj T),(7,dj p),(8,dj q)]) ⟨h.g,m,u,trivial⟩ ?_
  have hf:0<=mR x.st y.st/\mR x.st y.st<=2:=by unfold mR;omega
  have hc:=ok.corner
  have m1:=Int.mul_le_mul hc.2 hf.2 hf.1 cM
  have m2:=Int.mul_nonneg (show 0<=G.corner by omega) hf.1
  refine dX.of dB (cP (cO f rfl) (cP (cO k rfl) (eZ ⟨λA=>?_,λA=>?_⟩)))
  ·have A:x.st=y.st:=of_decide_eq_true A
   refine cP (cO f rfl) (cP (cO k rfl) (fI (cP (cO k rfl) (cP (cO f rfl) (fI (rJ ⟨_,rfl,?_,E2⟩))))))
   rw[hW,xw,if_pos A]
   rfl
  ·have A:¬x.st=y.st:=of_decide_eq_false A
   refine cP (cO f rfl) (cP (cO k rfl) (cY (cP (cO aa rfl) (cP (cO f rfl) (cP (cO k rfl) (fI (cP (cO k rfl) (cP (cO f rfl) (fI (rJ (qo (cY ⟨_,rfl,?_,E2⟩ ?_) ?_)))))))))))
   ·rw[hW,xw,if_neg A]
    rfl
   ·have e:max (x.st-y.st) (y.st-x.st)=mR x.st y.st:=rfl
    rw[e];omega
   ·have e:max (x.st-y.st) (y.st-x.st)=mR x.st y.st:=rfl
    rw[e];omega
end
section
variable{G:Gd}{da:Option Addr}{dc:Nat}{w:cJ}
theorem xW(hG:eo G=0)(hd:gZ w da G.doors){l:List Nat}{la:Option Addr}{lc:Nat}(hr:fJ w la l)(hl:∀d∈l,d<G.doors.length)(hlen:l.length<=1000):
 Calls V.prog 177 #[gV G da dc,.slice la l.length lc] w (fO λv w'=>v=.int .i64 (mT G l)/\Ext w w'):=by
 have ok:=eD hG;have hW:=n4 ok
 have Zi:∀k,k<=l.length->wY l k<=G.doors.length:=λk hk=>by
  unfold wY;split
  ·omega
  ·have:k-1<l.length:=cM;have h2:=hl _ (List.getElem_mem this);rw[getD_eq this];omega
 refine jd Tryz.func177 Tryz.ntmps177 ?_;refine eJ λw1 gb e1 Zj hb=>?_;refine fc l.length (λk (_:Unit)=>[(1,.slice la l.length lc),(2,dj gb),(5,.int .i64 (vp (lA G) l k)),(6,.int .i64 ((wY l k:Nat)-1)),(7,.int .i64 k)]) (λk _ w'=>Ext w1 w') () ⟨⟨rfl,rfl,rfl,rfl,rfl,trivial⟩,Ext.refl _⟩ ?_;rintro k _ w2 hk e2;have Zk:=hd.ext (e1.trans e2);have Q4:=e2.at_ hb;have hsb:=zz hW l k;refine dm (dN ⟨λXj=>?_,λZl=>?_⟩)
 ·have BD:k<l.length:=fB Xj;obtain⟨bb,oo,rfl,hc⟩:=(hr.ext (e1.trans e2)) k BD;have hdk:=hl _ (List.getElem_mem BD);have hw:=hW (wY l k) (l[k]+1);have Q5:∀w3,Ext w2 w3->Calls V.prog 145 #[gV G da dc,.int .i64 ((wY l k:Nat)-1),.int .i64 l[k]] w3 (fO λv w'=>v=.int .i64 (lA G (wY l k) (l[k]+1))/\Ext w3 w'):=λw3 e3=>by have:=H5 (dc:=dc) hG (Zk.ext e3) (Zi k cM) (show l[k]+1<=G.doors.length by omega);rwa[show((l[k]+1:Nat):Int)-1=(l[k]:Int) by omega]at this
  have s1:vp (lA G) l (k+1)=vp (lA G) l k+lA G (wY l k) (l[k]+1):=by simp only[vp,getD_eq BD]
  have s2:((wY l (k+1):Nat):Int)-1=l[k]:=by simp[wY,List.getElem?_eq_getElem BD]
  refine dE dD (dx (gV G da dc) (λw3 e3=>eF (e3.at_ Q4) ⟨rfl,Ext.refl _⟩) (gl k BD (dl hc (il _ (λw3 e3=>Q5 w3 e3) (vn (gl k BD (dl hc λw3 e3=>cY ⟨BD,(),⟨rfl,rfl,?_,?_,rfl,trivial⟩,e2.trans e3⟩)))))))
  ·show some _=some _;rw[s1]
  ·show some _=some _;rw[s2]
 ·have BD:k=l.length:=by
   have:¬k<l.length:=fB Zl;omega
  subst BD;have hw:=hW (wY l l.length) 0;have Q5:Calls V.prog 145 #[gV G da dc,.int .i64 ((wY l l.length:Nat)-1),.int .i64 (-1)] w2 (fO λv w'=>v=.int .i64 (lA G (wY l l.length) 0)/\Ext w2 w'):=H5 (j:=0) hG Zk (Zi _ (Nat.le_refl _)) (Nat.zero_le _);exact eF Q4 (ep Q5 λw3 e3=>cY ⟨_,rfl,rfl,(e1.trans e2).trans e3⟩)
def LU(a b:Int):dP:=[.int .i64 a,.int .i64 b]
def Kb(z:eo G=0)(A:gZ w da G.doors){l:List Nat}{la:Option Addr}{lc:Nat}(B:fJ w la l)(C:∀d∈l,d<G.doors.length)(m:l.length<=1000):
 Calls V.prog 143 #[gV G da dc,.slice la l.length lc] w (fO λv q=>v=.agg (LU (ji G l) (iA G l)).toArray/\Ext w q):=by
 have n:=eD z;have J:=CU n l cM;have K:=rL (n4 n) l;have L:=n.knock;have M:0<=G.knock*(l.length:Int)/\G.knock*(l.length:Int)<=5000:=⟨zM cM cM,Int.le_trans (Int.mul_le_mul L.2 (show(l.length:Int)<=1000 by omega) cM cM) kg⟩;have r:mT G l+G.knock*(l.length:Int)=ji G l:=by unfold ji xv mT;rw[Int.mul_comm]
 have N:mT G l=pL (lA G) l:=rfl;refine jd Tryz.func143 Tryz.ntmps143 ?_;refine eJ λw1 O D P Q=>eU λR E F S s=>?_;have p:=D.trans F;have f:=F.at_ Q;refine dE dD (dx (gV G da dc) (λH h=>eF (h.at_ f) ⟨rfl,Ext.refl _⟩) (il _ (λH h=>xW (dc:=dc) (lc:=lc) z (A.ext (p.trans h)) (B.ext (p.trans h)) C m) (dl (cO f rfl) (mu (Jt (vn (λH h=>?_)))))));rw[r];refine fc l.length (λk (_:Unit)=>[(1,.slice la l.length lc),(2,dj O),(4,dj E),(5,i64 (ji G l)),(6,i64 (kC G (l.take k))),(7,i64 k)]) (λk _ q=>Ext R q) () ⟨⟨rfl,rfl,rfl,rfl,by show some _=some _;simp[kC],rfl,trivial⟩,h⟩ ?_;rintro k _ w4 T i;have t1:=AK n (l.take k);have U:(l.take k).length<=1000:=rp;refine dm (dN ⟨λt=>?_,λu=>?_⟩);have c:k<l.length:=fB t;obtain⟨b,o,rfl,W⟩:=(B.ext (p.trans i)) k c;have e:=C _ (eG c);have⟨b2,o2,x,_,_,X⟩:=(A.ext (p.trans i)) _ e;have t2:=n.door _ (eG e);subst x;refine dE dD (dl (cO (i.at_ f) rfl) (gl k c (dl W (jx l[k] 3 e (dl X (vn λI Y=>cY ⟨c,(),⟨rfl,rfl,rfl,rfl,?_,rfl,trivial⟩,i.trans Y⟩))))));show some _=some _;rw[AJ G l k c e];have y:k=l.length:=by have:¬k<l.length:=fB u;omega
 subst y;rw[j5]at*;refine cY (eC (.agg (LU (ji G l) (iA G l)).toArray) (dI (i.at_ s) λI Z g=>?_));have g:I.heap[E]? =some (.cells (LU (ji G l) (iA G l)).toArray 56):=g.trans (dH (λa=>some (Obj.cells a 56)) (ef (pJ 56).toArray _ rfl));exact⟨.agg (LU (ji G l) (iA G l)).toArray,jy _ g λj v hj=>by rw[dn];simpa using hj,_,rfl,rfl,(p.trans i).cT Z (iI D.size)⟩
end
section
variable{G:Gd}{da:Option Addr}{dc:Nat}{w:cJ}{l:List Int}{la:Option Addr}{lc:Nat}
end
structure qC(b:Int)(x:Sx)(t:Td):Prop where
 tries:x.tries=t.times
 mornings:x.mornings=t.mornings
 evenings:x.evenings=t.evenings
 opened:x.opened=t.opened
 left:x.left=false
 up:∀i:Nat,i<3->px x i=true->(i:Int)<=t.day
 last:0<=t.day->px x t.day.toNat=true
 low:2*t.day<=b/\t.day<3
def qC.zero:qC 0 qw sv:=⟨rfl,rfl,rfl,rfl,rfl,λi a h=>by unfold px qw at h;revert h;split;intro h;cases h;split<;>(intro h;cases h),λh=>absurd h kg,kg,kg⟩
def qC.mono{x:Sx}{t:Td}(h:qC I x t)(a:I<=J):qC J x t:=⟨h.tries,h.mornings,h.evenings,h.opened,h.left,h.up,h.last,iI h.low,h.low.2⟩
def BE(x:Sx)(s:Nat)(o:Bool)(a:s<6)(i:Nat)(b:i<3):px (ik x s o) i=(decide (i=s/2)||px x i):=by
 obtain rfl|rfl|rfl:i=0\/i=1\/i=2:=cM;all_goals
  obtain h|h|h:s/2=0\/s/2=1\/s/2=2:=cM;all_goals simp[px,ik,h]
theorem qC.step{b:Int}{x:Sx}{t:Td}(h:qC b x t)(q:Tq)(s:Nat)(f:q.shift=s)(d:s<6)(g:b<=s):qC s (ik x s q.opened) (On t q):=by have a:q.shift.toNat=s:=cM;refine⟨by simp[ik,On,h.tries],by simp only[ik,On,a,h.mornings],by simp only[ik,On,a,h.evenings],by simp[ik,On,h.opened],h.left,λi e c=>?_,λ_=>?_,?_⟩;show(i:Int)<=((q.shift.toNat/2:Nat):Int);rw[a];rw[BE x s _ d i e]at c;simp only[Kt,kM]at c;obtain rfl|c:=c;exact Int.le_refl _;have:=h.up i e c;have:=h.low;omega;show px (ik x s q.opened) ((q.shift.toNat/2:Nat):Int).toNat=true;rw[a,ow,BE x s _ d _ cM];simp;show 2*((q.shift.toNat/2:Nat):Int)<=s/\((q.shift.toNat/2:Nat):Int)<3;rw[a];omega
theorem qC.day{x:Sx}{t:Td}(h:qC I x t)(s:Nat)(b:s<6)(c:I<=s):px x (s/2)=true↔t.day=((s/2:Nat):Int):=by constructor;intro a;have d:=h.up (s/2) cM a;have e:=h.low;omega;intro a;have:=h.last cM;rwa[a,ow]at this
def qC.met{x:Sx}{t:Td}(h:qC I x t)(n:Int):gY n x=Ce n t:=by unfold gY Ce;rw[h.left,h.opened,h.tries,h.mornings,h.evenings,Bool.false_or]
def og(l:List Tq)(q:Tq):dV (l++[q])=q.shift:=by unfold dV;rw[List.getLast?_concat]
theorem BG(x:H.days<=3):∀(l a:List Tq) (c:List Sx),c.length=H.doors.length->(∀d:Nat,d<H.doors.length->qC (dV a) (c.getD d qw) (sx d sv a))->yT H a l=(oZ H c (dV a) l).1
 |[],a,c,_,_=>rfl
 |q::r,a,c,y,u=>by simp only[yT,oZ];by_cases f:(kT q.door 0 ((H.doors.iw:Int)-1)&&kT q.shift 0 (2*H.days-1))=true;rw[cV f,cV f];simp only[kT,eW,kM]at f;have⟨d,g⟩:∃d:Nat,q.door=(d:Int):=⟨q.door.toNat,cM⟩;have⟨s,v⟩:∃s:Nat,q.shift=(s:Int):=⟨q.shift.toNat,cM⟩;have n:d<H.doors.iw:=cM;have i:s<6:=cM;have o:=u d n;by_cases j:q.shift<dV a;rw[cV j,cV j];rw[cS j,cS j];have z:q.shift.toNat=s:=cM;have p:q.door.toNat=d:=cM;rw[z,p,g];have b:=o.day s i cM;by_cases k:px (c.getD d qw) (s/2)=true;rw[cV (b.1 k),cV k];rw[cS λh=>k (b.2 h),cS k,<-o.met H.tries];by_cases m:gY H.tries (c.getD d qw)=true;rw[cV m,cV m];rw[cS m,cS m];have e:q.shift=dV (a++[q]):=(og a q).symm;rw[e];refine BG x r (a++[q]) _ (fB y) λw t=>?_;rw[og,wO,v];by_cases A:w=d;subst A;rw[cV g,gW,List.getElem?_set_self cM];exact o.step q s v i cM;rw[cS cM,gW,List.getElem?_set_ne cM,<-gW];exact(u w t).mono cM;rw[cS f,cS f]
def LV(G:Gd)(l:List Tq):Ka G l=kH G l:=by unfold Ka kH;by_cases h:eo G=0;rw[cV h,cV h];refine BG (eD h).days.2 l [] _ dq λd a=>?_;rw[gW,List.getElem?_replicate,cV a];exact qC.zero;rw[cS h,cS h]
end Go.Proofs.W
