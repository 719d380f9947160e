/- RoundTakes holds: whatever doors open, a walk takes minutes of the span that Takes returns, and Safe says whether it is over in time, for every list of numbers. Conditions: none. -/
import Derived.Conc.CrowdTrace
import Derived.Below
import Derived.Conc.LeavingOf
import Derived.Carry
import Derived.ChangeSlices
import Derived.WideShapes
import Derived.Test.YteeagjkaflglpaaGreatRows
import Derived.JoinedOf
import Derived.KernelRfl
import Derived.Test.YteeagjkaflglpaaGreatX25
set_option maxRecDepth 100000
set_option maxHeartbeats 8000000
set_option linter.all false
namespace Go.Proofs.W
open Go.RowKit
theorem CF{x:Int}:∀{l:List Int} (i:Nat),x∉l->ut x l i= -1
 |[],_,_=>rfl
 |y::r,i,h=>by have a:¬x=y:=λe=>h (by rw[e];exact List.mem_cons_self);simp only[ut,if_neg a];exact CF (i+1) λb=>h (List.mem_cons_of_mem _ b)
theorem pN{n:Int}:∀(l pre:List Int),(∀x∈l,0<=x/\x<=n-1)->(pre++l).Nodup->iI n pre l=0
 |[],_,_,_=>rfl
 |d::r,pre,h,a=>by
  have b:=h d List.mem_cons_self;have c:lH d 0 (n-1)=true:=by simp[lH,b]
  have e:F6 d pre=false:=by
   have:d∉pre:=λf=>by rw[List.nodup_append]at a;exact a.2.2 d f d List.mem_cons_self rfl
   simp[F6,CF 0 this]
  simp only[iI,c,e,if_true,Bool.false_eq_true,if_false];exact pN r (pre++[d]) (λx g=>h x (List.mem_cons_of_mem _ g)) (by simpa using a)
theorem xd{n:Nat}{l:List Nat}(c:∀d∈l,d<n)(e:l.Nodup):eH n (kT l)=0:=by
 refine pN _ _ (λx f=>?_) ?_
 ·obtain⟨d,g,rfl⟩:=List.mem_map.1 f;have:=c d g;omega
 ·rw[List.nil_append];exact List.Pairwise.map _ (λa b h=>by omega) e
theorem Ja(l:List Nat):(kT l).map Int.toNat=l:=by simp[kT,Function.comp_def]
theorem ue{G:Gd}{a:Option Addr}{dc:Nat}{w:World}(f:fZ w a G.doors)(b:ed G=0){l:List Nat}{la:Option Addr}{lc:Nat}(g:dV w la l)(i:l.Nodup)(j:∀d∈l,d<G.doors.length)(k:l.length<=1000)(o:l.length<=lc):
 Calls V.prog 44 #[gV G a dc,.slice la l.length lc] w (eG λv w'=>v=.tuple #[.agg (eR (ee G l) (eI G l)).toArray,.int .i64 0]/\Ext w w'):=by
 have c:=kq b;have p:=c.many;have q:=c.streets;have e:(kT l).length=l.length:=by simp[kT]
 have h:=vk (dc:=dc) f (by omega) (by omega) (l:=kT l) (la:=la) (lc:=lc) g.ints (by omega) (by omega);rw[e]at h;refine h.mono ?_;rintro _ w' ⟨v,rfl,rfl,m⟩;refine⟨_,rfl,?_,m⟩;have n:iq G (kT l)=0:=by rw[iq,if_pos b];exact xd j i
 rw[oK,if_pos n,Ja]
theorem Kr{α:Type}{xs ys:Array α}{v f:α}{n k:Nat}(h:ys=xs.setIfInBounds n v)(a:k≠n)(b:xs[k]? =some f):ys[k]? =some f:=by subst h;rw[Array.getElem?_setIfInBounds_ne (Ne.symm a)];exact b
theorem V.Er:V.prog.funcs=Tryz.prog.funcs.setIfInBounds 163 V.f163:=by kernel_rfl
theorem V.fn{k:Nat}{f:Func}(h:Tryz.prog.funcs[k]? =some f)(a:k≠163):V.prog.funcs[k]? =some f:=Kr V.Er a h
def xe(G:Gd)(a b:Int):Value:=if ed G=0 then(if lH a (-1) (G.doors.length-1)=true/\lH b (-1) (G.doors.length-1)=true then .tuple #[.int .i64 (iW G (a+1).toNat (b+1).toNat),.int .i64 0]else .tuple #[.int .i64 0,.int .i64 3])else .tuple #[.int .i64 0,.int .i64 (ed G)]
theorem zT{G:Gd}{k:Option Addr}{dc:Nat}{w:World}(o:fZ w k G.doors)(d:G.doors.length<=100000)(p: -1000000<=G.streets/\G.streets<=1000000)(a b:Int):
 Calls V.prog 85 #[gV G k dc,.int .i64 a,.int .i64 b] w (eG λv w'=>v=xe G a b/\Ext w w'):=by
 refine go (V.fn Tryz.func85 (by decide)) Tryz.ntmps85 ?_;refine eO λs t e q l=>fW l (cf (vi (dc:=dc) (o.ext e) d p) ?_);rintro v u ⟨f,⟨i,rfl⟩|⟨i,x,mk,y,rfl,m⟩⟩
 ·exact eP (je (by simpa using i) ⟨_,rfl,by rw[xe,if_neg i];rfl,e.trans f⟩)
 ·have j:=f.at_ l;have z:=m.g.pw.many;have n:¬(lH a (-1) (G.doors.length-1)=true/\lH b (-1) (G.doors.length-1)=true)->xe G a b=.tuple #[.int .i64 0,.int .i64 3]:=λh=>by rw[xe,if_pos i,if_neg h]
  refine eP (nh (by simp) (cg (cd j rfl) (cA (fu (cL (du _ _ _ _) (ek ⟨λh=>?_,λh=>?_⟩))))))
  ·have h:lH a (-1) (G.doors.length-1)=false:=by simpa using h
   exact je (by simp[h]) ⟨_,rfl,by rw[n (by simp[h])];rfl,e.trans f⟩
  ·have h:lH a (-1) (G.doors.length-1)=true:=by simpa using h
   refine cg (cd j rfl) (cA (fu (cL (du _ _ _ _) (ek ⟨λc=>?_,λc=>?_⟩))))
   ·have c:lH b (-1) (G.doors.length-1)=false:=by simpa using c
    exact⟨_,rfl,by rw[n (by simp[c])];rfl,e.trans f⟩
   ·have c:lH b (-1) (G.doors.length-1)=true:=by simpa using c
    have A: -1<=a/\a<=G.doors.length-1:=by simpa[lH]using h
    have r: -1<=b/\b<=G.doors.length-1:=by simpa[lH]using c
    refine cq (cq (rL (a+1).toNat 6 6 (by omega) (oG (b+1).toNat 6 (by omega) (cg (m.g.ways _ _ (by omega) (by omega)) ⟨_,rfl,by rw[xe,if_pos i,if_pos ⟨h,c⟩];rfl,e.trans f⟩) (by omega)) (by omega)))
theorem zS{G:Gd}{da:Option Addr}{dc:Nat}{w:World}(hd:fZ w da G.doors)(hG:ed G=0){l:List Nat}{la:Option Addr}{lc:Nat}(hr:dV w la l)(hl:∀d∈l,d<G.doors.length)(hlen:l.length<=1000):
 Calls V.prog 68 #[gV G da dc,.slice la l.length lc] w (eG λv w'=>v=.tuple #[.int .i64 (Lm G l),.bool true]/\Ext w w'):=by
 have ok:=kq hG;have hm:=ok.many;have hs:=ok.streets;have RR:∀d∈l,d<5:=λd hd=>by have:=hl d hd;omega
 have hW:=pt ok
 have O8:∀k,k<=l.length->lH ((zY l k:Nat)-1:Int) (-1) (G.doors.length-1)=true:=λk hk=>by
  unfold zY;split
  ·simp[lH];omega
  ·have:k-1<l.length:=by omega
   have h2:=hl _ (List.getElem_mem this);rw[getD_eq this];simp[lH];omega
 have Jc:∀a b:Nat,lH ((a:Int)-1) (-1) (G.doors.length-1)=true->lH ((b:Int)-1) (-1) (G.doors.length-1)=true->xe G ((a:Int)-1) ((b:Int)-1)=.tuple #[.int .i64 (iW G a b),.int .i64 0]:=λa b h1 h2=>by rw[xe,if_pos hG,if_pos ⟨h1,h2⟩];rw[show((a:Int)-1+1).toNat=a by omega,show((b:Int)-1+1).toNat=b by omega]
 refine go (V.fn Tryz.func68 (by decide)) Tryz.ntmps68 ?_;refine eO λw1 gb e1 RE hb=>?_;refine gq l.length (λk (_:Unit)=>[(1,.slice la l.length lc),(2,cu gb),(6,.int .i64 (tc (iW G) l k)),(7,.int .i64 ((zY l k:Nat)-1)),(8,.int .i64 k)]) (λk _ w'=>Ext w1 w') () ⟨⟨rfl,rfl,rfl,rfl,rfl,trivial⟩,Ext.refl _⟩ ?_;rintro k _ w2 hk e2;have RO:=hd.ext (e1.trans e2);have zW:=e2.at_ hb;have Oy:=wz hW l k;refine cA (cY ⟨λEC=>?_,λQU=>?_⟩)
 ·have Hc:k<l.length:=by simpa using EC
  obtain⟨bb,oo,rfl,hc⟩:=(hr.ext (e1.trans e2)) k Hc;have RS:=hl _ (List.getElem_mem Hc);have NA:lH (((l[k]+1:Nat):Int)-1) (-1) (G.doors.length-1)=true:=by simp[lH];omega
  have hw:=hW (zY l k) (l[k]+1);refine cF cB (dx (gV G da dc) (λw3 e3=>fW (e3.at_ zW) ⟨rfl,Ext.refl _⟩) (mA k Hc (cn hc (jg (.tuple #[.int .i64 (iW G (zY l k) (l[k]+1)),.int .i64 0]) (λw3 e3=>?_) λw3 e3=>eP (nh (by simp) ?_)))))
  ·have:=zT (dc:=dc) (RO.ext e3) (by omega) (by omega) ((zY l k:Nat)-1:Int) (((l[k]+1:Nat):Int)-1);rw[Jc _ _ (O8 k hk) NA,show((l[k]+1:Nat):Int)-1=(l[k]:Int) by omega]at this;exact this
  ·have RQ:=e3.cell hc;have s1:tc (iW G) l (k+1)=tc (iW G) l k+iW G (zY l k) (l[k]+1):=by simp only[tc,getD_eq Hc]
   have s2:((zY l (k+1):Nat):Int)-1=l[k]:=by simp[zY,List.getElem?_eq_getElem Hc]
   refine cF cB (AY (mA k Hc (cn RQ λw4 e4=>cq ⟨Hc,(),⟨rfl,rfl,?_,?_,rfl,trivial⟩,(e2.trans e3).trans e4⟩)))
   ·show some _=some _;rw[s1]
   ·show some _=some _;rw[s2]
 ·have Hc:k=l.length:=by
   have:¬k<l.length:=by simpa using QU
   omega
  subst Hc;have hw:=hW (zY l l.length) 0;have uV:Calls V.prog 85 #[gV G da dc,.int .i64 ((zY l l.length:Nat)-1),.int .i64 (-1)] w2 (eG λv w'=>v=.tuple #[.int .i64 (iW G (zY l l.length) 0),.int .i64 0]/\Ext w2 w'):=by have:=zT (dc:=dc) RO (by omega) (by omega) ((zY l l.length:Nat)-1:Int) (((0:Nat):Int)-1);rw[Jc _ _ (O8 _ (Nat.le_refl _)) (by simp[lH];omega)]at this;exact this
  exact fW zW (dU uV λw3 e3=>cq (gK ⟨_,rfl,rfl,(e1.trans e2).trans e3⟩))
def lG(G:Gd)(l:List Nat):Int:=if eI G l<=G.minutes then 1 else if G.minutes<ee G l then 2 else 3
theorem By{G:Gd}{n:Option Addr}{dc:Nat}{w:World}(x:fZ w n G.doors)(o:ed G=0){l:List Nat}{la:Option Addr}{lc:Nat}(p:dV w la l)(y:l.Nodup)(m:∀d∈l,d<G.doors.length)(z:l.length<=1000)(D:l.length<=lc):
 Calls V.prog 61 #[gV G n dc,.slice la l.length lc] w (eG λv w'=>v=.tuple #[.int .i64 (lG G l),.int .i64 0]/\Ext w w'):=by
 have q:=kq o;have E:=q.many;have F:=q.streets;have e:(kT l).length=l.length:=by simp[kT]
 refine go (V.fn Tryz.func61 (by decide)) Tryz.ntmps61 ?_;refine eO λH I c A r=>fW r ?_;have s:=tl (dc:=dc) (x.ext c) (by omega) (by omega) (l:=kT l) (la:=la) (lc:=lc) (p.ext c).ints (by omega) (by omega);rw[e,xd m y]at s;refine cf s ?_;rintro v J ⟨f,⟨t,rfl⟩|⟨t,K,mk,L,rfl,u⟩⟩
 ·exact absurd o t
 ·have i:=f.at_ r;have j:=p.ext (c.trans f);refine eP (nh (by simp) ?_);refine cF cB (jg _ (λB a=>wB (u.ext a).g m (by omega) (j.ext a)) (cn (cd i rfl) (Ni λB a=>⟨λh=>?_,λh=>?_⟩)))
  ·have h:eI G l<=G.minutes:=of_decide_eq_true h;exact⟨_,rfl,by rw[lG,if_pos h];rfl,(c.trans f).trans a⟩
  ·have h:¬eI G l<=G.minutes:=of_decide_eq_false h;refine cF cB (jg _ (λC k=>yW (u.ext (a.trans k)).g m (by omega) (j.ext (a.trans k))) (cn (cd (a.at_ i) rfl) (B9 λC k=>⟨λb=>?_,λb=>?_⟩)))
   ·have b:G.minutes<ee G l:=of_decide_eq_true b;exact⟨_,rfl,by rw[lG,if_neg h,if_pos b];rfl,((c.trans f).trans a).trans k⟩
   ·have b:¬G.minutes<ee G l:=of_decide_eq_false b;exact⟨_,rfl,by rw[lG,if_neg h,if_neg b];rfl,((c.trans f).trans a).trans k⟩
def jU(T:List Int)(k:Nat):Nat->Int
 |0=>0
 |j+1=>jU T k j+if k.testBit j then T.getD j 0 else 0
theorem ri{T:List Int}(h:∀x∈T,0<=x)(k:Nat):∀j,j<=T.length->0<=jU T k j/\jU T k j<=(T.take j).sum
 |0,_=>by simp[jU]
 |j+1,a=>by have b:=ri h k j (by omega);have c:=h _ (List.getElem_mem (show j<T.length from a));rw[List.take_succ_eq_append_getElem a,List.sum_append];simp only[jU,getD_eq (show j<T.length from a),List.sum_cons,List.sum_nil];split<;>omega
theorem tf(T:List Int):∀j,jU T 0 j=0
 |0=>rfl
 |j+1=>by simp[jU,tf T j]
theorem tZ{T:List Int}(n:Nat):∀j,j<=n->j<=T.length->jU T (2^n-1) j=(T.take j).sum
 |0,_,_=>by simp[jU]
 |j+1,d,a=>by
  rw[List.take_succ_eq_append_getElem a,List.sum_append];have b:(2^n-1).testBit j=true:=by rw[Nat.testBit_two_pow_sub_one];exact decide_eq_true (by omega)
  have c:=tZ (T:=T) n j (by omega) (by omega);simp only[jU,b,if_true,c,getD_eq (show j<T.length from a),List.sum_cons,List.sum_nil,Int.add_zero]
structure vI(m:Nat->Int)(M top:Int)(k:Nat)(s:Int×Int):Prop where
 most:∀i,i<k->m i<=s.1
 top:0<=s.1/\s.1<=top
 cnt:0<=s.2/\s.2<=k
 all:s.2=k↔∀i,i<k->m i<=M
 none:s.2=0↔∀i,i<k->¬m i<=M
theorem vI.next{m:Nat->Int}{M a:Int}{k:Nat}{s:Int×Int}(h:vI m M a k s)(g:m k<=a):vI m M a (k+1) (max s.1 (m k),if m k<=M then s.2+1 else s.2):=by
 have j:=h.top;have l:=h.cnt
 have b:∀{p:Nat->Prop},(∀i,i<k+1->p i)↔(∀i,i<k->p i)/\p k:=λ{p}=>⟨λh=>⟨λi c=>h i (by omega),h k (by omega)⟩,λh i c=>by
  rcases Nat.lt_or_ge i k with d|f
  ·exact h.1 i d
  ·obtain rfl:i=k:=by omega
   exact h.2⟩
 refine⟨b.2 ⟨λi c=>by have:=h.most i c;simp only;omega,by simp only;omega⟩,by simp only;omega,?_,?_,?_⟩
 ·simp only;split<;>omega
 ·rw[b,<-h.all];by_cases e:m k<=M
  ·simp only[e,if_true,and_true];omega
  ·simp only[e,if_false,and_false,iff_false];omega
 ·rw[b,<-h.none];by_cases e:m k<=M
  ·simp only[e,if_true,not_true,and_false,iff_false];omega
  ·simp only[e,if_false,not_false_iff,and_true]
def RP(a b:Int):Int:=IntKind.i64.wrap (BitVec.ofInt 64 a&&&BitVec.ofInt 64 b).toNat
section
variable{w:World}{k:Value->World->Prop}{t:TypeId}{x y:Operand}
theorem Et{a b:Int}(r:Int)(c:RP a b=r)(h:k (.int .i64 r) w):fS V.prog (do eqGuard .and t x y (.int .i64 a) (.int .i64 b);binOp .and t (.int .i64 a) (.int .i64 b)) w k:=⟨_,w,rfl,by subst c;exact h⟩
theorem Fx{a:Int}{n:Nat}(b:n<=64)(h:k (.int .i64 (a.fdiv (2^n))) w):fS V.prog (do eqGuard .shr t x y (.int .i64 a) (.int .i64 n);binOp .shr t (.int .i64 a) (.int .i64 n)) w k:=by
 refine⟨_,w,?_,h⟩;show Sem.run V.prog (Op.shift .shr .i64 a .i64 n) w=_;unfold Op.shift;rw[if_neg (by omega)];have:min (n:Int).toNat IntKind.i64.bits=n:=by simp[IntKind.bits];omega
 rw[this];rfl
theorem G9{a r:Int}{n:Nat}(c:n<=64)(b:IntKind.i64.wrap (a*2^n)=r)(h:k (.int .i64 r) w):fS V.prog (do eqGuard .shl t x y (.int .i64 a) (.int .i64 n);binOp .shl t (.int .i64 a) (.int .i64 n)) w k:=by
 refine⟨_,w,?_,h⟩;show Sem.run V.prog (Op.shift .shl .i64 a .i64 n) w=_;unfold Op.shift;rw[if_neg (by omega)];have:min (n:Int).toNat IntKind.i64.bits=n:=by simp[IntKind.bits];omega
 rw[this,<-b];rfl
end
theorem LX:∀s:Nat,s<32->∀d:Nat,d<5->RP ((s:Int).fdiv (2^d)) 1=if s.testBit d then 1 else 0:=by decide+kernel
theorem Eo:∀n:Nat,n<=5->IntKind.i64.wrap (1*2^n)=((2^n:Nat):Int):=by decide+kernel
theorem kD(a b:Int)(w:World):Sem.run V.prog (Instr.build 56 #[(0,.int .i64 a),(1,.int .i64 b)]) w=.ok (.agg (eR a b).toArray) w:=by kernel_rfl
theorem vH{x y:Operand}(a b:Int)(w:World):Sem.run V.prog (do eqGuard .eql 56 x y (.agg (eR a b).toArray) (.agg (eR a b).toArray);binOp .eql 56 (.agg (eR a b).toArray) (.agg (eR a b).toArray)) w=.ok (.bool true) w:=by show Sem.run V.prog (do eqGuard .eql 56 x y (.agg #[.int .i64 a,.int .i64 b]) (.agg #[.int .i64 a,.int .i64 b]);binOp .eql 56 (.agg #[.int .i64 a,.int .i64 b]) (.agg #[.int .i64 a,.int .i64 b])) w=.ok (.bool true) w;go_simp
def vJ(G:Gd)(l:List Nat):List Int:=l.map λd=>((G.doors[d]?).map (·.talk)).getD 0
theorem vK{w:World}{ns:List Int}{la:Option Addr}{lc:Nat}(hr:gM w la ns)(hl:ns.length<=9223372036854775807):Calls V.prog 16 #[.slice la ns.length lc] w (pJ λv w'=>v=.bool true/\Ext w w'):=by
 refine go (V.fn Tryz.func16 (by decide)) Tryz.ntmps16 ?_;refine cf (zQ hr hl) ?_;rintro _ w1 ⟨S,db,rfl,aP,hD⟩;refine cf (xa hD 5 (by omega)) ?_;rintro _ w2 ⟨U,G,da,dc,rfl,hO,aQ,hG,aR⟩;have Y:=kq hG;have E2:Ext w w2:=⟨U.1.os.trans S.os,U.1.tape.trans S.tape,U.1.output.trans S.output,Nat.le_trans S.size U.1.size,Nat.le_trans S.drawn U.1.drawn,λx z=>(U.1.block x (Nat.lt_of_lt_of_le z S.size) (by omega)).trans (S.block x z)⟩;refine dS λw3 gb e3 az aA=>cK aA λw4 k4 M=>?_;replace M:w4.heap[gb]? =some (.cells (gL G da dc).toArray 24):=M.trans (congrArg (λa=>some (Obj.cells a 24)) (eh (qg 24).toArray (gL G da dc) rfl));have Z:Ext w2 w4:=Ext.cj e3 k4 az;refine fW M (cf (Bw (dc:=dc) ((U.2 hD).ext Z) (by omega)) ?_);rintro _ w5 ⟨W,l,a,c,rfl,hn,hc,aS,aj,E,hA⟩;have s1:=S.size;have s2:=U.1.size;have aT:=hD.lt;have g5:w5.heap[gb]? =some (.cells (gL G da dc).toArray 24):=W.1.ef M (show¬gb=db by omega);have A:fZ w5 da G.doors:=nD.Ny (cC.keep (cC.ext hO Z) W.1 λb hb e=>by have:=(cC.blk hO hb).1;omega);have E4:=E2.trans Z;have E5:Ext w w5:=⟨W.1.os.trans E4.os,W.1.tape.trans E4.tape,W.1.output.trans E4.output,Nat.le_trans E4.size W.1.size,Nat.le_trans E4.drawn W.1.drawn,λx z=>(W.1.block x (Nat.lt_of_lt_of_le z E4.size) (by omega)).trans (E4.block x z)⟩;refine fW g5 (cf (ue (dc:=dc) A hG hn aj E (by omega) hc) ?_);rintro _ w7 ⟨rfl,e7⟩;refine dS λw8 sb e8 aU aB=>cK aB λw9 k9 aa=>?_;replace aa:w9.heap[sb]? =some (.cells (eR (ee G l) (eI G l)).toArray 56):=aa;have N:Ext w5 w9:=Ext.cj (e7.trans e8) k9 (by have:=e7.size;omega);refine fW (N.at_ g5) (dU (By (dc:=dc) (A.ext N) hG (hn.ext N) aj E (by omega) hc) λaV ak=>?_);have B:=N.trans ak;refine fW (B.at_ g5) (dU (zS (dc:=dc) (A.ext B) hG (hn.ext B) E (by omega)) λaW al=>?_);have am:=B.trans al;refine eP (nh (by simp) (eP (nh (by simp) (ek (nh rfl ?_)))));have F:l.length<=5:=by omega
 have aN:2^l.length<=32:=Nat.le_trans (Nat.pow_le_pow_right (by omega) F) (by decide);have aX:1<=2^l.length:=Nat.one_le_two_pow;refine cF cB (iB (dx _ (λw1 _=>G9 (by omega) (Eo _ F) ⟨rfl,cB.refl _⟩) λaC an=>?_));have C:=am.trans an;have aD:=E5.trans C;have aE:=C.at_ g5;have ao:=(ak.trans (al.trans an)).at_ aa;have ab:=A.ext C;have ap:=hn.ext C;obtain⟨T,hT⟩:∃T,T=vJ G l:=⟨_,rfl⟩;have aY:T.length=l.length:=by simp[hT,vJ]
 have ac:∀x∈T,0<=x/\x<=9:=λx z=>by rw[hT]at z;obtain⟨d,hd,rfl⟩:=List.mem_map.1 z;have aq:=E d hd;have:=Y.door _ (List.getElem_mem aq);simp only[List.getElem?_eq_getElem aq,Option.map_some,Option.getD_some];omega
 have aF:eI G l=ee G l+T.sum:=by simp[eI,fx,hT,vJ]
 have hb:=Dk Y l (by omega);have aZ:eI G l<=1000000100:=by have:=(yX Y l).2;simp only[eI];omega
 let m:Nat->Int:=λk=>ee G l+jU T k l.length;have hm:∀k,ee G l<=m k/\m k<=eI G l:=λk=>by have:=ri (λx z=>(ac x z).1) k l.length (by omega);rw[List.take_of_length_le (by omega)]at this;simp only[m];omega
 have ad:m 0=ee G l:=by simp[m,tf]
 have ar:m (2^l.length-1)=eI G l:=by simp only[m];rw[tZ l.length l.length (Nat.le_refl _) (by omega),List.take_of_length_le (by omega),aF]
 have aG:0<=eI G l:=by have:=hm 0;omega
 have O:=Y.knock;have aO:=Y.minutes;have a0:=te (pt Y) l
 refine gq (2^l.length) (λk (s:Int×Int)=>[(4,cu gb),(5,.slice a l.length c),(6,cu sb),(8,.int .i64 (lG G l)),(10,.int .i64 (Lm G l)),(12,.int .i64 (if k=0 then-1 else ee G l)),(13,.int .i64 s.1),(14,.int .i64 s.2),(15,.int .i64 ((2^l.length:Nat):Int)),(16,.int .i64 k)])
  (λk s w'=>Ext aC w'/\vI m G.minutes (eI G l) k s) (0,0) ⟨⟨rfl,rfl,rfl,rfl,rfl,rfl,rfl,rfl,rfl,rfl,trivial⟩,Ext.refl _,λi hi=>by omega,⟨Int.le_refl _,aG⟩,by simp,by simp,by simp⟩ ?_
 rintro k ⟨n,g⟩ P hk ⟨t,hS⟩;have ae:=t.at_ aE;have af:=ab.ext t;have au:=ap.ext t;have H:=t.at_ ao;refine cY ⟨λav=>?_,λaH=>?_⟩
 ·have Q:k<2^l.length:=Int.ofNat_lt.1 (of_decide_eq_true av);have aw:k<32:=by omega
  refine cA (cg (cd ae rfl) (FY (cq ?_ ?_) ?_))
  ·refine gq l.length (λj (_:Unit)=>[(4,cu gb),(5,.slice a l.length c),(6,cu sb),(8,.int .i64 (lG G l)),(10,.int .i64 (Lm G l)),(12,.int .i64 (if k=0 then-1 else ee G l)),(13,.int .i64 n),(14,.int .i64 g),(15,.int .i64 ((2^l.length:Nat):Int)),(16,.int .i64 k),(17,.int .i64 (ee G l+jU T k j)),(18,.int .i64 j)])
    (λj _ w'=>Ext P w') () ⟨⟨rfl,rfl,rfl,rfl,rfl,rfl,rfl,rfl,rfl,rfl,by show some _=some _;rw[jU,Int.add_zero];rfl,rfl,trivial⟩,Ext.refl _⟩ ?_
   rintro j _ ag hj p;refine cA (cY ⟨λaI=>?_,λaJ=>?_⟩)
   ·have I:j<l.length:=by simpa using aI
    have a1:=ri (λx z=>(ac x z).1) k j (by omega);have a2:(T.take j).sum<=9*j:=by
     have:∀(L:List Int),(∀x∈L,0<=x/\x<=9)->L.sum<=9*L.length:=λL=>by
      induction L with
      |nil=>intro _;simp
      |cons x r ih=>
       intro h;have D:=h x List.mem_cons_self;have R:=ih λy hy=>h y (List.mem_cons_of_mem _ hy);simp only[List.sum_cons,List.length_cons];omega
     have:=this (T.take j) λx z=>ac x (List.mem_of_mem_take z);rw[List.length_take]at this;omega
    refine Fx (by omega) (Et _ (LX k aw j (by omega)) (gK ⟨λq=>?_,λq=>?_⟩))
    ·have q:k.testBit j=true:=by
      cases h:k.testBit j with
      |true=>rfl
      |false=>simp[h]at q
     obtain⟨b,o,rfl,ah⟩:=(au.ext p) j I;have hd:=E _ (List.getElem_mem I);obtain⟨b2,o2,rfl,_,_,h3⟩:=(af.ext p) _ hd;have aK:T.getD j 0=G.doors[l[j]].talk:=by rw[getD_eq (by omega)];simp[hT,vJ,List.getElem?_eq_getElem hd]
     have a3:=Y.door _ (List.getElem_mem hd);refine cF cB (cn (cd (p.at_ ae) rfl) (mA j I (cn ah (iU l[j] 3 hd (cn h3 (AY λa4 aL=>cq ⟨I,(),⟨rfl,rfl,rfl,rfl,rfl,rfl,rfl,rfl,rfl,rfl,?_,rfl,trivial⟩,p.trans aL⟩))))));show some _=some _;rw[jU,if_pos q,aK,Int.add_assoc]
    ·have q:k.testBit j=false:=by
      cases h:k.testBit j with
      |false=>rfl
      |true=>simp[h]at q
     refine cq ⟨I,(),⟨rfl,rfl,rfl,rfl,rfl,rfl,rfl,rfl,rfl,rfl,?_,rfl,trivial⟩,p⟩;show some _=some _;rw[jU,q,if_neg (by simp),Int.add_zero]
   ·obtain rfl:j=l.length:=by
     have:¬j<l.length:=by simpa using aJ
     omega
    have aM:=hm k;have f:=hS.next aM.2;have J:=hS.top;have ax:=hS.cnt;have e0:ee G l+jU T k l.length=m k:=rfl;simp only at J ax;rw[e0];have l1:(if k+1=0 then(-1:Int)else ee G l)=ee G l:=by simp
    refine cg (cd (p.at_ ae) rfl) (u9 ⟨λu=>?_,λu=>?_⟩)
    ·have u:m k<=G.minutes:=of_decide_eq_true u;rw[if_pos u]at f;rcases Nat.eq_zero_or_pos k with rfl|ay
     ·exact cq (cY (je rfl (je rfl (wx (cq ⟨Q,(_,_),⟨rfl,rfl,rfl,rfl,rfl,by show some _=some _;rw[l1,ad],rfl,rfl,rfl,rfl,trivial⟩,t.trans p,f⟩)))))
     ·have l0:(if k=0 then(-1:Int)else ee G l)=ee G l:=if_neg (by omega);exact cq (cY (nh (by rw[l0];simp;omega) (cY (nh (by rw[l0];simp;omega) (wx (cq ⟨Q,(_,_),⟨rfl,rfl,rfl,rfl,rfl,by show some _=some _;rw[l0,l1],rfl,rfl,rfl,rfl,trivial⟩,t.trans p,f⟩))))))
    ·have u:¬m k<=G.minutes:=of_decide_eq_false u;rw[if_neg u]at f;rcases Nat.eq_zero_or_pos k with rfl|ay
     ·exact cY (je rfl (je rfl (wx (cq ⟨Q,(_,_),⟨rfl,rfl,rfl,rfl,rfl,by show some _=some _;rw[l1,ad],rfl,rfl,rfl,rfl,trivial⟩,t.trans p,f⟩))))
     ·have l0:(if k=0 then(-1:Int)else ee G l)=ee G l:=if_neg (by omega);exact cY (nh (by rw[l0];simp;omega) (cY (nh (by rw[l0];simp;omega) (wx (cq ⟨Q,(_,_),⟨rfl,rfl,rfl,rfl,rfl,by show some _=some _;rw[l0,l1],rfl,rfl,rfl,rfl,trivial⟩,t.trans p,f⟩)))))
  ·have:=hb;simp only[ee,tg,Lm]at this⊢;omega
  ·have D:=Int.mul_nonneg (Int.natCast_nonneg l.length) (show 0<=G.knock by omega);have R:=Int.mul_le_mul_of_nonneg_left O.2 (Int.natCast_nonneg l.length);omega
 ·obtain rfl:k=2^l.length:=by
   have:¬k<2^l.length:=λh=>of_decide_eq_false aH (Int.ofNat_lt.2 h);omega
  have J:n=eI G l:=by have D:=hS.most (2^l.length-1) (by omega);have R:=hS.top.2;rw[ar]at D;simp only at D R;omega
  have X:g=((2^l.length:Nat):Int)↔eI G l<=G.minutes:=by rw[hS.all];exact⟨λh=>by rw[<-ar];exact h _ (by omega),λh i _=>by have:=(hm i).2;omega⟩
  have K:g=0↔¬ee G l<=G.minutes:=by rw[hS.none];exact⟨λh=>by rw[<-ad];exact h 0 (by omega),λh i _=>by have:=(hm i).1;omega⟩
  have u:=hm 0;subst J;have hq:(if 2^l.length=0 then(-1:Int)else ee G l)=ee G l:=if_neg (by omega);have ai:=aD.trans t;refine gK ⟨λD=>?_,λD=>?_⟩
  ·have D:=X.1 (of_decide_eq_true D);refine dp (vs:=eR (ee G l) (eI G l)) (λj v hj=>by rw[Nat.zero_add];exact cd H (by simpa using hj)) (c8 (.agg (eR (ee G l) (eI G l)).toArray) (c8 (.bool true) (je rfl (gK (je (by simp[lG,D]) (gu (zP P) (λw' h=>.inr ⟨rfl,h⟩) ?_)))) λw=>vH _ _ w) λw=>by rw[hq];exact kD _ _ w);rintro v ag ⟨rfl,p⟩;exact .inl ⟨_,rfl,rfl,ai.trans p⟩
  ·have D:¬eI G l<=G.minutes:=λh=>of_decide_eq_false D (X.2 h);refine gK ⟨λR=>?_,λR=>?_⟩
   ·have R:=K.1 (of_decide_eq_true R);refine dp (vs:=eR (ee G l) (eI G l)) (λj v hj=>by rw[Nat.zero_add];exact cd H (by simpa using hj)) (c8 (.agg (eR (ee G l) (eI G l)).toArray) (c8 (.bool true) (je rfl (gK (je (by simp[lG,D];omega) (gu (zP P) (λw' h=>.inr ⟨rfl,h⟩) ?_)))) λw=>vH _ _ w) λw=>by rw[hq];exact kD _ _ w);rintro v ag ⟨rfl,p⟩;exact .inl ⟨_,rfl,rfl,ai.trans p⟩
   ·have R:ee G l<=G.minutes:=Decidable.byContradiction λh=>of_decide_eq_false R (K.2 h);refine dp (vs:=eR (ee G l) (eI G l)) (λj v hj=>by rw[Nat.zero_add];exact cd H (by simpa using hj)) (c8 (.agg (eR (ee G l) (eI G l)).toArray) (c8 (.bool true) (je rfl (gK (je (by simp[lG,D];omega) (gu (zP P) (λw' h=>.inr ⟨rfl,h⟩) ?_)))) λw=>vH _ _ w) λw=>by rw[hq];exact kD _ _ w);rintro v ag ⟨rfl,p⟩;exact .inl ⟨_,rfl,rfl,ai.trans p⟩
end Go.Proofs.W
namespace Go.Proofs.W
open Go.Conc Go.ck Go.RowKit
noncomputable def Mo(L:List Nat)(f:Nat):Bool:=f==163||okF L false (λ_=>false) f
noncomputable def Hd(L:List Nat)(B:Nat->Prop)(sh:Nat->Option Nat):cx where
 S:=λg=>L.contains g
 dim:=false
 ok:=λf=>eB V.prog (λg=>L.contains g) false false
 df:=λ_=>false
 fs:=PR.funcs
 hole:=λf=>f==163
 sh:=sh
 r:=λb c=>b=c/\B b
 inj₁:=λ_ _ _ h a=>h.1.symm.trans a.1
 inj₂:=λ_ _ _ h a=>h.1.trans a.1.symm
theorem xf{L:List Nat}(h:L.all (Mo L)=true)(f:Nat)(b:L.contains f=true)(a:f≠163):
 ∃fn c,V.prog.funcs[f]? =some fn/\fn.body=some c/\eB V.prog (λg=>L.contains g) false false c=true/\(fn.name== "runtime.NumGoroutine")=false:=by
 have:=List.all_eq_true.1 h f (by simpa using b);unfold Mo at this;rw[show(f==163)=false by simpa using a,Bool.false_or]at this;unfold okF at this;split at this
 ·rename_i fn d;split at this
  ·rename_i c e;simp only[Bool.and_eq_true,Bool.not_eq_true']at this;exact⟨fn,c,d,e,this.1,this.2⟩
  ·cases this
 ·cases this
theorem Jb:(V.f163.name== "runtime.NumGoroutine")=false:=by kernel_rfl
theorem He:(Tryz.f163.name== "runtime.NumGoroutine")=false:=by kernel_rfl
theorem Hf:∃c,Tryz.f163.body=some c:=⟨_,sD⟩
theorem Eu{L:List Nat}{B:Nat->Prop}{sh:Nat->Option Nat}(h:L.all (Mo L)=true):Go.ck.Good V.prog (Hd L B sh):=by
 refine⟨⟨V.zero,λf a=>?_,V.xV,uQ _,V.bad⟩,rfl,λf a j=>?_,⟨λf a=>?_⟩,λ⟨f,a⟩=>by cases a⟩
 ·by_cases e:f=163
  ·subst e;exact⟨V.f163,V.rG,V.func163,Jb,rfl⟩
  ·obtain⟨d,c,b,g,_,i⟩:=xf h f a e;exact⟨d,c,b,i,g⟩
 ·have e:f≠163:=λe=>by subst e;cases j
  obtain⟨d,c,b,g,k,_⟩:=xf h f a e;exact⟨d,c,b,g,k⟩
 ·by_cases e:f=163
  ·subst e;obtain⟨c,l⟩:=Hf;exact⟨Tryz.f163,c,Tryz.func163,He,l,λh=>by cases h⟩
  ·obtain⟨d,c,b,g,_,i⟩:=xf h f a e;exact⟨d,c,(V.rH f e).symm.trans b,i,g,λ_=>b⟩
noncomputable def Bz(L:List Nat)(df:Nat->Bool)(B:Nat->Prop)(sh:Nat->Option Nat):cx where
 S:=λg=>L.contains g
 dim:=false
 ok:=λf=>eB V.prog (λg=>L.contains g) false (df f)
 df:=df
 fs:=V.prog.funcs
 hole:=λ_=>false
 sh:=sh
 r:=λb c=>b=c/\B b
 inj₁:=λ_ _ _ h a=>h.1.symm.trans a.1
 inj₂:=λ_ _ _ h a=>h.1.trans a.1.symm
theorem Hg{P:Program}{ρ:cx}(a:ρ.fs=P.funcs)(h:∀f,ρ.S f=true->∃fn c,P.funcs[f]? =some fn/\(fn.name== "runtime.NumGoroutine")=false/\fn.body=some c):JI P ρ:=⟨λf d=>by obtain⟨fn,c,b,e,g⟩:=h f d;exact⟨fn,c,by rw[a];exact b,e,g,λ_=>b⟩⟩
theorem Ev{L:List Nat}{g:Nat->Bool}{B:Nat->Prop}{sh:Nat->Option Nat}(h:L.all (okF L false g)=true):Go.ck.Good V.prog (Bz L g B sh):=by
 refine⟨V.fit h,rfl,λf a _=>?_,Hg (by unfold Bz;dsimp only) λf a=>?_,λ_ _=>rfl⟩
 ·obtain⟨b,c,d,e,i,_⟩:=pg h f a;exact⟨b,c,d,e,i⟩
 ·obtain⟨b,c,d,e,_,j⟩:=pg h f a;exact⟨b,c,d,j,e⟩
theorem runNT_then{Q:Program}{N K:Nat}{m b:Machine}{t c:Trace}(h:runNT Q N m t=(.next b,c)):runNT Q (N+K) m t=runNT Q K b c:=by
 induction N generalizing m t with
 |zero=>
  simp only[runNT]at h;injection h with a d;injection a with a;subst a d;rw[Nat.zero_add]
 |succ N e=>
  rw[show N+1+K=(N+K)+1 from by omega];simp only[runNT]at h⊢;cases f:stepT Q m with
  |mk s g=>
   rw[f]at h;cases s with
   |next i=>exact e h
   |ended o w=>simp only at h;injection h with a d;cases a
def CG(e:Ending)(w':World):Prop:=e=.returned (.bool true)\/(e=.panicked fI/\Kj w')
theorem zU{L LI:List Nat}{Mp:Nat->Bool}(hL:L.all (Mo L)=true)(Q8:LI.all (okF LI false Mp)=true){f:FuncId}{fn:Func}{tm:Tmp}(hf:V.prog.funcs[f]? =some fn)(Q9:fn.results=#[.tmp tm])(Kq:f≠163)(Ra:L.contains f=true)(Rb:LI.contains f=true) (Rc:PR.inits.idxOf? f=none){args xs:Array Value}{W v:World}{B:Nat->Prop}{sh:Nat->Option Nat} (hrel:∀b,B b->∃o o',v.heap[b]? =some o/\W.heap[b]? =some o'/\z0 (Hd L B sh) (sh b) o o'/\z0 (Bz LI Mp B sh) (sh b) o o'/\qC v b)(Nz:∀c,W.heap.size<=c->sh c=none)(Rd:dz (Hd L B sh) xs args)(Re:dz (Bz LI Mp B sh) xs args) (hC:∀T:Ta,Go.ck.Below v T->Calls V.prog f xs (cm v T) CG):∃N last o w' t',runNT PR (N+1) (solo (G (Frame.enter PR f args .normal) []) W) #[]=(.ended o w',t')/\runN PR N (solo (G (Frame.enter PR f args .normal) []) W)=.next last/\Go.step PR last=.ended o w'/\
  Go.Conc.Good PR (λx w'=>x=.bool true/\Go.RowKit.Below W.heap.size W w') last o w' t':=by
 have P3:Go.ck.Good V.prog (Hd L B sh):=Eu hL;have P4:Go.ck.Good V.prog (Bz LI Mp B sh):=Ev Q8;have ev:(V.prog.fj PR.funcs)=PR:=Ib;have hinv:Inv V.prog ⟨Frame.enter V.prog f xs .normal,[floor],v⟩:=by
  have h:Inv V.prog ⟨Frame.enter V.prog f xs .normal,[floor],cm v (mw v W)⟩:=
   ⟨Bz LI Mp B sh,W,G (Frame.enter (V.prog.fj (Bz LI Mp B sh).fs) f args .normal) [],P4,λ_=>rfl,WR.mw ⟨λb c hr=>by obtain⟨rfl,hb⟩:=hr;obtain⟨o,o',h1,h2,_,h3,_⟩:=hrel b hb;exact⟨o,o',h1,h2,h3⟩,Nz⟩,nF P4 Rb Re .normal (.inl rfl),⟨[],[],rfl,rfl,.nil⟩,⟨rfl,rfl⟩,⟨rfl,rfl⟩,⟨rfl,rfl⟩⟩
  exact h.cm v.tape
 have LW:Go.ck.Reach V.prog (oe f (λx _=>x=.bool true)) ⟨Frame.enter V.prog f xs .normal,[floor],v⟩:=by
  refine mK oe.callers (λc T hi hs=>?_) hinv λT hT=>?_
  ·rcases hs with hs|⟨h1,h2,h3,h4,h5⟩
   ·exact .inl (Go.ck.Left.cm (λx w T h=>h) c T hi hs)
   ·exact .inr ⟨h1,h2,h3,h4,h5.cm T⟩
  ·obtain⟨e,w',fr,hp,hs,Me,hl⟩:=hC T hT [floor];rcases hp with rfl|⟨rfl,hp⟩
   ·obtain⟨n,hn⟩:=hs;exact⟨n,fr,[floor],w',hn,.inl ⟨rfl,Me,_,rfl,hl⟩⟩
   ·obtain⟨n,hn⟩:=hs;exact⟨n,fr,[floor],w',hn,.inr ⟨rfl,Me,hl.1,hl.2.1,hp⟩⟩
 have hI:xp V.prog PR.funcs W (Hd L B sh) (λ_=>False) ⟨Frame.enter V.prog f xs .normal,[floor],v⟩ #[G (Frame.enter (V.prog.fj PR.funcs) f args .normal) []] (G (Frame.enter (V.prog.fj PR.funcs) f args .normal) []) W #[] (λ_=>0):=by
  refine⟨hinv,P3,rfl,rfl,⟨nF P3 Ra Rd .normal (.inl rfl),⟨[],[],rfl,rfl,.nil⟩,⟨rfl,rfl⟩,⟨rfl,rfl⟩,⟨rfl,rfl⟩⟩,⟨λb c hr=>?_,Nz⟩,⟨λi g hi hg=>?_,λj _=>Go.ConcN.Deaf_absent (by simp)⟩,?_,λb h=>h.elim,λ_ _ _ h=>h,λb c hr hc=>?_,Nat.le_refl _,λ_ _=>rfl,⟨rfl,rfl,rfl⟩,⟨λg hg=>?_,rfl,λ⟨g,hg⟩=>by cases hg⟩⟩
  ·obtain⟨rfl,hb⟩:=hr;obtain⟨o,o',h1,h2,h3,_,_⟩:=hrel b hb;exact⟨o,o',h1,h2,h3⟩
  ·have:i<1:=(Array.getElem?_eq_some_iff.1 hg).1;omega
  ·have h:=past_nil;exact⟨h.clean,λi a ha hm=>by simp[touchAt,Trace.act?]at ha,h.over,h.hears,λop MB=>by simp at MB⟩
  ·obtain⟨rfl,hb⟩:=hr;obtain⟨_,_,_,_,_,_,h⟩:=hrel b hb;exact h
  ·have e:g=163:=by
    have:(g==163)=true:=hg;simpa using this
   subst e;rw[V.func163,show PR.funcs[163]? =some Tryz.f163 from Tryz.func163];intro e;have:=congrArg Func.ntmps (Option.some.inj e);rw[Tryz.ntmps163]at this;cases this
 obtain⟨N,xq,w',oX,t',q',c',jr,X',a',r1,r2,r3,_⟩:=lead (fs:=PR.funcs) oe.callers (IM D8 Kq W) _ LW _ _ _ _ _ none _ _ hI
 have Rf:Go.ck.Left V.prog f (λx _=>x=.bool true) c'.fr c'.cl c'.v:=by
  rcases r3 with h|⟨h1,h2,h3,h4,h5⟩
  ·exact h
  ·exfalso;have Ad:cM V.prog jr c'.fr a'.frame:=by
    have rZ:=r2.gor.fr;generalize Ad:(G c'.fr c'.cl).frame=fr at rZ;generalize CP:a'.frame=kR at rZ;cases rZ with
    |fr hf=>subst Ad;exact hf
    | @hole g hS hh xs xs' hx=>
     have:c'.fr=Frame.enter V.prog g xs .normal:=Ad;rw[this]at h3;cases h3
   have hm:=Ad.mode;rw[h3]at hm;generalize a'.frame.mode=m at hm;cases hm with
   |panicking hc=>
    unfold fI at hc;cases hc with
    |cons hp _=>
     rcases hp.ok with h|h
     ·exact r2.holes.2.2 h
     ·exact h 3 _ _ rfl
 have Rg:jr.hole f=false:=by
  cases h:jr.hole f with
  |false=>rfl
  |true=>
   exfalso;exact r2.holes.1 f h (V.rH f Kq)
 obtain⟨M,last,o,w2,t2,s1,s2,s3,s4⟩:=r2.ends (sl:=oX) Rf hf Q9 Rg (by rw[ev];exact Rc) (Post:=λx w'=>x=.bool true/\Go.RowKit.Below W.heap.size W w') λx x' d hx hv=>by subst hx;cases hv;exact⟨rfl,r2.world.2.1,r2.world.1,r2.world.2.2,r2.grown,λb hb=>r2.kept b hb⟩
 rw[ev]at r1 s1 s2 s3 s4;have vW:runNT PR (N+(M+1)) (solo (G (Frame.enter PR f args .normal) []) W) #[]=(.ended o w2,t2):=(runNT_then r1).trans s1;refine⟨N+M,last,o,w2,t2,vW,?_,s3,s4⟩;have h1:runNT PR (N+M) (solo (G (Frame.enter PR f args .normal) []) W) #[]=runNT PR M (crowd xq w' oX) t':=runNT_then r1;have h2:=runNT_fst PR (N+M) (solo (G (Frame.enter PR f args .normal) []) W) #[];rw[h1,runNT_fst,s2]at h2;exact h2.symm
def O9(f:Nat):Bool:=f==190||f==163
def Hh(b a:Nat)(c:Nat):Option Nat:=if c=b then some a else none
theorem Ew{L H:List Nat}{I:Nat->Bool}(U:L.all (Mo L)=true)(q:H.all (okF H false I)=true){f:FuncId}{fn:Func}{tm:Tmp}(X:V.prog.funcs[f]? =some fn)(s:fn.results=#[.tmp tm])(l:f≠163)(u:L.contains f=true)(z:H.contains f=true)
 (A:PR.inits.idxOf? f=none)(hC:∀(ns:List Int) (la:Option Addr) (lc:Nat) (w:World),gM w la ns->ns.length<=9223372036854775807->Calls V.prog f #[.slice la ns.length lc] w (pJ λv w'=>v=.bool true/\Ext w w'))
 {W:World}{a:Option Addr}{d cap:Nat}{zs:List Int}(g:zs.length=d)(Y:d<=9223372036854775807)(ha:∀ad,a=some ad->ad.spot=none/\(∃x,W.shape? ad.block=some x)/\∀i,i<d->W.cell? (ad.add i)=some (.int .i64 (zs.getD i 0)))(hn:a=none->d=0):∃N last o w' Z,runNT PR (N+1) (solo (G (Frame.enter PR f #[.slice a d cap] .normal) []) W) #[]=(.ended o w',Z)/\runN PR N (solo (G (Frame.enter PR f #[.slice a d cap] .normal) []) W)=.next last/\Go.step PR last=.ended o w'/\Go.Conc.Good PR (λx w'=>x=.bool true/\Go.RowKit.Below W.heap.size W w') last o w' Z:=by
 have m:∀{ns:List Int} {la:Option Addr} {w:World},gM w la ns->ns.length<=9223372036854775807->Calls V.prog f #[.slice la ns.length cap] w CG:=λJ Y=>(hC _ _ _ _ J Y).mono λe w' h=>by
  rcases h with⟨v,rfl,rfl,_⟩|h
  ·exact .inl rfl
  ·exact .inr h
 cases a with
 |none=>
  obtain rfl:=hn rfl;have hz:zs=[]:=List.eq_nil_of_length_eq_zero g;refine zU (v:=W) (B:=λ_=>False) (sh:=λ_=>none) U q X s l u z A (λb h=>h.elim) (λ_ _=>rfl) (xs:=#[.slice none 0 cap]) (dz.one (.dF _ _)) (dz.one (.dF _ _)) λT hT=>?_;exact m (ns:=[]) (la:=none) (λk K=>by simp at K) (by simp)
 |some ad=>
  obtain⟨b,j,aa⟩:=ad;obtain⟨rfl,⟨x,C⟩,hc⟩:=ha _ rfl;obtain⟨F,t,M,O⟩:∃F t M,W.heap[b]? =some (.cells F t M):=by
   simp only[World.shape?]at C;split at C
   ·rename_i c e f h;exact⟨c,e,f,h⟩
   ·cases C
  have hb:=lt_of_heap O;have P:({W with heap:=W.heap.setIfInBounds b (.cells (zs.map (Value.int .i64)).toArray mG (0,d))}:World).heap[b]? =some (.cells (zs.map (Value.int .i64)).toArray mG (0,d)):=by simp[hb]
  have n:∀ρ:cx,Mq ρ j (.cells (zs.map (Value.int .i64)).toArray mG (0,d)) (.cells F t M):=λρ=>by
   refine⟨_,_,_,_,_,rfl,rfl,λo Q=>⟨Nat.zero_le _,by simpa[g]using Q⟩,λi y R=>?_⟩;have hi:i<zs.length:=by have:=(Array.getElem?_eq_some_iff.1 R).1;simpa using this
   have S:y=.int .i64 zs[i]:=by simp[List.getElem?_eq_getElem hi]at R;exact R.symm
   have h:=hc i (by omega);rw[eN]at h;simp only[World.cell?,O]at h;refine⟨.int .i64 zs[i],?_,by rw[S];exact .int _ _⟩;rw[Nat.add_comm];rw[getD_eq hi]at h;simpa using h
  have p:Hh b j b=some j:=by simp[Hh]
  have D:∀ρ:cx,ρ.r b b->ρ.sh=Hh b j->dz ρ #[.slice (some ⟨b,0,none⟩) d cap] #[.slice (some ⟨b,j,none⟩) d cap]:=λρ J hs=>by refine dz.one (.slice _ _ ?_);have h:=AR.mk (ρ:=ρ) 0 none J;rw[hs,p]at h;simpa using h
  refine zU (v:={W with heap:=W.heap.setIfInBounds b (.cells (zs.map (Value.int .i64)).toArray mG (0,d))}) (B:=λx=>x=b) (sh:=Hh b j) U q X s l u z A (λx C=>?_) (λc hc=>?_) (xs:=#[.slice (some ⟨b,0,none⟩) d cap]) (D _ ⟨rfl,rfl⟩ rfl) (D _ ⟨rfl,rfl⟩ rfl) λT hT=>?_
  ·subst C;refine⟨_,_,P,O,?_,?_,?_⟩
   ·rw[p];exact .inr ⟨_,rfl,n _⟩
   ·rw[p];exact .inr ⟨_,rfl,n _⟩
   ·exact⟨_,_,_,P,λo Q=>⟨Nat.zero_le _,by simpa[g]using Q⟩⟩
  ·unfold Hh;rw[if_neg (by omega)]
  ·have E:gM (cm {W with heap:=W.heap.setIfInBounds b (.cells (zs.map (Value.int .i64)).toArray mG (0,d))} T) (some ⟨b,0,none⟩) zs:=λk K=>⟨b,0,rfl,by
    show(match({W with heap:=W.heap.setIfInBounds b (.cells (zs.map (Value.int .i64)).toArray mG (0,d))}:World).heap[b]? with|some (.cells F _ _)=>_|_=>_)=_;rw[P];simp[List.getElem?_eq_getElem K]⟩
   have h:=m E (by omega);rw[g]at h;exact h
end Go.Proofs.W
namespace Go.Proofs.W
def Ha:List Nat:=[16,26,27,28,30,35,38,42,43,44,48,53,55,58,59,60,61,68,69,71,85,95,96,97,104,105,106,107,108,109,113,114,115,116,117,119,120,121,122,123,125,128,129,130,131,133,134,135,137,144,146,153,154,155,156,157,158,159,160,161,162,163,164,165,166,167,168,169,170,171,172,173,174,175,176,178,179,180,184,185,186,195,196,197,198,199,200,201,222,231]
def Bx:List Nat:=[16,26,27,28,30,35,38,42,43,44,48,53,55,58,59,60,61,68,69,71,85,95,96,97,104,105,106,107,108,109,113,114,115,116,117,119,120,121,122,123,125,128,129,130,131,133,134,135,137,144,146,153,154,155,156,157,158,159,160,161,162,163,164,165,166,167,168,169,170,171,172,173,174,175,176,178,179,180,184,185,186,190,194,195,196,197,198,199,200,201,215,216,222,227,228,229,231]
theorem Hb:Ha.all (Mo Ha)=true:=by kernel_rfl
theorem Ep:Bx.all (okF Bx false O9)=true:=by kernel_rfl
end Go.Proofs.W
namespace Go.Proofs.YteeagjkaflglpaaGreat
def uf:List Nat:=[104,97,114,110,101,115,115,32,57,50,97,100,50,98,97,99,48,55,54,101,55,50,53,57,51,57,102,48,99,57,54,48,101,55,53,98,51,102,53,99,100,51,56,49,57,97,56,97,50,54,55,57,98,50,57,54,49,102,56,48,52,49,55,101,50,98,55,49,99,101,50,50,32,99,117,116,32,97,116,32,119,97,121,122,103,111,111,115,101,47,119,97,121,122,103,111,111,115,101,108,97,119,48,50,46,82,111,117,110,100,83,101,114,118,101,115,32,119,97,121,122,103,111,111,115,101,47,119,97,121,122,103,111,111,115,101,108,97,119,48,50,46,82,111,117,110,100,82,101,118,101,114,115,101,100,32,119,97,121,122,103,111,111,115,101,47,119,97,121,122,103,111,111,115,101,108,97,119,48,50,46,82,111,117,110,100,80,108,97,110,115,32,119,97,121,122,103,111,111,115,101,47,119,97,121,122,103,111,111,115,101,108,97,119,48,50,46,82,111,117,110,100,70,101,119,101,115,116,32,119,97,121,122,103,111,111,115,101,47,119,97,121,122,103,111,111,115,101,108,97,119,48,50,46,82,111,117,110,100,83,101,114,118,101,100,32,119,97,121,122,103,111,111,115,101,47,119,97,121,122,103,111,111,115,101,108,97,119,48,50,46,82,111,117,110,100,76,97,116,101,114,32,119,97,121,122,103,111,111,115,101,47,119,97,121,122,103,111,111,115,101,108,97,119,48,50,46,82,111,117,110,100,76,101,102,116,32,119,97,121,122,103,111,111,115,101,47,119,97,121,122,103,111,111,115,101,108,97,119,48,50,46,82,111,117,110,100,69,97,115,105,101,114,32,119,97,121,122,103,111,111,115,101,47,119,97,121,122,103,111,111,115,101,108,97,119,48,50,46,82,111,117,110,100,82,101,110,117,109,98,101,114,101,100,32,119,97,121,122,103,111,111,115,101,47,119,97,121,122,103,111,111,115,101,108,97,119,48,50,46,82,111,117,110,100,76,111,115,116,32,119,97,121,122,103,111,111,115,101,47,119,97,121,122,103,111,111,115,101,108,97,119,48,50,46,82,111,117,110,100,66,101,103,105,110,115,32,119,97,121,122,103,111,111,115,101,47,119,97,121,122,103,111,111,115,101,108,97,119,48,50,46,82,111,117,110,100,83,104,111,114,116,101,115,116,32,119,97,121,122,103,111,111,115,101,47,119,97,121,122,103,111,111,115,101,108,97,119,48,50,46,82,111,117,110,100,68,105,118,105,100,101,100,32,119,97,121,122,103,111,111,115,101,47,119,97,121,122,103,111,111,115,101,108,97,119,48,50,46,82,111,117,110,100,84,97,107,101,115,32,119,97,121,122,103,111,111,115,101,47,119,97,121,122,103,111,111,115,101,108,97,119,48,50,46,82,111,117,110,100,68,117,101,32,119,97,121,122,103,111,111,115,101,47,119,97,121,122,103,111,111,115,101,108,97,119,48,50,46,82,111,117,110,100,65,102,116,101,114,32,119,97,121,122,103,111,111,115,101,47,119,97,121,122,103,111,111,115,101,108,97,119,48,50,46,82,111,117,110,100,76,97,115,116,32,119,97,121,122,103,111,111,115,101,47,119,97,121,122,103,111,111,115,101,108,97,119,48,50,46,82,111,117,110,100,76,111,103,115,32,119,97,121,122,103,111,111,115,101,47,119,97,121,122,103,111,111,115,101,108,97,119,48,50,46,82,111,117,110,100,87,97,108,107,115,32,119,97,121,122,103,111,111,115,101,47,119,97,121,122,103,111,111,115,101,108,97,119,48,50,46,82,111,117,110,100,78,101,119,115,32,119,97,121,122,103,111,111,115,101,47,119,97,121,122,103,111,111,115,101,108,97,119,48,50,46,82,111,117,110,100,87,97,108,107,101,100,32,119,97,121,122,103,111,111,115,101,47,119,97,121,122,103,111,111,115,101,108,97,119,48,50,46,82,111,117,110,100,75,110,111,119,110]
theorem NB:Tryz.pinned.checked.prog.initOrder=String.ofList (uf.map Char.ofNat):=by kernel_rfl
theorem Jd:Tryz.pinned.checked.prog.initOrder.toList=uf.map Char.ofNat:=by rw[NB,String.toList_ofList]
theorem Je:(behindMainWord (wordsSigns (uf.map Char.ofNat))).head?=some "cut".toList:=by kernel_rfl
theorem Jf:∃r,behindMainWord (wordsSigns (uf.map Char.ofNat))= "cut".toList::r:=by
 have h:=Je;revert h;generalize behindMainWord (wordsSigns (uf.map Char.ofNat))=l;intro h;cases l with
 |nil=>cases h
 |cons x r=>exact⟨r,by rw[Option.some.inj h]⟩
theorem t1:("cut".toList== "gc".toList)=false:=by kernel_rfl
theorem t2:("cut".toList== "spec".toList)=false:=by kernel_rfl
theorem t3:("cut".toList== "cut".toList)=true:=by kernel_rfl
theorem t4:("cut".toList== "carried".toList)=false:=by kernel_rfl
theorem t5(r:List (List Char)):(stripLifts liftWords ("cut".toList::r))=([], "cut".toList::r):=by kernel_rfl
theorem t9:((some "cut".toList:Option (List Char))==some "cut".toList)=true:=by kernel_rfl
theorem t10:([]:List String).contains "finals" =false:=by kernel_rfl
theorem t11:([]:List String).contains "reflectrows" =false:=by kernel_rfl
theorem t12:([]:List String).contains "leanrows" =false:=by kernel_rfl
theorem Jg(P:Program)(r:List (List Char))(h:behindMainWord (wordsSigns P.initOrder.toList)= "cut".toList::r):P.make=some .cut:=by unfold Program.make;rw[h];dsimp only;rw[t1,t2,t3,Bool.or_self,if_neg Bool.false_ne_true,Bool.true_or,if_pos rfl]
theorem zV(P:Program)(r:List (List Char))(h:behindMainWord (wordsSigns P.initOrder.toList)= "cut".toList::r)(a:P.laysLater=false)(b:P.bearsReflect=false)(c:P.doorFits []=true):P.mayEnter=true:=by unfold Program.mayEnter;rw[h];dsimp only;rw[t5,t1,t2,t4,a,b,c];dsimp only;rw[List.head?_cons,t9,t10,t11,t12];rfl
theorem uA(P:Program)(r:List (List Char))(h:behindMainWord (wordsSigns P.initOrder.toList)= "cut".toList::r):P.liftsFinal=false:=by unfold Program.liftsFinal Program.headLifts;rw[h];kernel_rfl
theorem xg:∃r,behindMainWord (wordsSigns Tryz.pinned.checked.prog.initOrder.toList)= "cut".toList::r:=by rw[Jd];exact Jf
theorem t6:Tryz.pinned.checked.prog.laysLater=false:=by kernel_rfl
theorem t7:Tryz.pinned.checked.prog.bearsReflect=false:=by kernel_rfl
theorem t8:Tryz.pinned.checked.prog.doorFits []=true:=by kernel_rfl
theorem Jh:Tryz.pinned.checked.prog.mayEnter=true:=xg.elim λr h=>zV _ r h t6 t7 t8
theorem Hi:Tryz.pinned.checked.prog.liftsFinal=false:=xg.elim λr h=>uA _ r h
theorem t14:(Rows.roundTakesRow.lifted==false)=true:=by kernel_rfl
theorem Ji:(Rows.roundTakesRow.lifted==Tryz.pinned.checked.prog.liftsFinal)=true:=(congrArg (λx=>Rows.roundTakesRow.lifted==x) Hi).trans t14
theorem Hj:Tryz.pinned.checked.prog.make=some .cut:=xg.elim λr h=>Jg _ r h
theorem t13:(some Make.cut==some Rows.roundTakesRow.make)=true:=by kernel_rfl
theorem Jj:(Tryz.pinned.checked.prog.make==some Rows.roundTakesRow.make)=true:=(congrArg (λx=>x==some Rows.roundTakesRow.make) Hj).trans t13
theorem gU{a b:Bool}(h:a=true)(k:b=true):(a&&b)=true:=by rw[h,k];rfl
theorem LY:((λ(P:Program) (f:FuncId) (fn:Func) (s:ChangeSpec) (c:OpenClaim)=>(c.wf (OpenSpec.ofChange s):Bool)) Tryz.pinned.checked.prog 16 Tryz.f16 Rows.roundTakesSpec Rows.roundTakesRow)=true:=by kernel_rfl
theorem LZ:((λ(P:Program) (f:FuncId) (fn:Func) (s:ChangeSpec) (c:OpenClaim)=>(laidOutB P:Bool)) Tryz.pinned.checked.prog 16 Tryz.f16 Rows.roundTakesSpec Rows.roundTakesRow)=true:=by kernel_rfl
theorem L1:((λ(P:Program) (f:FuncId) (fn:Func) (s:ChangeSpec) (c:OpenClaim)=>(mapsRowed P:Bool)) Tryz.pinned.checked.prog 16 Tryz.f16 Rows.roundTakesSpec Rows.roundTakesRow)=true:=by kernel_rfl
theorem L3:((λ(P:Program) (f:FuncId) (fn:Func) (s:ChangeSpec) (c:OpenClaim)=>(fn.params.all (P.readableRec ·):Bool)) Tryz.pinned.checked.prog 16 Tryz.f16 Rows.roundTakesSpec Rows.roundTakesRow)=true:=by kernel_rfl
theorem L4:((λ(P:Program) (f:FuncId) (fn:Func) (s:ChangeSpec) (c:OpenClaim)=>(namedTie P c.named s.vars:Bool)) Tryz.pinned.checked.prog 16 Tryz.f16 Rows.roundTakesSpec Rows.roundTakesRow)=true:=by kernel_rfl
theorem L5:((λ(P:Program) (f:FuncId) (fn:Func) (s:ChangeSpec) (c:OpenClaim)=>((c.stops==[]):Bool)) Tryz.pinned.checked.prog 16 Tryz.f16 Rows.roundTakesSpec Rows.roundTakesRow)=true:=by kernel_rfl
theorem L6:((λ(P:Program) (f:FuncId) (fn:Func) (s:ChangeSpec) (c:OpenClaim)=>((P.stops==[]):Bool)) Tryz.pinned.checked.prog 16 Tryz.f16 Rows.roundTakesSpec Rows.roundTakesRow)=true:=by kernel_rfl
theorem L8:((λ(P:Program) (f:FuncId) (fn:Func) (s:ChangeSpec) (c:OpenClaim)=>((c.knobs==[]):Bool)) Tryz.pinned.checked.prog 16 Tryz.f16 Rows.roundTakesSpec Rows.roundTakesRow)=true:=by kernel_rfl
theorem L9:((λ(P:Program) (f:FuncId) (fn:Func) (s:ChangeSpec) (c:OpenClaim)=>((P.stopKnobs==[]):Bool)) Tryz.pinned.checked.prog 16 Tryz.f16 Rows.roundTakesSpec Rows.roundTakesRow)=true:=by kernel_rfl
theorem Ma:((λ(P:Program) (f:FuncId) (fn:Func) (s:ChangeSpec) (c:OpenClaim)=>((c.inPlace==P.inPlace f):Bool)) Tryz.pinned.checked.prog 16 Tryz.f16 Rows.roundTakesSpec Rows.roundTakesRow)=true:=by kernel_rfl
theorem Jk:((λ(P:Program) (f:FuncId) (fn:Func) (s:ChangeSpec) (c:OpenClaim)=>((c.unfollowed==P.unfollowed f):Bool)) Tryz.pinned.checked.prog 16 Tryz.f16 Rows.roundTakesSpec Rows.roundTakesRow)=true:=by kernel_rfl
theorem Jl:((λ(P:Program) (f:FuncId) (fn:Func) (s:ChangeSpec) (c:OpenClaim)=>((c.recurses==P.recurses f):Bool)) Tryz.pinned.checked.prog 16 Tryz.f16 Rows.roundTakesSpec Rows.roundTakesRow)=true:=by kernel_rfl
theorem Jm:((λ(P:Program) (f:FuncId) (fn:Func) (s:ChangeSpec) (c:OpenClaim)=>((c.named==P.varsNamed f):Bool)) Tryz.pinned.checked.prog 16 Tryz.f16 Rows.roundTakesSpec Rows.roundTakesRow)=true:=by kernel_rfl
theorem Jn:((λ(P:Program) (f:FuncId) (fn:Func) (s:ChangeSpec) (c:OpenClaim)=>((c.maps==(fn.params.toList++s.plain.varTypes P).any (P.mapsRec ·)):Bool)) Tryz.pinned.checked.prog 16 Tryz.f16 Rows.roundTakesSpec Rows.roundTakesRow)=true:=by kernel_rfl
theorem Jo:((λ(P:Program) (f:FuncId) (fn:Func) (s:ChangeSpec) (c:OpenClaim)=>((c.ifaces==(fn.params.toList++s.plain.varTypes P).any (P.ifacesRec ·)):Bool)) Tryz.pinned.checked.prog 16 Tryz.f16 Rows.roundTakesSpec Rows.roundTakesRow)=true:=by kernel_rfl
theorem Jp:((λ(P:Program) (f:FuncId) (fn:Func) (s:ChangeSpec) (c:OpenClaim)=>((c.mapsOut==P.mapsAmong fn.resultTypes.toList):Bool)) Tryz.pinned.checked.prog 16 Tryz.f16 Rows.roundTakesSpec Rows.roundTakesRow)=true:=by kernel_rfl
theorem Jq:((λ(P:Program) (f:FuncId) (fn:Func) (s:ChangeSpec) (c:OpenClaim)=>((c.loops==(fn.params.toList++s.plain.varTypes P).any (P.loopsFrom ·)):Bool)) Tryz.pinned.checked.prog 16 Tryz.f16 Rows.roundTakesSpec Rows.roundTakesRow)=true:=by kernel_rfl
theorem Jr:((λ(P:Program) (f:FuncId) (fn:Func) (s:ChangeSpec) (c:OpenClaim)=>((c.wideKeys==(fn.params.toList++s.plain.varTypes P++fn.resultTypes.toList).any (P.wideKeysFrom ·)):Bool)) Tryz.pinned.checked.prog 16 Tryz.f16 Rows.roundTakesSpec Rows.roundTakesRow)=true:=by kernel_rfl
theorem Js:((λ(P:Program) (f:FuncId) (fn:Func) (s:ChangeSpec) (c:OpenClaim)=>(s.vars.all (P.varReadable ·):Bool)) Tryz.pinned.checked.prog 16 Tryz.f16 Rows.roundTakesSpec Rows.roundTakesRow)=true:=by kernel_rfl
theorem Jt:((λ(P:Program) (f:FuncId) (fn:Func) (s:ChangeSpec) (c:OpenClaim)=>(fn.resultTypes.all (λt=>P.readableRec t&&decide (t<P.types.size)):Bool)) Tryz.pinned.checked.prog 16 Tryz.f16 Rows.roundTakesSpec Rows.roundTakesRow)=true:=by kernel_rfl
theorem Ju:((λ(P:Program) (f:FuncId) (fn:Func) (s:ChangeSpec) (c:OpenClaim)=>((c.ifacesOut==fn.resultTypes.toList.any (P.ifacesRec ·)):Bool)) Tryz.pinned.checked.prog 16 Tryz.f16 Rows.roundTakesSpec Rows.roundTakesRow)=true:=by kernel_rfl
theorem Jv:((λ(P:Program) (f:FuncId) (fn:Func) (s:ChangeSpec) (c:OpenClaim)=>((c.loopsOut==fn.resultTypes.toList.any (P.loopsFrom ·)):Bool)) Tryz.pinned.checked.prog 16 Tryz.f16 Rows.roundTakesSpec Rows.roundTakesRow)=true:=by kernel_rfl
theorem Jw:((λ(P:Program) (f:FuncId) (fn:Func) (s:ChangeSpec) (c:OpenClaim)=>((c.plainKeys==P.plainKeys):Bool)) Tryz.pinned.checked.prog 16 Tryz.f16 Rows.roundTakesSpec Rows.roundTakesRow)=true:=by kernel_rfl
theorem Jx:((λ(P:Program) (f:FuncId) (fn:Func) (s:ChangeSpec) (c:OpenClaim)=>(c.shortTexts.isNone:Bool)) Tryz.pinned.checked.prog 16 Tryz.f16 Rows.roundTakesSpec Rows.roundTakesRow)=true:=by kernel_rfl
theorem Jy:((λ(P:Program) (f:FuncId) (fn:Func) (s:ChangeSpec) (c:OpenClaim)=>(P.stopsHeard:Bool)) Tryz.pinned.checked.prog 16 Tryz.f16 Rows.roundTakesSpec Rows.roundTakesRow)=true:=by kernel_rfl
theorem Jz:((λ(P:Program) (f:FuncId) (fn:Func) (s:ChangeSpec) (c:OpenClaim)=>((c.kinds==(if c.domain.isEmpty then []else fn.params.toList.map λt=>match P.underlying t with|some (.int k)=>some k|_=>none)):Bool)) Tryz.pinned.checked.prog 16 Tryz.f16 Rows.roundTakesSpec Rows.roundTakesRow)=true:=by kernel_rfl
theorem JA:((λ(P:Program) (f:FuncId) (fn:Func) (s:ChangeSpec) (c:OpenClaim)=>((c.pinned==c.pinnedBy):Bool)) Tryz.pinned.checked.prog 16 Tryz.f16 Rows.roundTakesSpec Rows.roundTakesRow)=true:=by kernel_rfl
theorem JB:((λ(P:Program) (f:FuncId) (fn:Func) (s:ChangeSpec) (c:OpenClaim)=>((c.veiled==(fn.params.toList++s.plain.varTypes P++fn.resultTypes.toList).any (P.veiledRec ·)):Bool)) Tryz.pinned.checked.prog 16 Tryz.f16 Rows.roundTakesSpec Rows.roundTakesRow)=true:=by kernel_rfl
theorem JC:((λ(P:Program) (f:FuncId) (fn:Func) (s:ChangeSpec) (c:OpenClaim)=>(c.veiledFits P fn.params.toList (fn.params.toList++s.plain.varTypes P++fn.resultTypes.toList):Bool)) Tryz.pinned.checked.prog 16 Tryz.f16 Rows.roundTakesSpec Rows.roundTakesRow)=true:=by kernel_rfl
theorem BA:joinedFacts Tryz.pinned.checked.prog 16 Tryz.f16 Rows.roundTakesSpec Rows.roundTakesRow=true:=by unfold joinedFacts;exact(gU (gU (gU (gU (gU (gU (gU (gU (gU (gU (gU (gU (gU (gU (gU (gU (gU (gU (gU (gU (gU (gU (gU (gU (gU (gU (gU (gU (gU (gU (gU LY LZ) L1) L3) L4) L5) L6) L8) L9) Ma) Jk) Jl) Jm) Jn) Jo) Jp) Jq) Jr) Js) Jt) Ju) Jv) Jw) Jx) Jy) Jh) Ji) Jj) Jz) JA) JB) JC)
end Go.Proofs.YteeagjkaflglpaaGreat
namespace Go.Proofs.YteeagjkaflglpaaGreat
open Go.ChangeShapes Go.WideShapes Go.ChangeAt Go.RowKit Go.Conc
theorem Tryz.own:ownKnob Tryz.prog.godebug=none:=by kernel_rfl
theorem Tryz.laidOut:laidOutB Tryz.prog=true:=by kernel_rfl
theorem Tryz.Mb:Tryz.prog.cellsOf 3=1:=by kernel_rfl
theorem Tryz.pj:Tryz.prog.underlying 27=some (.slice 3):=by kernel_rfl
theorem Tryz.I7:Tryz.prog.underlying 3=some (.int .i64):=by kernel_rfl
theorem Tryz.Pa:Tryz.prog.underlying 4=some .bool:=by kernel_rfl
theorem Ex{P:Program}{w:World}{r:Reach}{b:Nat}{t e:TypeId}{a:Addr}{l c:Nat}(d:P.underlying t=some (.slice e))(h:Value.okWide P w r b t (.slice (some a) l c)):a.spot=none/\∃x,w.shape? a.block=some x:=by simp only[Value.okWide,d,Cell.okWide,Cell.ok]at h;obtain⟨_,_,_,f,g,cells,i,_⟩:=h;exact⟨f,_,i⟩
theorem rF(Z:Os)(f:Z.Started)(H:Type)(enc:TypeId×Value->H):ReturnsInLeavingWide {} Tryz.checked Z 16 .any (Rows.roundTakesSpec.pre6 enc Tryz.prog Tryz.f16 Rows.roundTakesRow.domain false) (Rows.roundTakesSpec.post enc Tryz.prog Tryz.f16 false true false false):=by
 refine returnsInLeavingWide_of_change_sized (C:=Tryz.checked) Tryz.own f Tryz.func16 (ChangeSpec.witness6 (enc:=enc) (C:=Tryz.checked) false ⟨#[],#[.slice none 0 0],[]⟩ 8 (by kernel_rfl) (by kernel_rfl) (by kernel_rfl) (by kernel_rfl)) ?_;intro g D r ds gs N k hW _ _ _;have s:∀(j:Nat) t v,Tryz.f16.params[j]? =some t->r[j]? =some v->Value.okWide Tryz.prog g .any D t v:=k;have u:=hW;obtain⟨p,q,E,hV,rfl,_,_⟩:=hW;have hA:DataW.TrodAll enc Tryz.prog g 0 (λ_=>true) true Tryz.f16.params.toList r.toList ds p:=E;have F:Tryz.f16.params=#[27]:=by kernel_rfl
 rw[F]at hA s;obtain⟨v0,d0,rfl,rfl,h0⟩:=trodAll_one hA;obtain⟨rfl,rfl⟩:=trodVars_none hV;have I:=s 0 27 v0 rfl rfl;obtain⟨A,c,cap,rfl⟩:=okWide_slice Tryz.pj I;have P:=h0;obtain⟨aa,hf⟩:=h0;clear E k;simp only[List.append_nil]at u;have Q:∀x∈p,x.block<g.heap.size:=λx R=>by simpa using u.lt x R
 have y:∀(l:World),Go.RowKit.Below g.heap.size g l->DataW.Trod enc Tryz.prog l 0 (λb=>decide (b<g.heap.size)) true 27 (.slice A c cap) d0 p:=
  λl S=>Below.trod Tryz.laidOut (by kernel_rfl) (of_decide_eq_true (by kernel_rfl)) P S Q
 have m:∀(J:List Int),J.length=c->c<=9223372036854775807->(∀B,A=some B->B.spot=none/\(∃x,g.shape? B.block=some x)/\∀i,i<c->g.cell? (B.add i)=some (.int .i64 (J.getD i 0)))->(A=none->c=0)->∃M last o K O,runNT Tryz.checked.prog (M+1) (solo (G (Frame.enter Tryz.checked.prog 16 #[.slice A c cap] .normal) []) g) #[]=(.ended o K,O)/\runN Tryz.checked.prog M (solo (G (Frame.enter Tryz.checked.prog 16 #[.slice A c cap] .normal) []) g)=.next last/\step Tryz.checked.prog last=.ended o K/\
   Conc.Good Tryz.checked.prog (λv l=>Rows.roundTakesSpec.post enc Tryz.checked.prog Tryz.f16 false true false false g #[.slice A c cap] v l) last o K O:=by
  intro J T S U L;obtain⟨M,last,o,K,O,X,Y,h3,h4⟩:=Go.Proofs.W.Ew Go.Proofs.W.Hb Go.Proofs.W.Ep (Go.Proofs.W.V.fn Tryz.func16 (by decide)) (tm:=2) (by kernel_rfl) (by decide) (by decide) (by decide) (by kernel_rfl) (λns la lc w X Y=>Go.Proofs.W.vK X Y) T S U L (cap:=cap);refine⟨M,last,o,K,O,X,Y,h3,h4.mono λv hF=>?_⟩;obtain⟨rfl,d⟩:=hF;exact⟨_,_,_,[],p,[],u,trodAll_mk1 (shut_bool Tryz.Pa true),trodAll_mk1 (y _ d),rfl,d.frame _,λh=>by cases h⟩
 rcases open_ints Tryz.pj Tryz.I7 Tryz.Mb hf with⟨n,R⟩|⟨a,ab,ac,J,n,_,hl,hm,T,R,z,ae⟩
 ·simp[Value.cells]at n;obtain⟨rfl,rfl,rfl⟩:=n;exact m [] rfl (by omega) (λB h=>by cases h) λ_=>rfl
 ·simp[Value.cells]at n;obtain⟨rfl,rfl,rfl⟩:=n;simp only[if_true]at T;obtain⟨e1,e2⟩:=Ex Tryz.pj I;refine m (J.take c) (by simp;omega) (by simp only[maxLen]at hm;omega) (λB e=>?_) (λh=>by cases h);cases e;refine⟨e1,e2,λi hi=>?_⟩;rw[z i (by omega)];simp[List.getD_eq_getElem?_getD,hi]
theorem Ey:Tryz.pinned.checked.prog.funcNamed Rows.roundTakesRow.func=some 16:=by kernel_rfl
theorem Hk:Tryz.f16.isInstance Tryz.pinned.checked.prog Rows.roundTakesRow.origin Rows.roundTakesRow.targs:=of_decide_eq_true (by kernel_rfl)
theorem Hl:Tryz.f16.isWrapper Tryz.pinned.checked.prog Rows.roundTakesRow.wrapper Rows.roundTakesRow.mainSum:=by unfold Func.isWrapper;first|(rw[if_pos (by decide+kernel)];kernel_rfl)|(rw[if_neg (by decide+kernel)];exact⟨rfl,rfl⟩)
theorem roundTakes_holds:Rows.RoundTakesSaid:=
 OpenClaim.holds_of_wide_leaving 16 Tryz.f16 rfl rfl rfl rfl rfl rfl rfl ⟨rfl,rfl,rfl,rfl,rfl⟩ rfl rfl rfl rfl rfl Ey Tryz.func16 BA Hk Hl (λc a H b _=>rF c a H b)
#print axioms roundTakes_holds
end Go.Proofs.YteeagjkaflglpaaGreat
