/- Laws that the proof needs, part 10. Conditions: none. -/
import Derived.Below
import Derived.Outline
import Derived.Lib.Hide
import Derived.Test.YteeagjkaflglpaaGreatX09
set_option maxRecDepth 100000
set_option maxHeartbeats 8000000
set_option linter.all false
namespace Go.Proofs.W
open Go.Conc Go.cF Go.cF.Cr Go.cF.Wg Go.RowKit Go.Conc.Lib Go.ConcR.Gen
open Go.ConcN Go.ConcN.Gen
open Go.ConcR (KK wgBlock WgAt stA smA mk DC0)
structure KA(pc oc Wg Ch A pb:Nat)(rd:Nat->Prop)(Q:cd->Prop)(R:Array ce->Prop)(w:cd):Prop where
 s:KS pc oc Wg Ch ⟨pb,0,none⟩ rd Q w
 a:∃cs,w.heap[A]? =some (.cells cs 199)/\R cs
 lr:∀b,rd b->b<A
 lw:Wg<A
theorem KA.rely{pc oc Wg Ch A pb:Nat}{Q:cd->Prop}{R:Array ce->Prop}{own rd:Nat->Prop}(c:rd pc)(d:rd oc)(e:own A)(f:ri rd Q):nN own rd (Lv 241 Wg) (KA pc oc Wg Ch A pb rd Q R):=
 λw g b h=>⟨KS.rely c d f w g b h.s,h.a.imp λ_ h=>⟨b.obj (.inl e) h.1,h.2⟩,h.lr,h.lw⟩
def Hd{e:rh}{pc oc Wg Ch n pb L C c0:Nat}{a0:Option Addr}{la:Addr}{Q:cd->Prop}{rd:Nat->Prop}{S:gF}{cs:List Frame}(K:n<=65536)(l:rd pc)(s:rd oc)(t:ri rd Q)(R:0<L) (j:∀w,Q w->MP pb la L C a0 n c0 w)(y:rd pb)(z:rd la.block) (x5 m x24 x25 x26 x27 x28 o:ce)
 (i:∀A B D E F H I J,WK PR 241 Wg true rd S (λx=>cC x\/x=A) (KA pc oc Wg Ch A pb rd Q (·=madeCells lY.cells (n*4)))
  (G (jV.at (yY e pc oc Wg n x5 (.slice (some ⟨A,0,none⟩) n n) undef m x24 x25 x26 x27 x28 o B D E F H I J (.slice (some ⟨A,0,none⟩) n n) undef undef undef undef undef undef undef undef undef undef) [.code (nk.seq kG)]) cs)):
 WK PR 241 Wg true rd S cC (KS pc oc Wg Ch ⟨pb,0,none⟩ rd Q) (G (jV.at (yY e pc oc Wg n x5 undef undef m x24 x25 x26 x27 x28 o undef undef undef undef undef undef undef undef undef undef undef undef undef undef undef undef undef undef) [.code (Go.Code.region 12 mI false),.code (nk.seq kG)]) cs):=by
 have c:nN cC rd (Lv 241 Wg) (KS pc oc Wg Ch ⟨pb,0,none⟩ rd Q):=KS.rely l s t;refine WK.ctl c rfl (λ_=>jl) ?_;simp only[mI,yY,iP,dW,fC,Nat.reduceAdd,cB,List.range,List.range.loop];refine WK.load (v:=.pointer (some ⟨pb,0,none⟩)) c rfl rfl (by k_ne) (λw a=>?_) (λw a e d=>?_) ?_;have g:=(λw a=>a.k.p) w a;go_simp;have g:=(λw a=>a.k.p) w a;simp[go_sem,g]at d;exact .inl ⟨_,_,d,.inr (.inl ⟨rfl,l⟩)⟩;walk_nrm;refine WK.val (v:=?_) c rfl rfl (by k_ne) (λw=>?_) (λw=>?_) ?_;rotate_left;go_simp;rfl;go_simp;walk_nrm;refine WK.val (v:=?_) c rfl rfl (by k_ne) (λw=>?_) (λw=>?_) ?_;rotate_left;go_simp;rfl;go_simp;walk_nrm;refine WK.load (v:=.slice (some la) L C) c rfl rfl (by k_ne) (λw a=>?_) (λw a e d=>?_) ?_;have g:=(λw a=>(j w a.k.q).f2) w a;go_simp;have g:=(λw a=>(j w a.k.q).f2) w a;simp[go_sem,g]at d;exact .inl ⟨_,_,d,.inr (.inl ⟨rfl,y⟩)⟩;walk_nrm;refine WK.val (v:=.pointer (some la)) c rfl rfl (by k_ne) (λw=>?_) (λw=>?_) ?_;go_simp;simp[go_sem];exact events_indexAt_slice _ _ _ _ _ _ (by kernel_rfl) ⟨by omega,by omega⟩;walk_nrm;refine WK.load (v:=.slice a0 n c0) c rfl rfl (by k_ne) (λw a=>?_) (λw a e d=>?_) ?_;have g:=(λw a=>(j w a.k.q).l0) w a;go_simp;have g:=(λw a=>(j w a.k.q).l0) w a;simp[go_sem,g]at d;exact .inl ⟨_,_,d,.inr (.inl ⟨rfl,z⟩)⟩;walk_nrm;refine WK.val (v:=?_) c rfl rfl (by k_ne) (λw=>?_) (λw=>?_) ?_;rotate_left;go_simp;rfl;go_simp;walk_nrm;refine WK.new (f:=λN=>.slice (some ⟨N,0,none⟩) n n) (ob:=.cells (madeCells lY.cells (n*4)) 199) c rfl rfl (by k_ne) (λw a=>?_) (λw a e d=>?_) (λA=>?_);have:=PX K w;go_simp;have:=MQ K w;simp[go_sem,this]at d;refine WK.mono (K':=KA pc oc Wg Ch A pb rd Q (·=madeCells lY.cells (n*4))) ?_ ?_;rotate_left;rintro w ⟨u,a,rfl,M⟩;obtain⟨T,U,j⟩:=a.live;have O:KA pc oc Wg Ch u.heap.size pb rd Q (·=madeCells lY.cells (n*4)) {u with heap:=u.heap.push (.cells (madeCells lY.cells (n*4)) 199)}:=⟨⟨a.k.same l s t (by simp) λb P=>by have:=a.k.r b P;show(u.heap.push _)[b]? =_;rw[qG];split;omega;rfl,se a.live⟩,⟨_,by simp,rfl⟩,a.k.r,lt_of_heap j⟩;exact KA.rely l s (.inr rfl) t _ _ M O;have h:nN (λx=>cC x\/x=A) rd (Lv 241 Wg) (KA pc oc Wg Ch A pb rd Q (·=madeCells lY.cells (n*4))):=KA.rely l s (.inr rfl) t;walk_nrm;refine WK.val (v:=?_) h rfl rfl (by k_ne) (λw=>?_) (λw=>?_) ?_;rotate_left;go_simp;rfl;go_simp;walk_nrm;refine WK.ctl h rfl (λ_=>iH) ?_;exact i _ _ _ _ _ _ _ _
end Go.Proofs.W
namespace Go.Proofs.W
open Go.Conc Go.cF Go.cF.Cr Go.cF.Wg Go.RowKit Go.Conc.Lib Go.ConcR.Gen
def rj:ce:=.agg #[.int .i64 0,.slice none 0 0,.int .i64 0,.int .i64 0,.bool false]
def EF{Ch:Nat}{ev:dj->ce}{o:Oper}{x:dj}(a:o.op=.recv 232 x true)(b:ev x=.chan (some Ch))(w:cd):(execOp ev o).run PR w=.ok (.comm #[rcase Ch rj] true (.recv true)) w:=by
 simp only[execOp,a,b];have c:(zeroValue 247).run PR w=.ok rj w:=by kernel_rfl
 have d:(underlying 232).run PR w=.ok (.chan .both 247) w:=by kernel_rfl
 simp[c,d,rcase]
def wS{Ch:Nat}{ev:dj->ce}{o:Oper}{x:dj}(c:o.op=.recv 232 x true)(d:ev x=.chan (some Ch))(w:cd):(execOp ev o).events PR w #[]=#[]:=by
 simp only[execOp,c,d];have e:(zeroValue 247).run PR w=.ok rj w:=by kernel_rfl
 have f:(underlying 232).run PR w=.ok (.chan .both 247) w:=by kernel_rfl
 have a:(zeroValue 247).events PR w #[]=#[]:=by kernel_rfl
 have b:(underlying 232).events PR w #[]=#[]:=by kernel_rfl
 simp[e,f,a,b]
end Go.Proofs.W
namespace Go.Proofs.W
open Go.Conc Go.cF Go.cF.Cr Go.cF.Wg Go.RowKit Go.Conc.Lib Go.ConcR.Gen
open Go.ConcN Go.ConcN.Gen
open Go.ConcR (KK wgBlock WgAt stA smA mk DC0)
def y8(Pv:Nat->(Nat->Prop)->cd->ce->Prop):Prop:=∀j o w a v,(∀b,o b->a.heap[b]? =w.heap[b]?)->Pv j o w v->Pv j o a v
def nm(sa:Option Addr)(sl sc:Nat)(m k:Int)(b:Bool):ce:=.agg #[.slice sa sl sc,.int .i64 m,.int .i64 k,.bool b]
def CU(i:Int)(sa:Option Addr)(sl sc:Nat)(m k:Int)(b:Bool):ce:=.agg #[.int .i64 i,.slice sa sl sc,.int .i64 m,.int .i64 k,.bool b]
def EG(Pv:Nat->(Nat->Prop)->cd->ce->Prop):Nat->ce->(Nat->Prop)->cd->Prop:=λi v own w=>
 ∃a c d m k b e,v=CU i a c d m k b/\(∀x,e x->own x/\x<w.heap.size)/\Pv i e w (nm a c d m k b)
def MS(Pv:Nat->(Nat->Prop)->cd->ce->Prop)(own:Nat->Prop)(A:Nat)(w:cd)(cs:Array ce)(j:Nat):Prop:=
 ∃a c d m k b e,(∀x,e x->own x/\x≠A/\x<w.heap.size)/\cs[4*j]? =some (.slice a c d)/\cs[4*j+1]? =some (.int .i64 m)/\cs[4*j+2]? =some (.int .i64 k)/\cs[4*j+3]? =some (.bool b)/\Pv j e w (nm a c d m k b)
structure KR(pc oc Wg Ch A pb n:Nat)(rd:Nat->Prop)(Q:cd->Prop)(Pv:Nat->(Nat->Prop)->cd->ce->Prop)(own:Nat->Prop)(S:Nat->Bool)(w:cd):Prop where
 s:KS pc oc Wg Ch ⟨pb,0,none⟩ rd Q w
 a:∃cs,w.heap[A]? =some (.cells cs 199)/\cs.size=n*4/\∀j,j<n->S j=true->MS Pv own A w cs j
 oa:own A
 lr:∀b,rd b->b<A
 lw:Wg<A
section
variable{pc oc Wg Ch A pb n:Nat}{Q:cd->Prop}{Pv:Nat->(Nat->Prop)->cd->ce->Prop}{S:Nat->Bool}{own own' rd:Nat->Prop}
theorem MS.same(f:y8 Pv){w w':cd}{cs:Array ce}{j:Nat}(h:MS Pv own A w cs j)(g:∀b,own b->own' b)(i:w.heap.size<=w'.heap.size)(l:∀b,own b->b≠A->b<w.heap.size->w'.heap[b]? =w.heap[b]?):MS Pv own' A w' cs j:=by obtain⟨n,o,p,m,k,b,e,a,q,r,s,t,u⟩:=h;exact⟨n,o,p,m,k,b,e,λx c=>⟨g x (a x c).1,(a x c).2.1,dl (a x c).2.2 i⟩,q,r,s,t,f j e w w' _ (λb d=>l b (a b d).1 (a b d).2.1 (a b d).2.2) u⟩
theorem KR.rely(f:rd pc)(g:rd oc)(i:ri rd Q)(k:y8 Pv):nN own rd (Lv 241 Wg) (KR pc oc Wg Ch A pb n rd Q Pv own S):=λw l c h=>by obtain⟨m,o,d,p⟩:=h.a;exact⟨KS.rely f g i w l c h.s,⟨m,c.obj (.inl h.oa) o,d,λj q r=>(p j q r).same k (λ_ h=>h) c.size λb t _ e=>c.heap b e (.inl t)⟩,h.oa,h.lr,h.lw⟩
end
end Go.Proofs.W
namespace Go.Proofs.W
open Go.RowKit
structure SV where
 (sa:Option Addr)(sl sc:Nat)(m k:Int)(b:Bool)
def SV.val(s:SV):ce:=.agg #[.slice s.sa s.sl s.sc,.int .i64 s.m,.int .i64 s.k,.bool s.b]
def gG(x y:SV):Bool:=if !x.b||!y.b then x.b else if x.m≠y.m then decide (x.m<y.m)else decide (x.k<y.k)
theorem He(p:Value)(x y:SV)(w:World):Calls V.prog 194 #[p,x.val,y.val] w λe w'=>e=.returned (.bool (gG x y))/\Below w.heap.size w w':=by
 obtain⟨a,b,c,d,f,g⟩:=x
 obtain⟨h,i,j,k,l,m⟩:=y
 simp only[SV.val,gG]
 go_enter V.func194,Tryz.ntmps194
 go_wp2
 all_goals
  go_ret
  exact⟨by simp_all,((Below.refl _ _).alloc (Nat.le_refl _) _).alloc (by simp) _⟩
theorem CV(p:Value)(x y:SV)(w:World):Calls V.prog 194 #[p,x.val,y.val] w λe w'=>e=.returned (.bool (gG x y))/\Below w.heap.size w w'/\w.drawn<=w'.drawn:=by
 obtain⟨a,b,c,d,f,g⟩:=x
 obtain⟨h,i,j,k,l,m⟩:=y
 simp only[SV.val,gG]
 go_enter V.func194,Tryz.ntmps194
 go_wp2
 all_goals
  go_ret
  exact⟨by simp_all,((Below.refl _ _).alloc (Nat.le_refl _) _).alloc (by simp) _,Nat.le_refl _⟩
def cP:List SV->SV
 |[]=>⟨none,0,0,0,0,false⟩
 |x::xs=>xs.foldl (λa y=>if gG y a then y else a) x
def uy(l:List SV)(y:SV)(h:l≠[]):cP (l++[y])=if gG y (cP l)=true then y else cP l:=by
 cases l with
 |nil=>exact absurd rfl h
 |cons x a=>rw[cP,qn,cP,uf];rfl
def xI(w:cd)(b o:Nat)(s:SV):Prop:=w.cell? ⟨b,o,none⟩=some (.slice s.sa s.sl s.sc)/\w.cell? ⟨b,o+1,none⟩=some (.int .i64 s.m)/\w.cell? ⟨b,o+2,none⟩=some (.int .i64 s.k)/\w.cell? ⟨b,o+3,none⟩=some (.bool s.b)
def YR(w:cd)(A:Nat)(ys:List SV):Prop:=∀j (h:j<ys.length),xI w A (j*4) ys[j]
def dO(s:SV):Obj:=.cells #[.slice s.sa s.sl s.sc,.int .i64 s.m,.int .i64 s.k,.bool s.b] 199
def dM{w:cd}{b:Nat}{s:SV}(h:w.heap[b]? =some (dO s)):w.cell? ⟨b,0,none⟩=some (.slice s.sa s.sl s.sc)/\w.cell? ⟨b,1,none⟩=some (.int .i64 s.m)/\w.cell? ⟨b,2,none⟩=some (.int .i64 s.k)/\w.cell? ⟨b,3,none⟩=some (.bool s.b)/\w.frozen? ⟨b,0,none⟩=false/\w.frozen? ⟨b,1,none⟩=false/\w.frozen? ⟨b,2,none⟩=false/\w.frozen? ⟨b,3,none⟩=false:=by simp[World.cell?,World.frozen?,h,dO]
def Bt{n:Nat}{W w1:cd}(a:Below n W w1):(∀b o,b<n->w1.cell? ⟨b,o,none⟩=W.cell? ⟨b,o,none⟩)/\(∀b o,b<n->w1.frozen? ⟨b,o,none⟩=W.frozen? ⟨b,o,none⟩):=
 ⟨λb o h=>a.cell (p:=⟨b,o,none⟩) h,λb o h=>a.frozen (p:=⟨b,o,none⟩) h⟩
def xI.below{n:Nat}{W w1:cd}{b o:Nat}{s:SV}(h:xI W b o s)(a:Below n W w1)(c:b<n):xI w1 b o s:=by unfold xI at*;rw[(Bt a).1 _ _ c,(Bt a).1 _ _ c,(Bt a).1 _ _ c,(Bt a).1 _ _ c];exact h
def eU(w:cd)(o:Obj):(w.alloc o).heap[w.heap.size]? =some o:=by show(w.heap.push o)[w.heap.size]? =_;simp
def alloc_old(w:cd)(o:Obj){b:Nat}(h:b<w.heap.size):(w.alloc o).heap[b]? =w.heap[b]? :=by show(w.heap.push o)[b]? =_;rw[qG];split;omega;rfl
def gY(w:cd)(b:Nat)(s:SV):cd:=(((w.setCell ⟨b,0,none⟩ (.slice s.sa s.sl s.sc)).setCell ⟨b,1,none⟩ (.int .i64 s.m)).setCell ⟨b,2,none⟩ (.int .i64 s.k)).setCell ⟨b,3,none⟩ (.bool s.b)
def jZ{w:cd}{b:Nat}{s s':SV}(h:w.heap[b]? =some (dO s')):(gY w b s).heap[b]? =some (dO s):=by simp[gY,World.setCell,sL,h,dO]
def oZ(w:cd)(b:Nat)(s:SV){c:Nat}(h:c≠b):(gY w b s).heap[c]? =w.heap[c]? :=by unfold gY;rw[cF.Cr.dN _ _ _ _ h,cF.Cr.dN _ _ _ _ h,cF.Cr.dN _ _ _ _ h,cF.Cr.dN _ _ _ _ h]
def pH(w:cd)(b:Nat)(s:SV):(gY w b s).heap.size=w.heap.size:=by simp[gY,World.setCell]
def j7{n:Nat}{W w:cd}{b:Nat}{s:SV}(h:Below n W w)(a:n<=b):Below n W (gY w b s):=
 (((h.setCell a _).setCell a _).setCell a _).setCell a _
def ll{α:Type}(l:List α)(k:Nat)(h:k<l.length):l.take (k+1)=l.take k++[l[k]]:=by rw[gP h]
theorem J5(p:Value)(A:Nat)(ys:List SV)(w:World)(hn:ys.length<=65536)(hA:A<w.heap.size)(hy:YR w A ys):
 Calls V.prog 193 #[.slice (some ⟨A,0,none⟩) ys.length ys.length,.func (.func 194) #[p] #[]] w λe w'=>e=.returned (cP ys).val/\Below w.heap.size w w':=by
 go_enter V.func193,Tryz.ntmps193;go_wp2
 go_loopw [10] (λi wr=>∃k:Nat,k<=ys.length/\i=.int .i64 k/\Below w.heap.size w wr/\w.heap.size+2<=wr.heap.size/\wr.heap[w.heap.size+1]? =some (dO (cP (ys.take k)))/\
  wr.heap[w.heap.size]? =some (dO (cP []))) (λi _=>ys.length-(intOf i).toNat)
 case atStart=>
  refine⟨0,Nat.zero_le _,rfl,((Below.refl _ _).alloc (Nat.le_refl _) _).alloc (by simp) _,by simp,?_,?_⟩
  ·have:=eU (w.alloc (dO (cP []))) (dO (cP []));rw[World.size_alloc]at this;exact this
  ·exact(alloc_old (w.alloc (dO (cP []))) _ (by simp)).trans (eU _ _)
 case round=>
  obtain⟨k,hk,rfl,hb,XU,ho,hr⟩:=hrel;by_cases AY:k<ys.length
  ·obtain⟨y1,y2,y3,y4⟩:=(hy k AY).below hb hA;obtain⟨o1,o2,o3,o4,f1,f2,f3,f4⟩:=dM ho;have HO:=Go.Lib.hid ho;have HR:=Go.Lib.hid hr;clear ho hr hy;have l1:w.heap.size+1<wr.heap.size:=by omega
   have l3:w.heap.size<wr.heap.size:=by omega
   have l2:¬(w.heap.size+1=wr.heap.size):=by omega
   by_cases Uc:k=0
   ·subst Uc;go_wp2;go_roundw;case rel=>
     have hp:=jZ (s:=ys[0]) HO.out;have Wk:=(oZ wr (w.heap.size+1) ys[0] (c:=w.heap.size) (by omega)).trans HR.out;have Rt:=pH wr (w.heap.size+1) ys[0];refine⟨1,by omega,rfl,(j7 hb (Nat.le_succ _)).alloc (by rw[Rt];omega) _,by simp;omega,?_,?_⟩
     ·refine(alloc_old (gY wr (w.heap.size+1) ys[0]) _ (by rw[Rt];omega)).trans ?_;rw[hp,ll _ _ AY];rfl
     ·exact(alloc_old (gY wr (w.heap.size+1) ys[0]) _ (by rw[Rt];omega)).trans Wk
    case measure=>simp[intOf];omega
   ·have Sy:((k:Int)==0)=false:=by simp;omega
    go_wp2_with (go_at_call 194;refine(He _ ys[k] (cP (ys.take k)) _).mono ?_;rintro e w' ⟨rfl,xJ⟩;obtain⟨hc,hf⟩:=Bt xJ);all_goals go_roundw
    case rel=>
     have Wl:gG ys[k] (cP (ys.take k))=true:=by assumption
     have hO:=(xJ.block (w.heap.size+1) (by simp;omega)).trans ((alloc_old wr _ (by omega)).trans HO.out);have hR:=(xJ.block w.heap.size (by simp;omega)).trans ((alloc_old wr _ (by omega)).trans HR.out);have hz:=xJ.size;rw[World.size_alloc]at hz;have hp:=jZ (s:=ys[k]) hO;have Wk:=(oZ w' (w.heap.size+1) ys[k] (c:=w.heap.size) (by omega)).trans hR;have Rt:=pH w' (w.heap.size+1) ys[k];refine⟨k+1,by omega,by go_num,j7 ((hb.alloc (by omega) _).trans (xJ.mono (by simp;omega))) (Nat.le_succ _),(by show w.heap.size+2<=(gY w' (w.heap.size+1) ys[k]).heap.size;rw[Rt];omega),?_,Wk⟩;refine hp.trans ?_;rw[ll _ _ AY,uy _ _ (λh=>by have:=congrArg List.length h;rw[List.length_take,List.length_nil]at this;omega),if_pos Wl]
    case measure=>simp[intOf];omega
    case rel=>
     have Wl:gG ys[k] (cP (ys.take k))=false:=by assumption
     have hO:=(xJ.block (w.heap.size+1) (by simp;omega)).trans ((alloc_old wr _ (by omega)).trans HO.out);have hR:=(xJ.block w.heap.size (by simp;omega)).trans ((alloc_old wr _ (by omega)).trans HR.out);have hz:=xJ.size;rw[World.size_alloc]at hz;refine⟨k+1,by omega,by go_num,(hb.alloc (by omega) _).trans (xJ.mono (by simp;omega)),by omega,?_,hR⟩;refine hO.trans ?_;rw[ll _ _ AY,uy _ _ (λh=>by have:=congrArg List.length h;rw[List.length_take,List.length_nil]at this;omega),if_neg (by simp[Wl])]
    case measure=>simp[intOf];omega
  ·obtain⟨o1,o2,o3,o4,f1,f2,f3,f4⟩:=dM ho;obtain⟨r1,r2,r3,r4,g1,g2,g3,g4⟩:=dM hr;have HO:=Go.Lib.hid ho;have HR:=Go.Lib.hid hr;clear ho hr hy;have l2:¬(w.heap.size+1=w.heap.size):=by omega
   go_wp2;have YS:ys.take k=ys:=List.take_of_length_le (by omega);have hp:=jZ (s:=cP (ys.take k)) HR.out;obtain⟨q1,q2,q3,q4,_⟩:=dM hp;unfold gY at q1 q2 q3 q4;refine bodyPost_ret (v:=(cP (ys.take k)).val) (by simp[results,Tryz.results193,go_sem,q1,q2,q3,q4,SV.val]) rfl ⟨by rw[YS],j7 hb (Nat.le_refl _)⟩
end Go.Proofs.W
namespace Go.cF
open Go.Conc
open Go.ConcN (sumTo upd sumTo_upd upd_ne upd_same)
section
variable{P:cf}{X:Nat->Prop}
structure EH(P:cf)(X:Nat->Prop)(gs:Array cj)(a:cj)(w:cd)(t:Trace)(q:Nat->Nat):Prop where
 at0:gs[0]? =some a
 run:a.status=.running
 leavers:Leavers P t gs q
 past:Past (nU X) w.heap.size t
 low:∀b,X b->b<w.heap.size
def Hf{own rd:Nat->Prop}{n m:Nat}(i:∀b,own b\/rd b->¬X b/\b<m)(k:∀c,X c->c<n){e:Event}(h:EvW own rd n m e):EvL (nU X) m e:=by
 rcases h with⟨a,l,rfl,h⟩|⟨r,l,rfl,h⟩|rfl;have f:¬X a.block/\a.block<m:=by rcases h with h|⟨_,h⟩|⟨o,j⟩;exact i _ (.inl h);exact i _ (.inr h);exact⟨λd=>by have:=k _ d;omega,j⟩
 refine⟨λx d g=>?_,by simp,by simp,f.2⟩;simp only[MemAct.ofEvent,MemAct.touch?,fI]at d;subst d;exact absurd g f.1;have f:¬X r/\r<m:=by rcases h with h|⟨o,j⟩;exact i _ (.inl h);exact⟨λd=>by have:=k _ d;omega,j⟩
 refine⟨λx d g=>?_,by simp,by simp,by simpa[MemAct.ofEvent,MemAct.low,Loc.low]using f.2⟩;simp only[MemAct.ofEvent,MemAct.touch?,fI]at d;subst d;exact absurd g f.1;refine⟨λx d g=>?_,by simp,by simp,trivial⟩;simp[MemAct.ofEvent,MemAct.touch?]at d
def EH.pick{f:Array cj}{a:cj}{w:cd}{t:Trace}{q:Nat->Nat}(h:EH P X f a w t q)(sl:Option (Nat×Nat)):(∃d b,stepT P (crowd f w sl)=runT P (crowd f (w.at d) b) 0)\/∃d b n ops M,stepT P (crowd f w sl)=(.next (crowd n (w.at d) b),ops)/\EH P X n a (w.at d) (t++ops) M/\sumTo n.size M+1=sumTo f.size q:=by
 have c:=h.run;have G:=h.at0;have C:=h.leavers;have H:∀g∈f,awake g:=by
  intro g s;obtain⟨i,u,rfl⟩:=Array.mem_iff_getElem.1 s;rcases nS i with rfl|l;have:f[0]=a:=by simpa[ji u]using G
  rw[this];exact awake_of (.inl c);exact awake_of ((C.old i _ l (ji u)).status.elim .inl λx=>.inr (.inr x))
 obtain⟨i,g,d,b,u,s,v⟩:=crowd_pick (P:=P) (w:=w) (sl:=sl) H ⟨0,a,G,c⟩;rcases nS i with rfl|l;exact .inl ⟨d,b,v⟩;have D:=C.old i g l u;have I:(i==0)=false:=by simp;omega
 have z:i<f.size:=(eP.1 u).1;cases o:q i with
 |zero=>rw[o]at D;rw[D.1]at s;cases s
 |succ k=>
  rw[o]at D;rcases D with⟨O,_⟩|⟨_,g',Q,R,A,J⟩;rw[O]at s;cases s;have p:=runT_crowd_go (P:=P) (sl:=b) (i:=i) u (by rw[I];exact A (w.at d));have K:((f.map (woken P g g' (w.at d))).setIfInBounds i g').size=f.size:=by simp
  have N:sumTo f.size (upd q i k)+(k+1)=sumTo f.size q+k:=by have:=sumTo_upd q k id z;simpa[o]using this
  refine .inr ⟨d,b,_,_,upd q i k,v.trans p,⟨?_,c,⟨λj x E F=>?_,λj E=>?_⟩,h.past.mute (by omega) R,h.low⟩,by rw[K];omega⟩;have L:i≠0:=by omega
  rw[eY L,qF,G];simp[woken_run c];by_cases m:i=j;subst m;rw[jE (by simpa using z)]at F;obtain rfl:=cE F;rw[upd_same,Deaf_own];exact J;rw[eY m,qF]at F;obtain⟨y,S,rfl⟩:=ij.1 F;have B:=C.old j y E S;rw[woken_quitsD B,upd_ne q k (fO m),Deaf_other t m _ (λT r=>by obtain⟨e,_,rfl⟩:=Go.Conc.mem_ofEvents r;rfl)];exact B;rw[Deaf_other t (g:=j) (g':=i) (by simp at E;omega) (MemOp.ofEvents i g.frame.fn g.frame.place Q) (λT r=>by obtain⟨e,_,rfl⟩:=Go.Conc.mem_ofEvents r;rfl)];exact C.above j (by simpa using E)
structure y9(own:Nat->Prop)(w:cd)(own':Nat->Prop)(w':cd):Prop where
 tape:w'.tape=w.tape
 os:w'.os=w.os
 output:w'.output=w.output
 size:w.heap.size<=w'.heap.size
 heap:∀b,b<w.heap.size->¬own b->w'.heap[b]? =w.heap[b]?
 new:∀b,own' b->own b\/(w.heap.size<=b/\b<w'.heap.size)
 keep:∀b,own b->own' b
def y9.refl(own:Nat->Prop)(w:cd)(d:Nat):y9 own w own (w.at d):=⟨rfl,rfl,rfl,cz _,λ_ _ _=>rfl,λ_ h=>.inl h,λ_ h=>h⟩
theorem y9.trans{c d e:Nat->Prop}{w1 f g:cd}(h:y9 c w1 d f)(k:y9 d f e g):y9 c w1 e g:=
 ⟨k.tape.trans h.tape,k.os.trans h.os,k.output.trans h.output,cJ h.size k.size,λb a i=>(k.heap b (dl a h.size) λj=>(h.new b j).elim i λx=>by omega).trans (h.heap b a i),
  λb a=>(k.new b a).elim (λx=>(h.new b x).imp id λy=>⟨y.1,dl y.2 k.size⟩) λx=>.inr ⟨cJ h.size x.1,x.2⟩,λb a=>k.keep b (h.keep b a)⟩
def EH.step{p:Array cj}{a l:cj}{w w1:cd}{t:Trace}{q:Nat->Nat}{own rd own':Nat->Prop}{es:Array Event}{d:Nat}(h:EH P X p a w t q)(k:∀b,own b\/rd b->¬X b/\b<w.heap.size) (e:stepG P true a (w.at d)=.go l w1 es)(m:LX own rd (w.at d) w1 es own')(B:l.status=.running):EH P X ((p.map (woken P a l w1)).setIfInBounds 0 l) l w1 (t++MemOp.ofEvents 0 a.frame.fn a.frame.place es) q/\∀b,own' b\/rd b->¬X b/\b<w1.heap.size:=by
 have f:w.heap.size<=w1.heap.size:=m.size;have r:0<p.size:=(eP.1 h.at0).1;refine⟨⟨by simp[r],B,⟨λj x n o=>?_,λj n=>?_⟩,(h.past.mono f).own λe C=>Hf (λb c=>⟨(k b c).1,dl (k b c).2 f⟩) h.low (m.evs e C),λb c=>dl (h.low b c) f⟩,λb c=>?_⟩;have s:0≠j:=by omega
 rw[eY s,qF]at o;obtain⟨y,D,rfl⟩:=ij.1 o;have z:=h.leavers.old j y n D;rw[woken_quitsD z,Deaf_other t (by omega) _ (λE i=>by obtain⟨e,_,rfl⟩:=Go.Conc.mem_ofEvents i;rfl)];exact z;rw[Deaf_other t (g:=j) (g':=0) (by simp at n;omega) (MemOp.ofEvents 0 a.frame.fn a.frame.place es) (λE i=>by obtain⟨e,_,rfl⟩:=Go.Conc.mem_ofEvents i;rfl)];exact h.leavers.above j (by simpa using n);rcases c with c|c;rcases(m.owns b).1 c with c|⟨u,v⟩;exact⟨(k b (.inl c)).1,dl (k b (.inl c)).2 f⟩;have A:w.heap.size<=b:=u;exact⟨λo=>by have:=h.low b o;omega,v⟩;exact⟨(k b (.inr c)).1,dl (k b (.inr c)).2 f⟩
def tz{rd:Nat->Prop}{L:cd->Prop}(C:∀w d,L w->L (w.at d)){j:(Nat->Prop)->cj->cd->Prop}(E:∀o g w,j o g w->g.status=.running):∀{F:WT} {own:Nat->Prop} {a:cj} {w:cd},Way P true rd L j F own a w->∀(p:Array cj) (sl:Option (Nat×Nat)) (t:Trace) (q:Nat->Nat),EH P X p a w t q->(∀b,own b\/rd b->¬X b/\b<w.heap.size)->∃(N:Nat) (k:Array cj) (w':cd) (c:Option (Nat×Nat)) (G:Trace) (D:Nat->Nat) (own':Nat->Prop) (H:cj),runNT P N (crowd p w sl) t=(.next (crowd k w' c),G)/\EH P X k H w' G D/\j own' H w'/\y9 own w own' w'/\∀b,own' b\/rd b->¬X b/\b<w'.heap.size:=by
 intro F own a w hw;induction hw with
 | @here F own a w h=>
  intro p sl t q r x;exact⟨0,p,w,sl,t,q,own,a,rfl,r,h w (.refl _ _ _ _),y9.refl own w w.drawn,x⟩
 | @step f own a w hs h1 h2 ih=>
  have n:∀{own a w} {F},Way P true rd L j F own a w->a.status=.running:=λh=>by
   cases h with
   |here h=>exact E _ _ _ (h _ (.refl _ _ _ _))
   |step hs _ _=>exact hs
  have I:∀(M:Nat) (p:Array cj) (y:Nat) (sl:Option (Nat×Nat)) (t:Trace) (q:Nat->Nat),sumTo p.size q<=M->EH P X p a (w.at y) t q->(∀b,own b\/rd b->¬X b/\b<w.heap.size)->∃(N:Nat) (k:Array cj) (w':cd) (c:Option (Nat×Nat)) (G:Trace) (D:Nat->Nat) (own':Nat->Prop) (H:cj),runNT P N (crowd p (w.at y) sl) t=(.next (crowd k w' c),G)/\EH P X k H w' G D/\j own' H w'/\y9 own w own' w'/\∀b,own' b\/rd b->¬X b/\b<w'.heap.size:=by
   intro M;induction M with
   |zero=>
    intro p y sl t q hM r x;rcases r.pick sl with⟨d,c,s⟩|⟨d,c,k,J,D,_,_,K⟩;obtain⟨a1,w1,es,O,e,m⟩:=h1 (w.at d) (dG.at own rd C w d);have Q:stepG P true a ((w.at y).at d)=.go a1 w1 es:=e;obtain⟨z,A⟩:=r.step (own:=own) (rd:=rd) x Q m (n (h2 _ _ _ _ _ (dG.at own rd C w d) e m));obtain⟨N,u,R,v,S,T,l,U,V,W,Y,Z,r5⟩:=ih _ _ _ _ _ (dG.at own rd C w d) e m _ c _ q z A;have hr:=s.trans (runT_crowd_go (P:=P) (sl:=c) (i:=0) r.at0 (show stepG P (0==0) a ((w.at y).at d)=_ from Q));refine⟨1+N,u,R,v,S,T,l,U,runNT_add (jY hr) V,W,Y,y9.trans ⟨m.tape,m.os,m.output,m.size,m.same,λb B=>(m.owns b).1 B,λb B=>(m.owns b).2 (.inl B)⟩ Z,r5⟩;omega
   |succ M aa=>
    intro p y sl t q hM r x;rcases r.pick sl with⟨d,c,s⟩|⟨d,c,k,J,D,s,ab,K⟩;obtain⟨a1,w1,es,O,e,m⟩:=h1 (w.at d) (dG.at own rd C w d);have Q:stepG P true a ((w.at y).at d)=.go a1 w1 es:=e;obtain⟨z,A⟩:=r.step (own:=own) (rd:=rd) x Q m (n (h2 _ _ _ _ _ (dG.at own rd C w d) e m));obtain⟨N,u,R,v,S,T,l,U,V,W,Y,Z,r5⟩:=ih _ _ _ _ _ (dG.at own rd C w d) e m _ c _ q z A;have hr:=s.trans (runT_crowd_go (P:=P) (sl:=c) (i:=0) r.at0 (show stepG P (0==0) a ((w.at y).at d)=_ from Q));refine⟨1+N,u,R,v,S,T,l,U,runNT_add (jY hr) V,W,Y,y9.trans ⟨m.tape,m.os,m.output,m.size,m.same,λb B=>(m.owns b).1 B,λb B=>(m.owns b).2 (.inl B)⟩ Z,r5⟩;obtain⟨N,u,R,v,S,T,l,U,V,W,Y,Z,r5⟩:=aa k d c (t++J) D (by omega) ab x;exact⟨1+N,u,R,v,S,T,l,U,runNT_add (jY s) V,W,Y,Z,r5⟩
  intro p sl t q r x;exact I _ p w.drawn sl t q (cz _) r x
end
end Go.cF
namespace Go.cF
open Go
def iZ(z:ce):Bool:=z.cells.all (ep 2)&&ep 3 z
theorem Bu{α c:Type}(I:c->Prop)(f:α->c->Option (ForInStep c))(g:∀a b s,I b->f a b=some s->I s.value):∀(l:List α) (init:c),I init->∀r,forIn l init f=some r->I r
 |[],init,d,r,h=>by simp at h;exact h▸d
 |a::l,init,d,r,h=>by
  rw[List.forIn_cons]at h;cases e:f a init with
  |none=>rw[e]at h;cases h
  |some s=>
   rw[e]at h;have:=g a init s d e;cases s with
   |done b=>simp at h;exact h▸this
   |yield b=>exact Bu I f g l b this r h
theorem CW{info:TypeId->Option TypeInfo}(h:∀t i z,info t=some i->i.zero=some z->iZ z=true)(d:TypeDesc)(i:TypeInfo)(z:Value)(g:Made.reckon info d=some i)(r:i.zero=some z):iZ z=true:=by
 have o:∀(d:TypeDesc) (s:String) (a:Value) (b:Bool) (n:Nat),iZ a=true->Made.word d s a b n=i->iZ z=true:=λd s a b n D e=>by
  subst e
  have:some a=some z:=r
  cases this
  exact D
 cases d with
 |pointer e=>
  simp only[Made.reckon,Option.bind_eq_bind,Option.bind_eq_some_iff]at g
  obtain⟨j,_,g⟩:=g
  split at g
  ·cases g
  ·split at g
   ·cases g
   ·simp only[Option.bind_eq_some_iff]at g
    obtain⟨s,_,g⟩:=g
    exact o _ _ _ _ _ (by simp[iZ,ep,Value.cells]) (Option.some.inj g)
  ·simp only[Option.bind_eq_some_iff]at g
   obtain⟨s,_,g⟩:=g
   exact o _ _ _ _ _ (by simp[iZ,ep,Value.cells]) (Option.some.inj g)
 |slice e=>
  simp only[Made.reckon,Option.bind_eq_bind,Option.bind_eq_some_iff]at g
  obtain⟨j,_,s,_,g⟩:=g
  exact o _ _ _ _ _ (by simp[iZ,ep,Value.cells]) (Option.some.inj g)
 |map k e=>
  simp only[Made.reckon,Option.bind_eq_bind,Option.bind_eq_some_iff]at g
  obtain⟨j,_,s,_,M,_,N,_,g⟩:=g
  exact o _ _ _ _ _ (by simp[iZ,ep,Value.cells]) (Option.some.inj g)
 |chan d e=>
  simp only[Made.reckon,Option.bind_eq_bind,Option.bind_eq_some_iff]at g
  obtain⟨j,_,s,_,g⟩:=g
  cases d<;>exact o _ _ _ _ _ (by simp[iZ,ep,Value.cells]) (Option.some.inj g)
 |func O P v=>
  simp only[Made.reckon,Option.bind_eq_bind,Option.bind_eq_some_iff]at g
  obtain⟨s,_,g⟩:=g
  exact o _ _ _ _ _ (by simp[iZ,ep,Value.cells]) (Option.some.inj g)
 |array n e=>
  simp only[Made.reckon,Option.bind_eq_bind,Option.bind_eq_some_iff]at g
  obtain⟨j,E,s,_,g⟩:=g
  have g:=Option.some.inj g
  subst g
  simp only at r
  split at r
  ·cases r
  ·split at r
   ·cases r;simp[iZ,ep,Value.cells]
   ·obtain⟨y,A,rfl⟩:=Option.map_eq_some_iff.1 r
    have:=h e j y E A
    simp only[iZ,Bool.and_eq_true,Array.all_eq_true_iff_forall_mem]at this
    have q:((Array.replicate n y.cells).flatten).all (ep 2)=true:=by
     simp only[Array.all_eq_true_iff_forall_mem,Array.mem_flatten]
     rintro x ⟨p,l,w⟩
     rw[Array.eq_of_mem_replicate l]at w
     exact this.1 x w
    have F:ep 3 (.agg (Array.replicate n y.cells).flatten)=(Array.replicate n y.cells).flatten.all (ep 2):=rfl
    show((Array.replicate n y.cells).flatten.all (ep 2)&&ep 3 (.agg (Array.replicate n y.cells).flatten))=true
    rw[F,q]
    rfl
 |struct G=>
  simp only[Made.reckon,Made.reckonStruct]at g
  obtain⟨H,u,g⟩:=Option.bind_eq_some_iff.1 g
  rw[<-Array.forIn_toList]at u
  have I:=Bu (λb:Array Field×Nat×Nat×Nat×Nat×Bool×Bool×Option (Array Value)×String=>∀p,b.2.2.2.2.2.2.2.1=some p->p.all (ep 2)=true) _ ?_ G.toList _ ?_ H u
  ·split at g
   all_goals
    simp only[Option.bind_eq_bind,Option.pure_def,Option.some.injEq,Option.bind_some]at g
    subst g
    simp only at r
    obtain⟨p,l,rfl⟩:=Option.map_eq_some_iff.1 r
    have q:=I p l
    show(p.all (ep 2)&&p.all (ep 2))=true
    rw[q];rfl
  ·rintro f b s J m
   simp only[Option.bind_eq_bind,Option.bind_eq_some_iff]at m
   obtain⟨i,g,m⟩:=m
   have B:∀(c:Nat) p,(if c>Made.mostCells then none else do pure ((<-b.2.2.2.2.2.2.2.1)++(<-i.zero).cells))=some p->p.all (ep 2)=true:=by
    intro c p l
    split at l
    ·cases l
    ·simp only[Option.bind_eq_bind,Option.bind_eq_some_iff]at l
     obtain⟨x,w,y,A,l⟩:=l
     have l:=Option.some.inj l
     subst l
     have K:=J x w
     have C:=h f.type i y g A
     simp only[iZ,Bool.and_eq_true]at C
     rw[Array.all_append,K,C.1]
     rfl
   split at m
   ·simp only[Option.bind_eq_some_iff]at m
    obtain⟨_,m,_⟩:=m
    cases m
   ·split at m
    ·simp only[Option.bind_eq_some_iff]at m
     obtain⟨_,m,_⟩:=m
     cases m
    ·split at m
     all_goals
      simp only[Option.bind_eq_some_iff]at m
      obtain⟨L,_,m⟩:=m
      split at m
      all_goals
       have m:=Option.some.inj m
       subst m
       exact B _
  ·intro p l
   cases l
   simp
 |_=>cases g
def Hg{T:Tables}(h:∀(t:Nat) (i:TypeInfo) (z:ce),T.types[t]? =some i->i.zero=some z->iZ z=true):∀(t:cg) (i:TypeInfo) (z:ce),T.info? t=some i->i.zero=some z->ep 3 z=true:=by
 have c:∀(f:Nat) (t:cg) (i:TypeInfo) (z:ce),Made.infoAt T f t=some i->i.zero=some z->iZ z=true:=by
  intro f;induction f with
  |zero=>intro t i z a _;cases a
  |succ f e=>
   intro t i z a b;simp only[Made.infoAt]at a;split at a;exact h t i z a b;obtain⟨d,_,a⟩:=ti.1 a;exact CW e d i z a b
 intro t i z a b;have:iZ z=true:=by unfold Tables.info? at a;split at a;exact h t i z a b;exact c _ t i z a b
 simp only[iZ,ez]at this;exact this.2
end Go.cF
namespace Go.Proofs.W
open Go Go.cF
noncomputable def okF(L:List Nat)(dim:Bool)(b:Nat->Bool)(f:Nat):Bool:=match V.prog.funcs[f]? with
 |some a=>match a.body with
  |some c=>gh V.prog (λg=>L.contains g) dim (b f) c&&!(a.name== "runtime.NumGoroutine")
  |none=>false
 |none=>false
def uz{L:List Nat}{dim:Bool}{a:Nat->Bool}(h:L.all (okF L dim a)=true)(f:Nat)(b:L.contains f=true):
 ∃fn c,V.prog.funcs[f]? =some fn/\fn.body=some c/\gh V.prog (λg=>L.contains g) dim (a f) c=true/\(fn.name== "runtime.NumGoroutine")=false:=by
 have:=jF.1 h f (by simpa using b);unfold okF at this;split at this;rename_i fn d;split at this;rename_i c e;simp only[ez,yu]at this;exact⟨fn,c,d,e,this.1,this.2⟩;cases this;cases this
def V.MT(P:cf)(f:Nat)(x:Func)(n:Nat)(h:f≠n):(V.sub P (P.funcs.setIfInBounds n x)).funcs[f]? =P.funcs[f]? :=by show(P.funcs.setIfInBounds n x)[f]? =P.funcs[f]?;rw[eY (fO h)]
def V.xY(f:Nat)(h:f≠163):V.prog.funcs[f]? =PR.funcs[f]? :=V.MT Tryz.prog f V.f163 163 h
noncomputable def XV(t:Nat):Bool:=match Tryz.prog.types[t]? with
 |some i=>match i.zero with
  |some a=>iZ a
  |none=>true
 |none=>true
def Ux:(List.range 291).all XV=true:=by kernel_rfl
theorem V.zero(t:cg)(i:TypeInfo)(z:ce)(a:V.prog.info? t=some i)(c:i.zero=some z):ep 3 z=true:=by rw[V.IE]at a;refine Hg (T:=Tryz.prog.toTables) (λt i z a c=>?_) t i z a c;have b:t<Tryz.prog.types.size:=(eP.1 a).1;rw[Tryz.types_size]at b;have:=jF.1 Ux t (eJ.2 b);unfold XV at this;rw[a]at this;simp only[c]at this;exact this
def V.EI:V.prog.globals.size=0:=by rw[show V.prog.globals=Tryz.prog.globals from cM Tables.globals V.Bh,Tryz.globals_size]
def Bv(P:cf):5<=P.depth:=by have h:P.depth=2*(P.types.size+100)+2:=rfl;omega
def _root_.Go.cF.GJ.obj{ρ:cR}{m:Option Nat}{o o':Obj}(h:GJ ρ m o o')(a:m=none):jJ ρ o o':=by rcases h with⟨_,h⟩|⟨n,e,_⟩;exact h;rw[a]at e;cases e
def V.bad:V.prog.info? qO=none:=by kernel_rfl
def V.fit{L:List Nat}{dim:Bool}{a:Nat->Bool}(h:L.all (okF L dim a)=true):Fit V.prog (λg=>L.contains g) dim:=
 ⟨V.zero,λf b=>by obtain⟨d,c,e,i,_,j⟩:=uz h f b;exact⟨d,c,e,j,i⟩,V.EI,Bv _,V.bad⟩
noncomputable def o8(L:List Nat)(df:Nat->Bool)(B:Nat->Prop):cR where
 S:=λg=>L.contains g
 dim:=true
 ok:=λf=>gh V.prog (λg=>L.contains g) true (df f)
 df:=df
 fs:=PR.funcs
 hole:=λ_=>false
 r:=λb c=>b=c/\B b
 inj₁:=λ_ _ _ h a=>h.1.symm.trans a.1
 inj₂:=λ_ _ _ h a=>h.1.trans a.1.symm
def Bw{L:List Nat}{k:Nat->Bool}{B:Nat->Prop}(h:L.all (okF L true k)=true)(d:¬L.contains 163=true):Go.cF.Good V.prog (o8 L k B):=by refine⟨V.fit h,rfl,λf a _=>?_,⟨λf a=>?_⟩,λ_ _=>rfl⟩;obtain⟨g,c,b,i,l,_⟩:=uz h f a;exact⟨g,c,b,i,l⟩;obtain⟨g,c,b,i,_,m⟩:=uz h f a;have j:f≠163:=λe=>d (by subst e;exact a);exact⟨g,c,(V.xY f j).symm.trans b,m,i,λ_=>b⟩
def PY(P Q:cf)(h:Q.toTables=P.toTables):Q.ir P.funcs=P:=by cases P;cases Q;simp only at h;subst h;rfl
def PZ:V.prog.ir PR.funcs=PR:=PY Tryz.prog V.prog V.Bh
end Go.Proofs.W
namespace Go.Proofs.W
open Go.Conc Go.cF Go.cF.Cr Go.cF.Wg Go.RowKit Go.Conc.Lib Go.ConcR.Gen
open Go.ConcR (KK wgBlock WgAt stA smA mk DC0)
structure KO(bl:List (Nat×Obj))(Q:cd->Prop)(m0:Nat)(w:cd):Prop where
 at_:∀x∈bl,w.heap[x.1]? =some x.2
 inc:(bl.map (·.1)).Pairwise (·>·)
 lo:∀x∈bl,m0<=x.1
 sz:m0<=w.heap.size
 q:Q w
section
variable{P:cf}{ty:cg}{Wg:Nat}{main:Bool}{own rd:Nat->Prop}{S:gF}{Q:cd->Prop}{m0:Nat}{bl:List (Nat×Obj)}{g:cj} {b:Frame}{a:Act}{k:List Item}{cs:List Frame}{ops:Array Oper}{i:Nat}{rest:List Nat}{o:Oper}{v:ce}
theorem KO.rely{L:cd->Prop}(a:∀x∈bl,own x.1)(d:xH rd Q):nN own rd L (KO bl Q m0):=λ_ _ b h=>
 ⟨λx c=>b.obj (.inl (a x c)) (h.at_ x c),h.inc,h.lo,cJ h.sz b.size,d.rely b h.q⟩
theorem WK.Hh{ob:Obj}{f:Nat->ce}(g:∀x∈bl,own x.1)(r:xH rd Q)(v:ops[i]? =some o)(z:Region.wanted o (yielded ops a.tmps)=true)(A:b.kind≠ .early) (B:∀w,KO bl Q m0 w->(execOp a.eval o).run P w=.ok (.value (f w.heap.size)) {w with heap:=w.heap.push ob})
 (C:∀w,KO bl Q m0 w->∀e∈(execOp a.eval o).events P w #[],EvW own rd w.heap.size (w.heap.size+1) e) (D:∀c,(∀x∈bl,x.1<c)->m0<=c->WK P ty Wg main rd S (λx=>own x\/x=c) (KO ((c,ob)::bl) Q m0) (G (b.at (a.put o.dst (f c)) (.inRegion ops rest::k)) cs)):
 WK P ty Wg main rd S own (KO bl Q m0) (G (b.at a (.inRegion ops (i::rest)::k)) cs):=by
 refine WK.new (f:=f) (ob:=ob) (KO.rely g r) v z A B C λc=>?_;rintro w ⟨l,m,rfl,n⟩;have p:∀x∈bl,x.1<l.heap.size:=λx d=>lt_of_heap (m.at_ x d)
 have j:dG (λx=>own x\/x=l.heap.size) rd (Lv ty Wg) l {l with heap:=l.heap.push ob}:=⟨rfl,rfl,rfl,by simp,λb F _=>by
  show(l.heap.push ob)[b]? =_;rw[qG];split;omega;rfl,λh=>by
  obtain⟨s,t,h⟩:=h;refine⟨s,t,?_⟩;have u:l.heap[Wg]? =some (wgBlock ty s t):=h;show(l.heap.push ob)[Wg]? =_;rw[qG];split;have:=lt_of_heap u;omega;exact u⟩
 refine D l.heap.size p m.sz w (KO.rely (λx d=>?_) r _ _ n ⟨λx d=>?_,?_,λx d=>?_,?_,r.rely j m.q⟩);rcases eQ.1 d with rfl|d;exact .inr rfl;exact .inl (g x d);rcases eQ.1 d with rfl|d;simp;exact j.obj (.inl (.inl (g x d))) (m.at_ x d);simp only[jP,List.pairwise_cons];exact⟨λy E=>by obtain⟨x,d,rfl⟩:=jj.1 E;exact p x d,m.inc⟩;rcases eQ.1 d with rfl|d;exact m.sz;exact m.lo x d;have:=m.sz;simp;omega
theorem WK.MU{pre:List (Nat×Obj)}{c:Nat}{ob ob':Obj}(g:∀x∈pre++(c,ob)::bl,own x.1)(p:xH rd Q)(r:∀b,own b->¬rd b)(t:ops[i]? =some o)(u:Region.wanted o (yielded ops a.tmps)=true)(v:b.kind≠ .early) (y:∀w,KO (pre++(c,ob)::bl) Q m0 w->∃w',(execOp a.eval o).run P w=.ok .skip w'/\w'.tape=w.tape/\w'.os=w.os/\w'.output=w.output/\w'.heap.size=w.heap.size/\(∀d,d≠c->w'.heap[d]? =w.heap[d]?)/\w'.heap[c]? =some ob') (z:∀w,KO (pre++(c,ob)::bl) Q m0 w->∀e∈(execOp a.eval o).events P w #[],EvW own rd w.heap.size w.heap.size e) (A:WK P ty Wg main rd S own (KO (pre++(c,ob')::bl) Q m0) (G (b.at (a.put o.dst undef) (.inRegion ops rest::k)) cs)):WK P ty Wg main rd S own (KO (pre++(c,ob)::bl) Q m0) (G (b.at a (.inRegion ops (i::rest)::k)) cs):=by
 refine WK.write (bl:=c) (W:=λ_ w'=>w'.heap[c]? =some ob') (KO.rely g p) t u v (g (c,ob) (by simp)) (λw l=>?_) z ?_;obtain⟨w',B,C,D,E,F,H,I⟩:=y w l;exact⟨w',B,C,D,E,F,H,I⟩;refine WK.mono A ?_;rintro w ⟨J,K,l,L,s,j,n⟩;have m:∀x∈pre++(c,ob')::bl,own x.1:=λx f=>by rcases gl.1 f with f|f;exact g x (gl.2 (.inl f));rcases eQ.1 f with rfl|f;exact g (c,ob) (by simp);exact g x (by simp[f])
 have h:=l.inc;simp only[nQ,jP,List.pairwise_append,List.pairwise_cons]at h;refine KO.rely m p _ _ n ⟨λx f=>?_,?_,λx f=>?_,?_,?_⟩;rcases gl.1 f with f|f;have:x.1>c:=h.2.2 x.1 (jj.2 ⟨x,f,rfl⟩) c (by simp);rw[j _ (by omega)];exact l.at_ x (gl.2 (.inl f));rcases eQ.1 f with rfl|f;exact L;have:c>x.1:=h.2.1.1 x.1 (jj.2 ⟨x,f,rfl⟩);rw[j _ (by omega)];exact l.at_ x (by simp[f]);simp only[nQ,jP,List.pairwise_append,List.pairwise_cons];exact h;rcases gl.1 f with f|f;exact l.lo x (gl.2 (.inl f));rcases eQ.1 f with rfl|f;exact l.lo (c,ob) (by simp);exact l.lo x (by simp[f]);rw[s];exact l.sz;refine p J K (by rw[s];exact cz _) (λb _ M=>j b λe=>?_) l.q;subst e;exact r b (g (b,ob) (by simp)) M
end
end Go.Proofs.W
namespace Go.Proofs.W
open Go.Conc Go.cF Go.cF.Cr Go.cF.Wg Go.RowKit Go.Conc.Lib Go.ConcR.Gen
open Go.ConcN Go.ConcN.Gen
open Go.ConcR (KK wgBlock WgAt stA smA mk DC0)
noncomputable def EJ:Code:=(Go.Code.cond (Go.Operand.tmp 40) Go.Code.skip (Go.Code.exit 2)).seq (Go.Code.block 3 ((Go.Code.region 15 vR false).seq (Go.Code.region 16 vS false)))
structure J6 where
 (x5 YT x24 x25 x26 x27 x28 YU YV YW YX YY YZ Y0 Y1 Y2:ce)
noncomputable def Bx(e:rh)(m:J6)(pc oc Wg Ch n A:Nat)(k a b c d f g h i j:ce):Act:=
 yY e pc oc Wg n m.x5 (.slice (some ⟨A,0,none⟩) n n) k m.YT m.x24 m.x25 m.x26 m.x27 m.x28 m.YU m.YV m.YW m.YX m.YY m.YZ m.Y0 m.Y1 m.Y2 (.chan (some Ch)) a b c d f g h i j
structure KB(Wg lc:Nat)(rd own:Nat->Prop)(K0:cd->Prop)(lv:Array ce)(w:cd):Prop where
 was:∃w0,K0 w0/\lc=w0.heap.size/\w0.heap.size<=w.heap.size/\∀x,x<w0.heap.size->own x\/rd x->w.heap[x]? =w0.heap[x]?
 live:Lv 241 Wg w
 l:w.heap[lc]? =some (.cells lv 247)
def KB.rely{Wg lc:Nat}{rd own:Nat->Prop}{c:cd->Prop}{lv:Array ce}:nN (λx=>own x\/x=lc) rd (Lv 241 Wg) (KB Wg lc rd own c lv):=λw k a h=>by obtain⟨d,e,f,g,i⟩:=h.was;exact⟨⟨d,e,f,cJ g a.size,λx j b=>(a.heap x (by omega) (b.imp .inl id)).trans (i x j b)⟩,a.live h.live,a.obj (.inl (.inr rfl)) h.l⟩
theorem J7{e:rh}{m:J6}{pc oc Wg Ch n pb A i:Nat}{Q:World->Prop}{rd own:Nat->Prop}{Pv:Nat->(Nat->Prop)->World->Value->Prop}{S:gF}{Sb:Nat->Bool}{cs:List Frame}(hn:n<=65536)(hi:i<n)(ae:own A)(h1:rd pc)(h3:rd oc)(hQ:ri rd Q)(hP:y8 Pv) {sa:Option Addr}{sl sc:Nat}{mm k:Int}{b:Bool} (x7 T U V X Y Z aa ab:Value) (ac:∀own' x7 ai T U V X Y Z aa ab,WK PR 241 Wg true rd S own' (KR pc oc Wg Ch A pb n rd Q Pv own' (upd Sb i true)) (G (jV.at (Bx e m pc oc Wg Ch n A x7 ai T U V X Y Z aa ab) [.code nY,.inLoop nY,.inBlock 2,.code kG]) cs)):
 WK PR 241 Wg true rd S own (λw=>KR pc oc Wg Ch A pb n rd Q Pv own Sb w/\∃F,(∀x,F x->own x/\x≠A/\x<w.heap.size)/\Pv i F w (nm sa sl sc mm k b))
  (G (jV.at (Bx e m pc oc Wg Ch n A x7 (.tuple #[CU i sa sl sc mm k b,.bool true]) T U V X Y Z aa ab) [.inRegion lj [1],.code EJ,.inLoop nY,.inBlock 2,.code kG]) cs):=by
 have C:nN own rd (Lv 241 Wg) (λw=>KR pc oc Wg Ch A pb n rd Q Pv own Sb w/\∃F,(∀x,F x->own x/\x≠A/\x<w.heap.size)/\Pv i F w (nm sa sl sc mm k b)):=λw w1 H h=>⟨KR.rely h1 h3 hQ hP w w1 H h.1,h.2.imp λF h=>⟨λx z=>⟨(h.1 x z).1,(h.1 x z).2.1,Nat.lt_of_lt_of_le (h.1 x z).2.2 H.size⟩,hP _ _ _ _ _ (λx z=>H.heap x (h.1 x z).2.2 (.inl (h.1 x z).1)) h.2⟩⟩;have I:∀d lv,nN (λx=>own x\/x=d) rd (Lv 241 Wg) (KB Wg d rd own (λw=>KR pc oc Wg Ch A pb n rd Q Pv own Sb w/\∃F,(∀x,F x->own x/\x≠A/\x<w.heap.size)/\Pv i F w (nm sa sl sc mm k b)) lv):=λ_ _=>KB.rely;simp only[lj,Bx,yY];refine WK.val (v:=?_) C rfl rfl (by k_ne) (λw=>?_) (λw=>?_) ?_;rotate_left
 ·go_simp;rfl
 ·go_simp
 walk_nrm;refine WK.ctl C rfl (λ_=>stepG_region_end) ?_;refine WK.ctl C rfl (λ_=>stepG_seq) ?_;refine WK.ctl C rfl (λ_=>stepG_cond (t:=true) rfl) ?_;simp only[if_true];refine WK.ctl C rfl (λ_=>stepG_skip) ?_;refine WK.ctl C rfl (λ_=>stepG_block) ?_;refine WK.ctl C rfl (λ_=>stepG_seq) ?_;refine WK.ctl C rfl (λ_=>stepG_region) ?_;simp only[vR,List.size_toArray,List.length_cons,List.length_nil,Nat.reduceAdd,Nat.zero_add,List.range,List.range.loop];refine WK.val (v:=?_) C rfl rfl (by k_ne) (λw=>?_) (λw=>?_) ?_;rotate_left
 ·go_simp;rfl
 ·go_simp
 walk_nrm;refine WK.new (f:=λn=>.pointer (some ⟨n,0,none⟩)) (ob:=.cells #[.int .i64 0,.slice none 0 0,.int .i64 0,.int .i64 0,.bool false] 247) C rfl rfl (by k_ne) (λw q=>?_) (λw q e o=>?_) (λd=>?_)
 ·go_simp;first|done|rfl
 ·simp[go_sem]at o
 refine WK.mono (K':=KB Wg d rd own (λw=>KR pc oc Wg Ch A pb n rd Q Pv own Sb w/\∃F,(∀x,F x->own x/\x≠A/\x<w.heap.size)/\Pv i F w (nm sa sl sc mm k b)) #[.int .i64 0,.slice none 0 0,.int .i64 0,.int .i64 0,.bool false]) ?_ ?_;rotate_left
 ·rintro w ⟨L,q,rfl,H⟩;refine I _ _ _ _ H ⟨⟨L,q,rfl,by simp,λx z _=>?_⟩,se q.1.s.live,by simp⟩;show(L.heap.push _)[x]? =_;rw[Array.getElem?_push];split
  ·omega
  ·rfl
 walk_nrm;refine WK.write (bl:=d) (W:=λ_ w'=>w'.heap[d]? =some (.cells #[.int .i64 i,.slice sa sl sc,.int .i64 mm,.int .i64 k,.bool b] 247)) (I _ _) rfl rfl (by k_ne) (.inr rfl) (λw q=>?_) (λw q e o=>?_) ?_
 ·have g:=q.l;have c0:w.cell? ⟨d,0,none⟩=some (.int .i64 0):=by simp[World.cell?,g]
  have f0:w.frozen? ⟨d,0,none⟩=false:=by simp[World.frozen?,g]
  have M:w.cell? ⟨d,1,none⟩=some (.slice none 0 0):=by simp[World.cell?,g]
  have f1:w.frozen? ⟨d,1,none⟩=false:=by simp[World.frozen?,g]
  have N:w.cell? ⟨d,2,none⟩=some (.int .i64 0):=by simp[World.cell?,g]
  have f2:w.frozen? ⟨d,2,none⟩=false:=by simp[World.frozen?,g]
  have O:w.cell? ⟨d,3,none⟩=some (.int .i64 0):=by simp[World.cell?,g]
  have f3:w.frozen? ⟨d,3,none⟩=false:=by simp[World.frozen?,g]
  have c4:w.cell? ⟨d,4,none⟩=some (.bool false):=by simp[World.cell?,g]
  have f4:w.frozen? ⟨d,4,none⟩=false:=by simp[World.frozen?,g]
  simp only[CU];go_simp;refine⟨by simp[World.setCell],by simp[World.setCell],λc ad=>?_,?_⟩
  ·simp[World.setCell,Array.getElem?_modify,Ne.symm ad]
  ·simp[World.setCell,Array.getElem?_modify,g]
 ·have g:=q.l;have c0:w.cell? ⟨d,0,none⟩=some (.int .i64 0):=by simp[World.cell?,g]
  have f0:w.frozen? ⟨d,0,none⟩=false:=by simp[World.frozen?,g]
  have M:w.cell? ⟨d,1,none⟩=some (.slice none 0 0):=by simp[World.cell?,g]
  have f1:w.frozen? ⟨d,1,none⟩=false:=by simp[World.frozen?,g]
  have N:w.cell? ⟨d,2,none⟩=some (.int .i64 0):=by simp[World.cell?,g]
  have f2:w.frozen? ⟨d,2,none⟩=false:=by simp[World.frozen?,g]
  have O:w.cell? ⟨d,3,none⟩=some (.int .i64 0):=by simp[World.cell?,g]
  have f3:w.frozen? ⟨d,3,none⟩=false:=by simp[World.frozen?,g]
  have c4:w.cell? ⟨d,4,none⟩=some (.bool false):=by simp[World.cell?,g]
  have f4:w.frozen? ⟨d,4,none⟩=false:=by simp[World.frozen?,g]
  simp only[CU]at o;have B:∀(w:World) (B:Array Event) (a:Addr) (m:Mode) (x:Option Addr) (l c:Nat),(store a (.slice x l c) m).events PR w B=storedEv PR w B a (.slice x l c) m:=λw B a m x l c=>events_store PR w B a _ m rfl;have eb:∀(w:World) (B:Array Event) (a:Addr) (m:Mode) (x:Bool),(store a (.bool x) m).events PR w B=storedEv PR w B a (.bool x) m:=λw B a m x=>events_store PR w B a _ m rfl;simp[go_sem,B,eb,c0,M,N,O,c4,f0,f1,f2,f3,f4]at o;rcases o with o|o|o|o|o<;>exact .inl ⟨_,_,o,.inl (.inr rfl)⟩
 refine WK.mono (K':=KB Wg d rd own (λw=>KR pc oc Wg Ch A pb n rd Q Pv own Sb w/\∃F,(∀x,F x->own x/\x≠A/\x<w.heap.size)/\Pv i F w (nm sa sl sc mm k b)) #[.int .i64 i,.slice sa sl sc,.int .i64 mm,.int .i64 k,.bool b]) ?_ ?_;rotate_left
 ·rintro w ⟨L,w1,q,hW,hs,ho,H⟩;obtain⟨aj,k1,k2,k3,k4⟩:=q.was;obtain⟨st,sm,hl⟩:=q.live;refine I _ _ _ _ H ⟨⟨aj,k1,k2,by omega,λx z ak=>(ho x (by omega)).trans (k4 x z ak)⟩,⟨st,sm,(ho Wg ?_).trans hl⟩,hW⟩;have:=k1.1.lw;obtain⟨ax,ay,al⟩:=k1.1.s.live;have:=lt_of_heap al;omega
 walk_nrm;have u:=I d #[.int .i64 i,.slice sa sl sc,.int .i64 mm,.int .i64 k,.bool b];refine WK.ctl u rfl (λ_=>stepG_region_end) ?_;refine WK.ctl u rfl (λ_=>stepG_region) ?_;simp only[vS,List.size_toArray,List.length_cons,List.length_nil,Nat.reduceAdd,Nat.zero_add,List.range,List.range.loop];refine WK.val (v:=?_) u rfl rfl (by k_ne) (λw=>?_) (λw=>?_) ?_;rotate_left
 ·go_simp;rfl
 ·go_simp
 walk_nrm;refine WK.val (v:=?_) u rfl rfl (by k_ne) (λw=>?_) (λw=>?_) ?_;rotate_left
 ·go_simp;rfl
 ·go_simp
 walk_nrm;refine WK.load (v:=.int .i64 i) u rfl rfl (by k_ne) (λw q=>?_) (λw q e o=>?_) ?_
 ·have g:=(λw q=>(show w.cell? ⟨d,0,none⟩=some (.int .i64 i) by simp[World.cell?,q.l])) w q;go_simp
 ·have g:=(λw q=>(show w.cell? ⟨d,0,none⟩=some (.int .i64 i) by simp[World.cell?,q.l])) w q;simp[go_sem,g]at o;exact .inl ⟨_,_,o,.inl (.inr rfl)⟩
 walk_nrm;refine WK.val (v:=?_) u rfl rfl (by k_ne) (λw=>?_) (λw=>?_) ?_;rotate_left
 ·go_simp;rfl
 ·go_simp
 walk_nrm;refine WK.load (v:=nm sa sl sc mm k b) u rfl rfl (by k_ne) (λw q=>?_) (λw q e o=>?_) ?_
 ·have g:=q.l;have M:w.cell? ⟨d,1,none⟩=some (.slice sa sl sc):=by simp[World.cell?,g]
  have N:w.cell? ⟨d,2,none⟩=some (.int .i64 mm):=by simp[World.cell?,g]
  have O:w.cell? ⟨d,3,none⟩=some (.int .i64 k):=by simp[World.cell?,g]
  have c4:w.cell? ⟨d,4,none⟩=some (.bool b):=by simp[World.cell?,g]
  go_simp;first|done|rfl
 ·have g:=q.l;have M:w.cell? ⟨d,1,none⟩=some (.slice sa sl sc):=by simp[World.cell?,g]
  have N:w.cell? ⟨d,2,none⟩=some (.int .i64 mm):=by simp[World.cell?,g]
  have O:w.cell? ⟨d,3,none⟩=some (.int .i64 k):=by simp[World.cell?,g]
  have c4:w.cell? ⟨d,4,none⟩=some (.bool b):=by simp[World.cell?,g]
  simp[go_sem,M,N,O,c4]at o;rcases o with o|o|o|o<;>exact .inl ⟨_,_,o,.inl (.inr rfl)⟩
 walk_nrm;refine WK.val (v:=.pointer (some ⟨A,4*i,none⟩)) u rfl rfl (by k_ne) (λw=>?_) (λw=>?_) ?_
 ·go_simp<;>omega
 ·simp[go_sem];exact events_indexAt_slice _ _ _ _ _ _ (by kernel_rfl) ⟨by omega,by omega⟩
 walk_nrm;refine WK.write (bl:=A) (W:=λw w'=>∀cs:Array Value,w.heap[A]? =some (.cells cs 199)->w'.heap[A]? =some (.cells ((((cs.setIfInBounds (4*i) (.slice sa sl sc)).setIfInBounds (4*i+1) (.int .i64 mm)).setIfInBounds (4*i+2) (.int .i64 k)).setIfInBounds (4*i+3) (.bool b)) 199)) u rfl rfl (by k_ne) (.inl ae) (λw q=>?_) (λw q e o=>?_) ?_
 ·obtain⟨L,⟨H,_⟩,_,_,p⟩:=q.was;obtain⟨y,P,af,_⟩:=H.a;have E:w.heap[A]? =some (.cells y 199):=(p A (lt_of_heap P) (.inl H.oa)).trans P;have c0:w.cell? ⟨A,4*i,none⟩=some (y[4*i]'(by omega)):=by simp[World.cell?,E]
  have M:w.cell? ⟨A,4*i+1,none⟩=some (y[4*i+1]'(by omega)):=by simp[World.cell?,E]
  have N:w.cell? ⟨A,4*i+2,none⟩=some (y[4*i+2]'(by omega)):=by simp[World.cell?,E]
  have O:w.cell? ⟨A,4*i+3,none⟩=some (y[4*i+3]'(by omega)):=by simp[World.cell?,E]
  have f0:w.frozen? ⟨A,4*i,none⟩=false:=by simp[World.frozen?,E]
  have f1:w.frozen? ⟨A,4*i+1,none⟩=false:=by simp[World.frozen?,E]
  have f2:w.frozen? ⟨A,4*i+2,none⟩=false:=by simp[World.frozen?,E]
  have f3:w.frozen? ⟨A,4*i+3,none⟩=false:=by simp[World.frozen?,E]
  simp only[nm];go_simp;refine⟨by simp[World.setCell],by simp[World.setCell],λc ad=>?_,?_⟩
  ·simp[World.setCell,Array.getElem?_modify,Ne.symm ad]
  ·simp[World.setCell,Array.getElem?_modify,E]
 ·obtain⟨L,⟨H,_⟩,_,_,p⟩:=q.was;obtain⟨y,P,af,_⟩:=H.a;have E:w.heap[A]? =some (.cells y 199):=(p A (lt_of_heap P) (.inl H.oa)).trans P;have c0:w.cell? ⟨A,4*i,none⟩=some (y[4*i]'(by omega)):=by simp[World.cell?,E]
  have M:w.cell? ⟨A,4*i+1,none⟩=some (y[4*i+1]'(by omega)):=by simp[World.cell?,E]
  have N:w.cell? ⟨A,4*i+2,none⟩=some (y[4*i+2]'(by omega)):=by simp[World.cell?,E]
  have O:w.cell? ⟨A,4*i+3,none⟩=some (y[4*i+3]'(by omega)):=by simp[World.cell?,E]
  have f0:w.frozen? ⟨A,4*i,none⟩=false:=by simp[World.frozen?,E]
  have f1:w.frozen? ⟨A,4*i+1,none⟩=false:=by simp[World.frozen?,E]
  have f2:w.frozen? ⟨A,4*i+2,none⟩=false:=by simp[World.frozen?,E]
  have f3:w.frozen? ⟨A,4*i+3,none⟩=false:=by simp[World.frozen?,E]
  have B:∀(w:World) (B:Array Event) (a:Addr) (m:Mode) (x:Option Addr) (l c:Nat),(store a (.slice x l c) m).events PR w B=storedEv PR w B a (.slice x l c) m:=λw B a m x l c=>events_store PR w B a _ m rfl;have eb:∀(w:World) (B:Array Event) (a:Addr) (m:Mode) (x:Bool),(store a (.bool x) m).events PR w B=storedEv PR w B a (.bool x) m:=λw B a m x=>events_store PR w B a _ m rfl;simp only[nm]at o;simp[go_sem,B,eb,c0,M,N,O,f0,f1,f2,f3]at o;rcases o with o|o|o|o<;>exact .inl ⟨_,_,o,.inl (.inl ae)⟩
 refine WK.mono (K':=KR pc oc Wg Ch A pb n rd Q Pv (λx=>own x\/x=d) (upd Sb i true)) ?_ ?_;rotate_left
 ·rintro w ⟨w1,w2,q,hW,hs,ho,H⟩;refine KR.rely h1 h3 hQ hP _ _ H ?_;obtain⟨L,⟨D,F,J,am⟩,az,af,p⟩:=q.was;obtain⟨y,P,ag,ah⟩:=D.a;have an:w1.heap[A]? =some (.cells y 199):=(p A (lt_of_heap P) (.inl D.oa)).trans P;have R:∀x,own x->x≠A->x<L.heap.size->w2.heap[x]? =L.heap[x]? :=λx z ao ap=>(ho x ao).trans (p x ap (.inl z));obtain⟨st,sm,hl⟩:=q.live;refine⟨⟨D.s.k.same h1 h3 hQ (by omega) λx z=>(ho x (by have:=D.lr x z;omega)).trans (p x (D.s.k.r x z) (.inr z)),⟨st,sm,(ho Wg (by have:=D.lw;omega)).trans hl⟩⟩,⟨_,hW y an,by simp[ag],λj hj hS=>?_⟩,.inl D.oa,D.lr,D.lw⟩;by_cases e:j=i
  ·subst e
   refine⟨sa,sl,sc,mm,k,b,F,λx z=>⟨.inl (J x z).1,(J x z).2.1,by have:=(J x z).2.2;omega⟩,?_,?_,?_,?_,hP _ _ _ _ _ (λx z=>R x (J x z).1 (J x z).2.1 (J x z).2.2) am⟩<;>
    simp[Array.getElem?_setIfInBounds,ag]<;>omega
  ·have aq:Sb j=true:=by rwa[upd_ne _ _ e]at hS
   obtain⟨ar,au,av,m',k',b',aw,g1,g2,g3,g4,g5,g6⟩:=MS.same (own':=λx=>own x\/x=d) hP (ah j hj aq) (λ_ h=>.inl h) (by omega:L.heap.size<=w2.heap.size) R;refine⟨ar,au,av,m',k',b',aw,g1,?_,?_,?_,?_,g6⟩
   ·rw[Array.getElem?_setIfInBounds_ne (by omega),Array.getElem?_setIfInBounds_ne (by omega),Array.getElem?_setIfInBounds_ne (by omega),Array.getElem?_setIfInBounds_ne (by omega)];exact g2
   ·rw[Array.getElem?_setIfInBounds_ne (by omega),Array.getElem?_setIfInBounds_ne (by omega),Array.getElem?_setIfInBounds_ne (by omega),Array.getElem?_setIfInBounds_ne (by omega)];exact g3
   ·rw[Array.getElem?_setIfInBounds_ne (by omega),Array.getElem?_setIfInBounds_ne (by omega),Array.getElem?_setIfInBounds_ne (by omega),Array.getElem?_setIfInBounds_ne (by omega)];exact g4
   ·rw[Array.getElem?_setIfInBounds_ne (by omega),Array.getElem?_setIfInBounds_ne (by omega),Array.getElem?_setIfInBounds_ne (by omega),Array.getElem?_setIfInBounds_ne (by omega)];exact g5
 have K:nN (λx=>own x\/x=d) rd (Lv 241 Wg) (KR pc oc Wg Ch A pb n rd Q Pv (λx=>own x\/x=d) (upd Sb i true)):=KR.rely h1 h3 hQ hP;refine WK.ctl K rfl (λ_=>stepG_region_end) ?_;refine WK.ctl K rfl (λ_=>stepG_inBlock) ?_;refine WK.ctl K rfl (λ_=>stepG_inLoop) ?_;exact ac _ _ _ _ _ _ _ _ _ _ _
def rl(S:Nat->Bool)(n:Nat):Nat:=sumTo n λj=>if S j=true then 1 else 0
theorem IU(S:Nat->Bool):∀n,rl S n<=n
 |0=>by simp[rl,sumTo]
 |n+1=>by have:=IU S n;simp only[rl,sumTo]at*;split<;>omega
theorem EK(S:Nat->Bool):∀n,rl S n=n->∀j,j<n->S j=true
 |0,_,j,c=>by omega
 |n+1,h,j,c=>by
  have a:=IU S n;simp only[rl,sumTo]at h a;by_cases e:S n=true;rw[cx e]at h;rcases eA j n with b|b;exact EK S n (by simp only[rl];omega) j b;obtain rfl:j=n:=by omega
  exact e;rw[cr e]at h;omega
theorem EL(S:Nat->Bool)(i:Nat)(a:S i=false):∀n,i<n->rl (upd S i true) n=rl S n+1
 |0,h=>by omega
 |n+1,h=>by
  by_cases e:i=n;subst e;have b:rl (upd S i true) i=rl S i:=sumTo_congr λj d=>by rw[upd_ne _ _ (by omega)]
  simp only[rl,sumTo]at b⊢;rw[b,upd_same,a];simp;have c:=EL S i a n (by omega);simp only[rl,sumTo]at c⊢;rw[c,upd_ne _ _ (by omega)];omega
noncomputable def IV(e:rh)(m:J6)(pc oc Wg Ch n A:Nat)(j a b c d f g h i:ce)(cs:List Frame):cj:=
 G (jV.at (Bx e m pc oc Wg Ch n A j (.tuple #[rj,.bool false]) a b c d f g h i) [.inRegion lj [1],.code EJ,.inLoop nY,.inBlock 2,.code kG]) cs
def Uy(e:rh)(m:J6)(pc oc Wg Ch A pb n:Nat)(rd:Nat->Prop)(Q:cd->Prop)(Pv:Nat->(Nat->Prop)->cd->ce->Prop)(cs:List Frame):gF:=λa g w=>
 ∃l b c d f h i j k,g=IV e m pc oc Wg Ch n A l b c d f h i j k cs/\KR pc oc Wg Ch A pb n rd Q Pv a (λ_=>true) w
def KR.all{pc oc Wg Ch A pb n:Nat}{Q:cd->Prop}{Pv:Nat->(Nat->Prop)->cd->ce->Prop}{S S':Nat->Bool}{own rd:Nat->Prop}{w:cd}(h:KR pc oc Wg Ch A pb n rd Q Pv own S w)(e:∀j,j<n->S' j=true->S j=true):KR pc oc Wg Ch A pb n rd Q Pv own S' w:=by obtain⟨f,g,b,i⟩:=h.a;exact⟨h.s,⟨f,g,b,λj d c=>i j d (e j d c)⟩,h.oa,h.lr,h.lw⟩
def hears{e:rh}{m:J6}{pc oc Wg Ch n pb A:Nat}{Q:cd->Prop}{rd:Nat->Prop}{Pv:Nat->(Nat->Prop)->cd->ce->Prop}{cs:List Frame}{End:gF}(D:∀own g w,Uy e m pc oc Wg Ch A pb n rd Q Pv cs own g w->End own g w)(W:n<=65536)(K:rd pc)(L:rd oc)(M:ri rd Q)(J:y8 Pv):∀(r:Nat) (S:Nat->Bool) (own:Nat->Prop) (C y d f l o p q t u:ce),rl S n+r=n->WK PR 241 Wg true rd (nV PR 241 Wg Ch n rd (EG Pv) End rj r S) own (KR pc oc Wg Ch A pb n rd Q Pv own S) (G (jV.at (Bx e m pc oc Wg Ch n A C y d f l o p q t u) [.code nY,.inLoop nY,.inBlock 2,.code kG]) cs):=by
 intro r;induction r with
 |zero=>
  intro S own C y d f l o p q t u X;have c:nN own rd (Lv 241 Wg) (KR pc oc Wg Ch A pb n rd Q Pv own S):=KR.rely K L M J;refine WK.ctl c rfl (λ_=>iv) ?_;refine WK.ctl c rfl (λ_=>jl) ?_;rw[show List.range lj.size=[0,1]from rfl];refine WK.stop c λw z=>⟨rfl,λw=>?_,?_⟩;refine(stepG_comm rfl rfl (by k_ne) (EF (Ch:=Ch) rfl rfl w)).trans ?_;unfold listed;rw[wS (Ch:=Ch) rfl rfl w,seen_none];rw[served_G];exact D _ _ _ ⟨C,d,f,l,o,p,q,t,u,rfl,z.all λj N _=>EK S n (by omega) j N⟩
 |succ r Y=>
  intro S own C y d f l o p q t u X;have c:nN own rd (Lv 241 Wg) (KR pc oc Wg Ch A pb n rd Q Pv own S):=KR.rely K L M J;refine WK.ctl c rfl (λ_=>iv) ?_;refine WK.ctl c rfl (λ_=>jl) ?_;rw[show List.range lj.size=[0,1]from rfl];refine WK.stop c λw z=>⟨rfl,λw=>?_,λi v E U O F H=>?_⟩;refine(stepG_comm rfl rfl (by k_ne) (EF (Ch:=Ch) rfl rfl w)).trans ?_;unfold listed;rw[wS (Ch:=Ch) rfl rfl w,seen_none];rw[served_G];obtain⟨sa,sl,sc,mm,k,b,Z,rfl,B,P⟩:=F
  have hl:=J7 (e:=e) (m:=m) (Wg:=Wg) (Ch:=Ch) (n:=n) (pb:=pb) (A:=A) (i:=i) (own:=λb=>own b\/E b) (S:=nV PR 241 Wg Ch n rd (EG Pv) End rj r (upd S i true)) (Sb:=S) (cs:=cs) W U (.inl z.oa) K L M J (sa:=sa) (sl:=sl) (sc:=sc) (mm:=mm) (k:=k) (b:=b)
   C d f l o p q t u λV C y d f l o p q t u=>Y _ _ _ _ _ _ _ _ _ _ _ _ (by rw[EL S i O n U];omega)
  obtain⟨ca,ha,R,I⟩:=z.a;refine hl w ⟨⟨z.s,⟨ca,ha,R,λj N O=>(I j N O).same J (λ_ h=>.inl h) (cz _) λ_ _ _ _=>rfl⟩,.inl z.oa,z.lr,z.lw⟩,Z,λx T=>⟨.inr (B x T).1,λe=>H x (B x T).1 (e▸z.oa),(B x T).2⟩,P⟩
end Go.Proofs.W
