/- Laws that the proof needs, part 2. Conditions: none. -/
import Derived.Conc.CompanyDraw
import Derived.Conc.TokenWalk
import Derived.Laws.MakeOwn
import Derived.Conc.AppendWalk
import Derived.Below
import Derived.Outline
import Derived.Lib.Hide
import Derived.Conc.SmallLaws
import Derived.ArgAppend
import Derived.Defers
import Derived.Scope
import Derived.RangeFuncRecord
import Derived.RangeFuncLeaves
import Derived.Test.YteeagjkaflglpaaGreatX01
set_option maxRecDepth 100000
set_option maxHeartbeats 8000000
set_option linter.all false
variable{m k i j o p s d:Nat}{w t e:cJ}{x y z:cK}{A B C:Nat->Prop}{R:Go.dA.dO}{l f:List Nat}{T U:cR}{a:Option Go.Addr}{W X:Array cK}{M Y:List cK}{I J:Int}{h:Go.Addr}{D E:Bool}{F:Go.Frame}{O Q:Go.Obj}{K:dZ}{Z:cQ}{S:cJ->Prop}{P:cU}
namespace Go.Proofs.W
open Go.Conc Go.dA Go.dA.Cr Go.dA.Wg Go.RowKit Go.Conc.Lib Go.ConcR.Gen
open Go.ConcR (KK wgBlock WgAt stA smA mk DC0)
def Cl(d e a b c f:Bool):Prop:=(a=true->e=true)/\(b=true->a=true)/\(c=true->b=true)/\(f=true->c=true/\d=true)
instance (b1 b2 b3 b4 b5 b6:Bool):Decidable (Cl b1 b2 b3 b4 b5 b6):=by unfold Cl;infer_instance
def I2:∀g a b c d e f:Bool,Cl a b c d e f->Region.ready .any fK #[g,a,b,c,d,e,f,false]≠[]:=by decide+kernel
def ct(b:Bool):Nat:=if b then 0 else 1
def Nx(f a b c d e g:Bool)(i:Nat):Prop:=(i=0/\f=false)\/(i=1/\a=false)\/(i=2/\b=false)\/(i=3/\c=false/\b=true)\/(i=4/\d=false/\c=true)\/(i=5/\e=false/\d=true)\/(i=6/\g=false/\e=true/\a=true)\/(i=7/\f=true/\a=true/\b=true/\c=true/\d=true/\e=true/\g=true)
instance (b0 b1 b2 b3 b4 b5 b6:Bool) (i:Nat):Decidable (Nx b0 b1 b2 b3 b4 b5 b6 i):=by unfold Nx;infer_instance
theorem F5:∀g a b c d e f:Bool,Cl a b c d e f->((Region.ready .any fK #[g,a,b,c,d,e,f,false]).all λi=>decide (Nx g a b c d e f i))=true:=by decide+kernel
def I3{a b c d e:Bool}(h:Cl E a b c d e)(i:Nat)(f:i∈Region.ready .any fK #[D,E,a,b,c,d,e,false]):Nx D E a b c d e i:=by grind [List.all_eq_true,F5]
structure K2(pc ic oc Wg Ch T:Nat)(pl:Addr)(i:Int)(Q:cJ->Prop)(p0 p1 p2 p3 p4 p5 p6 p7 sa:cK)(m n:Int)(s:Bool)(Sc:cJ->cK->Prop)(w:cJ):Prop where
 kw:KW pc ic oc Wg Ch pl i Q w
 t:∃fz,w.heap[T]? =some (.cells #[p0,p1,p2,p3,p4,p5,p6,p7,sa,.int .i64 m,.int .i64 n,.bool s] 245 fz)
 sc:Sc w (.agg #[sa,.int .i64 m,.int .i64 n,.bool s])
noncomputable def sZ(c d e f g T:Nat)(h:Addr)(i:Int)(a b:cK)(j k l m n o p:Bool):Act:=
 kq c d e f T h (.pointer (some ⟨T,0,none⟩)) (.int .i64 i) undef (if j then .chan (some g)else undef) (if k then .int .i64 i else undef) (if l then .pointer (some ⟨T,0,none⟩)else undef)
  (if m then .pointer (some ⟨T,0,none⟩)else undef) (if n then .pointer (some ⟨T,8,none⟩)else undef) (if o then a else undef) (if p then b else undef)
def Aa{a:Array Oper}{fuel t:Nat}{l:Array Bool}(c:Region.ready .any a l≠[]):∃i d,i∈Region.ready .any a l/\Region.linearise.go .any a (fuel+1) t l []=i::Region.linearise.go .any a fuel d (l.setIfInBounds i true) []:=by have b:t%(Region.ready .any a l).iw<(Region.ready .any a l).iw:=Nat.mod_lt _ cL;refine⟨(Region.ready .any a l)[t%(Region.ready .any a l).iw],t/(Region.ready .any a l).iw,eG b,?_⟩;grind [List.getElem?_eq_getElem,linearise_go_acc,Region.linearise.go,Region.ready]
def Ss{af:iV}{P Q R T U:cK}{n:Int}{V:cJ->cK->Prop}(h2:A k)(h3:A i)(hT:B p) (f:pt B A (Lv 241 j) (K2 m k i j o p h I S x y z P Q R T U (.slice a s d) J n D V)) (hn:WK PR 241 j false A af B (K2 m k i j o p h I S x y z P Q R T U (.slice a s d) J n D V) (G (F1.at (sZ m k i j o p h I (.agg #[.slice a s d,.int .i64 J,.int .i64 n,.bool D]) (.agg #[.int .i64 I,.slice a s d,.int .i64 J,.int .i64 n,.bool D]) true true true true true true true) [.inRegion fK [7]]) [bot])):∀(fuel:Nat) (q r u C E F g:Bool) (t:Nat),Cl r u C E F g->fuel=1+ct q+ct r+ct u+ct C+ct E+ct F+ct g->WK PR 241 j false A af B (K2 m k i j o p h I S x y z P Q R T U (.slice a s d) J n D V) (G (F1.at (sZ m k i j o p h I (.agg #[.slice a s d,.int .i64 J,.int .i64 n,.bool D]) (.agg #[.int .i64 I,.slice a s d,.int .i64 J,.int .i64 n,.bool D]) q r u C E F g) [.inRegion fK (Region.linearise.go .any fK fuel t #[q,r,u,C,E,F,g,false] [])]) [bot]):=by
 intro fuel;induction fuel with
 |zero=>intro q r u C E F g t b hf;omega
 |succ fuel K=>
  intro q r u C E F g t b hf;obtain⟨ag,L,hj,e⟩:=Aa (fuel:=fuel) (t:=t) (I2 q r u C E F g b);rw[e];obtain⟨rfl,l⟩|⟨rfl,l⟩|⟨rfl,l⟩|⟨rfl,l,M⟩|⟨rfl,l,M⟩|⟨rfl,l,M⟩|⟨rfl,l,M,W⟩|⟨rfl,X,Y,Z,aa,ab,ac,ad⟩:=I3 b ag hj;subst l;refine WK.load (v:=.chan (some o)) f rfl rfl (by k_ne) (λw H=>?_) (λw H e c=>?_) (K true r u C E F g L b (by grind [ct]));have b:=H.kw.o;simp only[fK,sZ,kq];go_simp;have b:=H.kw.o;simp only[fK,sZ,kq]at c;simp[go_sem,b]at c;exact .inl ⟨_,_,c,.inr (.inl ⟨rfl,h3⟩)⟩;subst l;refine WK.load (v:=i64 I) f rfl rfl (by k_ne) (λw H=>?_) (λw H e c=>?_) (K q true u C E F g L ⟨b.1,b.2.1,b.2.2.1,λae=>⟨(b.2.2.2 ae).1,rfl⟩⟩ (by grind [ct]));have b:=H.kw.i;simp only[fK,sZ,kq];go_simp;have b:=H.kw.i;simp only[fK,sZ,kq]at c;simp[go_sem,b]at c;exact .inl ⟨_,_,c,.inr (.inl ⟨rfl,h2⟩)⟩;subst l;refine WK.val (v:=dQ p) f rfl rfl (by k_ne) (λw=>?_) (λw=>?_) (K q r true C E F g L ⟨cL,b.2.1,b.2.2⟩ (by grind [ct]));simp only[fK,sZ,kq];go_simp;simp only[fK,sZ,kq];simp[go_sem];subst l M;refine WK.val (v:=dQ p) f rfl rfl (by k_ne) (λw=>?_) (λw=>?_) (K q r true true E F g L ⟨cL,cL,b.2.2⟩ (by grind [ct]));simp only[fK,sZ,kq];go_simp;simp only[fK,sZ,kq];simp[go_sem];subst l M;refine WK.val (v:=oz p 8) f rfl rfl (by k_ne) (λw=>?_) (λw=>?_) (K q r u true true F g L ⟨b.1,cL,cL,b.2.2.2⟩ (by grind [ct]));simp only[fK,sZ,kq];go_simp;simp only[fK,sZ,kq];simp[go_sem];subst l M;refine WK.load (v:=.agg #[.slice a s d,i64 J,i64 n,.bool D]) f rfl rfl (by k_ne) (λw H=>?_) (λw H e c=>?_) (K q r u C true true g L ⟨b.1,b.2.1,cL,λae=>⟨rfl,(b.2.2.2 ae).2⟩⟩ (by grind [ct]));obtain⟨fz,b⟩:=H.t;have c8:w.cell? (dt p 8)=some (.slice a s d):=by simp[World.cell?,b]
  have c9:w.cell? (dt p 9)=some (i64 J):=by simp[World.cell?,b]
  have N:w.cell? (dt p 10)=some (i64 n):=by simp[World.cell?,b]
  have O:w.cell? (dt p 11)=some (.bool D):=by simp[World.cell?,b]
  simp only[fK,sZ,kq];go_simp;obtain⟨fz,b⟩:=H.t;have c8:w.cell? (dt p 8)=some (.slice a s d):=by simp[World.cell?,b]
  have c9:w.cell? (dt p 9)=some (i64 J):=by simp[World.cell?,b]
  have N:w.cell? (dt p 10)=some (i64 n):=by simp[World.cell?,b]
  have O:w.cell? (dt p 11)=some (.bool D):=by simp[World.cell?,b]
  simp only[fK,sZ,kq]at c;simp[go_sem,c8,c9,N,O]at c;obtain c|c|c|c:=c<;>exact .inl ⟨_,_,c,.inl hT⟩
  ·subst l M W;refine WK.val (v:=.agg #[i64 I,.slice a s d,i64 J,i64 n,.bool D]) f rfl rfl (by k_ne) (λw=>?_) (λw=>?_) (K q true u C E true true L ⟨b.1,b.2.1,b.2.2.1,cL⟩ (by grind [ct]))
   ·simp only[fK,sZ,kq];first|(go_simp;done)|(go_simp;have:=O9 I J n D a s d w;rw[this];rfl)
   simp only[fK,sZ,kq];have:=Mt I J n D a s d w;simp[go_sem,this]
  subst X Y Z aa ab ac ad;have:fuel=0:=by grind [ct]
  subst this;simpa[Region.linearise.go]using hn
end Go.Proofs.W
namespace Go.dA.Wg
open Go.Conc Go.ConcN Go.RowKit Go.Conc.Lib Go.ConcR.Gen Go.ConcN.Gen Go.dA
open Go.ConcR (KK wgBlock WgAt stA smA mk Payload DC0)
section
variable{L:WgLink}
def WN(H:WgLib P L){b qt:Nat}{f:List Frame}(d:F.mode=.returning)(i:QuitsD P qt 0 (G F f))(w:cJ)(c:True/\WgLive L.tWg b w):Goes P false (eP Cr.dr Cr.dr (Cr.Lv L.tWg b)) DC0 (Cr.R0 P L.tWg b) 43 (G ((baseD L.done).at ⟨#[.pointer (some ⟨b,0,none⟩),undef,undef,undef],[]⟩ [.code (body_done L)]) (F::f)) w:=by have e:∀{w a:cJ},True/\WgLive L.tWg b w->eP Cr.dr Cr.dr (Cr.Lv L.tWg b) w a->True/\WgLive L.tWg b a:=λh r=>⟨trivial,r.live h.2⟩;lib_facts;have g:=@Sm L;simp only[body_done,body_add,doneFn,addFn,kK,Nat.reduceSub,Array.replicate,List.replicate,List.append_toArray,nM,qI]at g⊢;u_reg e c;u_op e c;u_in e c;refine goes_call rfl rfl (by k_ne) rfl H.f_add (nm_add L) rfl ⟨⟨rfl,rfl⟩,?_⟩;walk_nrmf addFn;refine g H (qt:=qt+3) ?_ _ c;q_c cZ;q_c stepG_end;exact QuitsD.leaveD rfl rfl H.f_done rfl d i
end
end Go.dA.Wg
namespace Go.Proofs.W
open Go.Conc Go.dA Go.dA.Cr Go.dA.Wg Go.RowKit Go.Conc.Lib Go.ConcR.Gen
open Go.ConcR (KK wgBlock WgAt stA smA mk DC0)
def Pa{a:dU->cK}{o:Oper}{b y:dU}(c:o.op=.send b y)(d:a b=.chan (some m))(e:a y=x)(w:cJ):(execOp a o).run PR w=.ok (.comm #[scase m x undef] true .send) w:=by simp only[execOp,c,d,e];simp;rfl
def F6{Ch:Nat}{v:cK}{a:dU->cK}{o:Oper}{x y:dU}(b:o.op=.send x y)(c:a x=.chan (some Ch))(d:a y=v)(w:cJ):(execOp a o).events PR w #[]=#[]:=by simp only[execOp,b,c,d];simp
def Ab{R:cJ->dC}{S:cQ->dC}{K:dC}(d:∀{w a:cJ},K w->R w a->K a){b:cQ}(e:Z.status=.running)(f:∀w,stepG PR false Z w=.go b w #[]) (h:∀w,K w->Goes PR false R DC0 S m b w):∀w,K w->Goes PR false R DC0 S (m+1) Z w:=by intro w g;refine .inr ⟨e,λc i=>?_⟩;rw[f c];exact⟨⟨rfl,rfl⟩,h c (d g i)⟩
def Ac{b:Func}(f:dZ)(c:PR.funcs[f]? =some b)(a:b.results=#[])(d:eH)(e:List Item):QuitsD PR 2 0 (G {(baseD f).at ⟨d,[]⟩ e with mode:=.returning} [bot]):=by refine .inr ⟨rfl,G bot [],#[],dq,λw=>?_,.inr ⟨rfl,{G bot []with status:=.finished},#[],dq,λw=>?_,⟨rfl,rfl⟩⟩⟩;simp[G,stepG,unwind,doReturn,Frame.at,baseD,c,results,a,bot,goexitEntry,seen,GStep.after,kL];simp[G,stepG,unwind,bot,goexitEntry,Frame.catches];rfl
def I4:∀(w:cJ),Lv 241 j w->Goes PR false (eP dr dr (Lv 241 j)) DC0 (R0 PR 241 j) 46 (G (F1.at (sZ m k i j o p h I x y true true true true true true true) [.inRegion fK []]) [bot]) w:=by have b:∀{w a:cJ},Lv 241 j w->eP dr dr (Lv 241 j) w a->Lv 241 j a:=λc r=>r.live c;refine Ab (K:=Lv 241 j) b rfl (λ_=>cZ)<|Ab (K:=Lv 241 j) b rfl (λ_=>stepG_end)<|Ab (K:=Lv 241 j) b rfl (λ_=>stepG_unwind_enter rfl Tryz.func189 rfl rfl) ?_;intro w d;exact WN (L:=Tryz.link) Tryz.yi (qt:=2) rfl (Ac 188 Tryz.func188 rfl _ _) w ⟨trivial,d⟩
def St{i d f c Ch T u:Nat}{o p q r s:cK}{n:Int}{Sc:cJ->cK->Prop}{l:Nat->cK->(dp)->dC}(E:A d)(F:A f)(H:B T) (g:pt B A (Lv 241 c) (K2 i d f c Ch T h I S x y z o p q r s (.slice a m k) J n D Sc)) (K:∀w,K2 i d f c Ch T h I S x y z o p q r s (.slice a m k) J n D Sc w->l u (.agg #[.int .i64 I,.slice a m k,.int .i64 J,.int .i64 n,.bool D]) B w):WK PR 241 c false A (Sends PR 241 c Ch l u) B (K2 i d f c Ch T h I S x y z o p q r s (.slice a m k) J n D Sc) (G ((F4 i d f c T h I).finish undef) [bot]):=by
 have e:(F4 i d f c T h I).finish gU=F1.at (kq i d f c T h (dQ T) (i64 I) gU gU gU gU gU gU gU gU) [.inRegion F3 [],.code (.region 3 fK true)]:=by unfold F4;rw[Frame.finish_at];rfl
 rw[e];refine WK.ctl (g':=G (F1.at (kq i d f c T h (dQ T) (i64 I) gU gU gU gU gU gU gU gU) [.code (.region 3 fK true)]) [bot]) g rfl (λ_=>cZ) ?_;intro w L;refine mo rfl λC M=>⟨_,_,_,B,stepG_region_draw,⟨rfl,rfl,rfl,di _,λb=>⟨.inl,λj=>j.elim id λj=>absurd j.2 (Nat.not_lt.2 j.1)⟩,λ_ _ _=>rfl,λe N=>by simp at N⟩,?_⟩;have t:K2 i d f c Ch T h I S x y z o p q r s (.slice a m k) J n D Sc {C with drawn:=C.drawn+1}:=(g w _ (M.trans ⟨rfl,rfl,rfl,di _,λ_ _ _=>rfl,λj=>j⟩) L);have O:PR.follows .mixedOrders=true:=eE;simp only[Region.schedule,O,Bool.true_or,em];refine Ss E F H g ?_ 8 false false false false false false false _ kg rfl _ t;refine WK.stop g λw t=>⟨.agg #[i64 I,.slice a m k,i64 J,i64 n,.bool D],undef,rfl,λw=>?_,K w t,46,?_⟩;refine(stepG_comm rfl rfl (by k_ne) (Pa rfl rfl rfl w)).trans ?_;unfold listed;rw[F6 (v:=.agg #[i64 I,.slice a m k,i64 J,i64 n,.bool D]) (Ch:=Ch) rfl rfl rfl w,seen_none];rfl;exact I4 w t.kw.live
def iy{w w':cJ}{ad:Addr}(h:w'.heap[ad.block]? =w.heap[ad.block]?):w'.cell? ad=w.cell? ad:=by unfold World.cell?;rw[h]
def worker{Q:dC}{rd:dp}{Sc:(dp)->cJ->cK->Prop}{val:Nat->cK->(dp)->dC}(C:rd m)(r:rd i)(z:rd j)(M:yZ rd Q)(N:Uu rd o h I Q Sc) (O:∀u w a l c D n s,Sc u w (.agg #[.slice a l c,.int .i64 D,.int .i64 n,.bool s])->val k (.agg #[.int .i64 I,.slice a l c,.int .i64 D,.int .i64 n,.bool s]) u w):WK PR 241 o false rd (Sends PR 241 o p val k) dr (KW m i j o p h I Q) (born PR (call188 m i j o)):=by refine Sq C r z M λT=>?_;rintro w ⟨f,P,U,V,W,X⟩;have e:=N (λx=>dr x\/x=T) w T (F4 m i j o T h I) [bot] f.q (λb=>⟨λd=>d.elim (λd=>d.elim) id,.inr⟩) P;have e:=Wy.keep (B:=λb=>b=m\/b=i\/b=j) (by rintro b (rfl|rfl|rfl);exact⟨C,λd=>d.elim (λd=>d.elim) (λd=>cM),ue f.p⟩;exact⟨r,λd=>d.elim (λd=>d.elim) (λd=>cM),ue f.i⟩;exact⟨z,λd=>d.elim (λd=>d.elim) (λd=>cM),ue f.o⟩) e;have e:=Wy.WM (λd=>d.elim (λd=>d.elim) (λd=>cM)) f.live e;refine e.bind ?_;rintro u g K ⟨⟨⟨rfl,y,Y,Z,p2,p3,p4,p5,p6,p7,a,l,cc,D,n,s,L,E,F⟩,G⟩,R⟩;have H:KW m i j o p h I (λ_=>True) K:=⟨(iy (G m (.inl rfl))).trans f.p,(iy (G i (.inr (.inl rfl)))).trans f.i,(iy (G j (.inr (.inr rfl)))).trans f.o,R,trivial⟩;refine St (T:=T) (Sc:=λw v=>∀A,eP u rd (Lv 241 o) w A->Sc u A v) r z y (λw A J d=>⟨KW.rely C r z (λ_ _ _ _ d=>d) w A J d.kw,d.t.imp λL d=>J.obj (.inl y) d,λS r=>d.sc S (J.trans r)⟩) (λw d=>O _ _ _ _ _ _ _ _ (d.sc w (.refl _ _ _ _))) K ⟨H,⟨L,E⟩,F⟩
end Go.Proofs.W
namespace Go.dA.Cr
open Go.Conc Go.dA Go.dA.Kn Go.dA.Wg
open Go.ConcR (KK wgBlock WgAt stA smA mk DC0)
section
variable{P:cU}{own:Nat->Prop}{ty:cR}{Wg Ch:Nat}{rc:Nat->Prop}{sU Fin:cQ->cJ->Prop}
def Ad(q:∀g w,sU g w->∃k,Goes P false (eP own rc (Lv ty Wg)) DC0 (YX P false (eP own rc (Lv ty Wg)) Wg ty sU Fin) k g w)
 (r:∀g w,Fin g w->Wy P ty Wg false rc (V9 P Ch) own g w):Anchor P ty Wg Ch rc λo g w=>o=own/\sU g w:=by
 have f:∀{k:Nat} {g:cQ} {w:cJ},Goes P false (eP own rc (Lv ty Wg)) DC0 (X8 P false (eP own rc (Lv ty Wg)) Wg Fin) k g w->Wy P ty Wg false rc (XB P ty Wg Ch rc) own g w:=λh=>
  jU h λg w h=>rG (λh=>jU h λg w h=>rG (λh=>vZ h r) h) h
 refine⟨λo g w ⟨s,j⟩=>?_⟩;subst s;have⟨k,a⟩:=q g w j;refine jU a λg w ⟨c,d⟩=>⟨c,λv t i=>?_⟩;have⟨b,e,j,u⟩:=d v t i;refine⟨b,e,λl=>?_,λl=>?_⟩;have⟨k,a⟩:=j l;exact f a;have⟨k,a⟩:=u l;refine jU a λg w ⟨c,d⟩=>⟨c,λx m n=>?_⟩;have⟨y,z⟩:=d x m n;refine⟨λe=>?_,λe=>?_⟩;have⟨b,p,k,a⟩:=y e;refine⟨b,p,jU a λg w h=>rG (λh=>jU h λg w ⟨c,d,A,B⟩=>⟨c,d,A,λi=>?_⟩) h⟩;have⟨b,e,k,a⟩:=B i;refine⟨b,e,jU a λg w ⟨c,d⟩=>⟨c,λi=>?_⟩⟩;have⟨b,e,k,a⟩:=d i;exact⟨b,e,f a⟩;have⟨b,p,k,a⟩:=z e;exact⟨b,p,jU a λg w h=>⟨rfl,h⟩⟩
def F7{m:Nat}{g:cQ}{w:cJ}(h:Goes P false (eP own rc (Lv ty Wg)) DC0 (CC P false (eP own rc (Lv ty Wg)) .disable sU) m g w):
 Wy P ty Wg false rc (XC P ty Wg rc λo g w=>o=own/\sU g w) own g w:=
 jU h λg w h=>rG (λh=>jU h λg w h=>⟨rfl,h⟩) h
end
end Go.dA.Cr
namespace Go.Proofs.W
open Go.Conc Go.dA Go.dA.Cr Go.dA.Wg Go.RowKit Go.Conc.Lib Go.ConcR.Gen
open Go.ConcN Go.ConcN.Gen
open Go.ConcR (KK wgBlock WgAt stA smA mk DC0)
noncomputable def F8:Frame:=baseD 191
noncomputable def call191(a b:Nat):Deferred:={target:=.fn (.func 191) #[.pointer (some ⟨b,0,none⟩),.pointer (some ⟨a,0,none⟩)],args:=#[]}
noncomputable def Ec:Code:=Tryz.f191.body.getD .skip
def Su(a b:Nat)(w:cJ):stepG PR false (born PR (call191 a b)) w=.go (G (F8.at ⟨#[.pointer (some ⟨b,0,none⟩),.pointer (some ⟨a,0,none⟩),undef,undef],[]⟩ [.code Ec]) [bot]) w #[]:=by simp[born,call191,stepG,unwind,callDeferred,invoke,callFunc,Tryz.func191,Tryz.f191,seen,GStep.after,G,Frame.enter,Frame.at,F8,baseD,bot,Ec]
structure KC(oc Wg Ch:Nat)(w:cJ):Prop where
 o:w.cell? ⟨oc,0,none⟩=some (.chan (some Ch))
 live:Lv 241 Wg w
def KC.rely{own rd:dp}(b:rd m):pt own rd (Lv 241 k) (KC m k i):=λ_ _ a h=>⟨a.cell (.inr b) h.o,a.live h.live⟩
noncomputable def te:Array Oper:=#[{dst:=some 2,op:=Op.call {callee:=Callee.value (Operand.func 192),args:=#[Operand.tmp 0],argTypes:=#[241]},type:=0,pos:= "plan.go:152",after:=#[],guard:=none}]
noncomputable def oH:Array Oper:=#[{dst:=some 3,op:=Op.load 232 (Operand.tmp 1),type:=232,pos:= "plan.go:153",after:=#[],guard:=none},{dst:=none,op:=Op.call {callee:=Callee.builtin Builtin.close,args:=#[Operand.tmp 3],argTypes:=#[232]},type:=0,pos:= "plan.go:153",after:=#[{on:=0,ground:=Ground.data}],guard:=none}]
noncomputable def oI(a b:Nat)(c d:cK):Act:=⟨#[.pointer (some ⟨b,0,none⟩),.pointer (some ⟨a,0,none⟩),c,d],[]⟩
def I5(f:A m):WK PR 241 k false A (V9 PR i) dr (KC m k i) (G (F8.at (oI m k (.tuple #[]) undef) [.inRegion te [],.code (.region 1 oH false)]) [bot]):=by have a:pt dr A (Lv 241 k) (KC m k i):=KC.rely f;refine WK.ctl a rfl (λ_=>cZ)<|WK.ctl a rfl (λ_=>ig) ?_;simp only[im,fa,fP,Nat.reduceAdd,dn,List.range,List.range.loop];simp only[oH,oI];refine WK.load (v:=.chan (some i)) a rfl rfl (by k_ne) (λw b=>?_) (λw b e g=>?_) ?_;have d:=(λw b=>b.o) w b;go_simp;have d:=(λw b=>b.o) w b;simp[go_sem,d]at g;exact .inl ⟨_,_,g,.inr (.inl ⟨rfl,f⟩)⟩;walk_nrm;refine WK.stop a λw b=>⟨rfl,?_,G (F8.at (oI m k (.tuple #[]) (.chan (some i))) [.inRegion oH []]) [bot],rfl,λs r d=>?_,5,?_⟩;rfl;rw[stepG_close (c:=i) rfl rfl (by k_ne) rfl rfl d eE];rfl;exact mK (n:=4) cM<| .ctl rfl (λ_=>cZ)<| .ctl rfl (λ_=>stepG_end)<|Ac 191 Tryz.func191 rfl _ _
def closer{b Wg d:Nat}{rd:dp}(m:rd b)(n:b≠Wg)(w:cJ)(l:KC b Wg d w):OR PR 241 Wg d rd dr (born PR (call191 b Wg)) w:=by
 have i:pt dr rd (Lv 241 Wg) (KC b Wg d):=KC.rely m;have p:∀{w e:cJ},(w.cell? (dt b 0)=some (.chan (some d)))/\WgLive Tryz.link.tWg Wg w->eP dr rd (Lv 241 Wg) w e->(e.cell? (dt b 0)=some (.chan (some d)))/\WgLive Tryz.link.tWg Wg e:=λh r=>⟨r.cell (.inr m) h.1,r.live h.2⟩;have j:∀(w:cJ) (a:Addr) (x:cK),a.block=Wg->w.cell? (dt b 0)=some (.chan (some d))->(w.setCell a x).cell? (dt b 0)=some (.chan (some d)):=by intro w a x q h;rw[iy];exact h;exact Below.heap_setCell w a x b (by rw[q];exact n)
 have s:=λ(g:cQ) (w:cJ)=>I0 (L:=Tryz.link) (main:=false) (R:=eP dr rd (Lv 241 Wg)) (Wg:=Wg) (F:=λw=>w.cell? (dt b 0)=some (.chan (some d)))
  (b₀:=F8) (a₀:=oI b Wg gU gU) (ops₀:=te) (i₀:=0) (rest₀:=[]) (k₀:=[.code (.region 1 oH false)]) (cs:=[bot]) Tryz.yi p (λw x h=>j w _ x rfl h) (λw x h=>j w _ x rfl h) rfl g w
 refine⟨_,Ad s ?_,?_⟩;rintro g w ⟨rfl,t,u⟩;exact I5 m w ⟨t,u⟩;suffices h:WK PR 241 Wg false rd (XC PR 241 Wg rd λo g w=>o=dr/\AnchWN Tryz.link (λw=>w.cell? (dt b 0)=some (.chan (some d))) Wg (F8.at (oI b Wg gU gU) [.inRegion te [0],.code (.region 1 oH false)]) [bot] g w) dr (KC b Wg d) (born PR (call191 b Wg))from h w l;refine WK.ctl i rfl (Su b Wg) ?_;simp only[Ec,Tryz.f191,kK];refine WK.ctl i rfl (λ_=>dk)<|WK.ctl i rfl (λ_=>ig) ?_;simp only[im,fa,fP,Nat.reduceAdd,dn,List.range,List.range.loop];refine WK.enter (f:=Tryz.link.wait) (fn:=waitFn Tryz.link) (c:=body_wait Tryz.link) i rfl rfl (by k_ne) rfl Tryz.yi.f_wait (nm_wait Tryz.link) eE ?_;intro w l;rw[enter_at (fn:=waitFn Tryz.link) (c:=body_wait Tryz.link) _ Tryz.yi.f_wait eE]
 have v:=IZ (L:=Tryz.link) (main:=false) (R:=eP dr rd (Lv 241 Wg)) (Wg:=Wg) (F:=λw=>w.cell? (dt b 0)=some (.chan (some d)))
  (b₀:=F8) (a₀:=oI b Wg gU gU) (ops₀:=te) (i₀:=0) (rest₀:=[]) (k₀:=[.code (.region 1 oH false)]) (cs:=[bot]) Tryz.yi p w ⟨l.o,l.live⟩
 have⟨k,y⟩:=v;have z:=F7 y;have A:Array.map (oI b Wg gU gU).eval #[Operand.tmp 0]=#[Value.pointer (pr Wg 0)]:=by simp[oI,Act.eval]
 change Wy PR 241 Wg false rd _ dr (G ((base Tryz.link.wait).at {tmps:=Array.map (oI b Wg gU gU).eval #[Operand.tmp 0]++Array.replicate ((waitFn Tryz.link).ntmps-(Array.map (oI b Wg gU gU).eval #[Operand.tmp 0]).size) gU,defers:=[]} [.code (body_wait Tryz.link)]) (F8.at (oI b Wg gU gU) [.inRegion te [0],.code (.region 1 oH false)]::[bot])) w;rw[A];exact z
noncomputable def Ae:Array Oper:=(λ(x:Array Oper) (_:gX Tryz.f163 0=.region 0 x false)=>x) _ (by conv=>lhs;whnf)
noncomputable def Af:Array Oper:=(λ(x:Array Oper) (_:gX Tryz.f163 1=.region 1 x false)=>x) _ (by conv=>lhs;whnf)
noncomputable def F9:Array Oper:=(λ(x:Array Oper) (_:gX Tryz.f163 2=.region 2 x false)=>x) _ (by conv=>lhs;whnf)
noncomputable def Ga:Array Oper:=(λ(x:Array Oper) (_:gX Tryz.f163 3=.region 3 x false)=>x) _ (by conv=>lhs;whnf)
noncomputable def Gb:Array Oper:=(λ(x:Array Oper) (_:gX Tryz.f163 4=.region 4 x false)=>x) _ (by conv=>lhs;whnf)
noncomputable def Gc:Array Oper:=(λ(x:Array Oper) (_:gX Tryz.f163 5=.region 5 x false)=>x) _ (by conv=>lhs;whnf)
noncomputable def Ag:Array Oper:=(λ(x:Array Oper) (_:gX Tryz.f163 6=.region 6 x false)=>x) _ (by conv=>lhs;whnf)
noncomputable def Ge:Array Oper:=(λ(x:Array Oper) (_:gX Tryz.f163 7=.region 7 x false)=>x) _ (by conv=>lhs;whnf)
noncomputable def tf:Array Oper:=(λ(x:Array Oper) (_:gX Tryz.f163 8=.region 8 x false)=>x) _ (by conv=>lhs;whnf)
noncomputable def oJ:Array Oper:=(λ(x:Array Oper) (_:gX Tryz.f163 9=.region 9 x false)=>x) _ (by conv=>lhs;whnf)
noncomputable def mL:Array Oper:=(λ(x:Array Oper) (_:gX Tryz.f163 10=.region 10 x false)=>x) _ (by conv=>lhs;whnf)
noncomputable def ug:Array Oper:=(λ(x:Array Oper) (_:gX Tryz.f163 11=.region 11 x false)=>x) _ (by conv=>lhs;whnf)
noncomputable def oh:Array Oper:=(λ(x:Array Oper) (_:gX Tryz.f163 12=.region 12 x false)=>x) _ (by conv=>lhs;whnf)
noncomputable def xk:Array Oper:=(λ(x:Array Oper) (_:gX Tryz.f163 13=.region 13 x false)=>x) _ (by conv=>lhs;whnf)
noncomputable def mM:Array Oper:=(λ(x:Array Oper) (_:gX Tryz.f163 14=.region 14 x false)=>x) _ (by conv=>lhs;whnf)
noncomputable def xl:Array Oper:=(λ(x:Array Oper) (_:gX Tryz.f163 15=.region 15 x false)=>x) _ (by conv=>lhs;whnf)
noncomputable def xm:Array Oper:=(λ(x:Array Oper) (_:gX Tryz.f163 16=.region 16 x false)=>x) _ (by conv=>lhs;whnf)
noncomputable def CE:Array Oper:=(λ(x:Array Oper) (_:gX Tryz.f163 17=.region 17 x false)=>x) _ (by conv=>lhs;whnf)
noncomputable def gG:Code:=(Go.Code.region 6 Ag false).seq ((Go.Code.cond (Go.Operand.tmp 24) Go.Code.skip (Go.Code.exit 0)).seq ((Go.Code.block 1 ((Go.Code.region 7 Ge false).seq ((Go.Code.region 8 tf false).seq (Go.Code.region 9 oJ false)))).seq (Go.Code.region 10 mL false)))
noncomputable def pH:Code:=(Go.Code.region 14 mM false).seq ((Go.Code.cond (Go.Operand.tmp 40) Go.Code.skip (Go.Code.exit 2)).seq (Go.Code.block 3 ((Go.Code.region 15 xl false).seq (Go.Code.region 16 xm false))))
noncomputable def mq:Code:=(Go.Code.region 17 CE false).seq Go.Code.ret
noncomputable def jF:Code:=(Go.Code.region 11 ug false).seq ((Go.Code.region 12 oh false).seq (((Go.Code.region 13 xk false).seq (Go.Code.block 2 pH.loop)).seq mq))
noncomputable def we:Code:=(Go.Code.region 0 Ae false).seq (((Go.Code.region 1 Af false).seq (Go.Code.cond (Go.Operand.tmp 13) ((Go.Code.region 2 F9 false).seq Go.Code.ret) Go.Code.skip)).seq ((Go.Code.region 3 Ga false).seq ((Go.Code.region 4 Gb false).seq (((Go.Code.region 5 Gc false).seq (Go.Code.block 0 gG.loop)).seq jF))))
def Ah:Tryz.f163.body=some we:=eE
noncomputable def lO:Frame:=base 163
structure tg where
 (x0 x2 x8 x9 YY YZ Y0 Y1 Y2 Y3 Y4 Y5 Y6 Y7 Y8 Y9:cK)
noncomputable def nX(e:tg)(pc oc Wg n i:Nat)(g a b c d f:cK):Act:=
 ⟨#[e.x0,.pointer (some ⟨pc,0,none⟩),e.x2,.pointer (some ⟨oc,0,none⟩),.pointer (some ⟨Wg,0,none⟩),g,undef,undef,e.x8,e.x9,e.YY,e.YZ,e.Y0,e.Y1,e.Y2,e.Y3,e.Y4,e.Y5,e.Y6,e.Y7,e.Y8,e.Y9,.int .i64 n,.int .i64 i,a,b,c,d,f,undef,undef,undef,undef,undef,undef,undef,undef,undef,undef,undef,undef,undef,undef,undef,undef,undef,undef,undef,undef,undef,undef,undef],[]⟩
structure Sv(pc oc Wg Ch:Nat)(pl:Addr)(rd:Nat->Prop)(Q:cJ->Prop)(w:cJ):Prop where
 p:w.cell? ⟨pc,0,none⟩=some (.pointer (some pl))
 o:w.cell? ⟨oc,0,none⟩=some (.chan (some Ch))
 r:∀b,rd b->b<w.heap.size
 q:Q w
def th(rd:dp)(Q:dC):Prop:=∀w a:cJ,(∀b,rd b->a.heap[b]? =w.heap[b]?)->Q w->Q a
structure KS(pc oc Wg Ch:Nat)(pl:Addr)(rd:Nat->Prop)(Q:cJ->Prop)(w:cJ):Prop where
 k:Sv pc oc Wg Ch pl rd Q w
 live:Lv 241 Wg w
section
variable{pc oc Wg Ch:Nat}{pl:Addr}{Q:cJ->Prop}{own rd:Nat->Prop}
def Sv.same{w w':cJ}(h:Sv pc oc Wg Ch pl rd Q w)(c:rd pc)(d:rd oc)(e:th rd Q)(f:w.heap.size<=w'.heap.size)(a:∀b,rd b->w'.heap[b]? =w.heap[b]?):Sv pc oc Wg Ch pl rd Q w':=
 ⟨(iy (a pc c)).trans h.p,(iy (a oc d)).trans h.o,λb g=>ew (h.r b g) f,e w w' a h.q⟩
def Sv.rely{L:dC}(d:rd pc)(e:rd oc)(f:th rd Q):pt own rd L (Sv pc oc Wg Ch pl rd Q):=
 λ_ _ a h=>h.same d e f a.size λb c=>a.heap b (h.r b c) (.inr c)
theorem KS.rely(b:rd pc)(c:rd oc)(d:th rd Q):pt own rd (Lv 241 Wg) (KS pc oc Wg Ch pl rd Q):=
 λw e a h=>⟨Sv.rely b c d w e a h.k,a.live h.live⟩
end
def I6{e:tg}{pc oc Wg Ch n:Nat}{pl:Addr}{Q:dC}{rd:dp}{S:iV}{f:List Frame}(g:rd pc)(h:rd oc)(i:th rd Q){b c d:cK} (j:∀y,WK PR 241 Wg true rd S dr (KS pc oc Wg Ch pl rd Q) (G (lO.at (nX e pc oc Wg n n x y z b c d) [.code jF]) f)):WK PR 241 Wg true rd S dr (KS pc oc Wg Ch pl rd Q) (G (lO.at (nX e pc oc Wg n n x y z b c d) [.code gG,.inLoop gG,.inBlock 0,.code jF]) f):=by have a:pt dr rd (Lv 241 Wg) (KS pc oc Wg Ch pl rd Q):=KS.rely g h i;refine WK.ctl a rfl (λ_=>dk)<|WK.ctl a rfl (λ_=>ig) ?_;simp only[Ag,nX,im,fa,fP,Nat.reduceAdd,dn,List.range,List.range.loop];refine WK.val (v:=.bool false) a rfl rfl (by k_ne) (λw=>?_) (λw=>?_) ?_;go_simp;simp[go_sem];walk_nrm;exact WK.ctl a rfl (λ_=>cZ)<|WK.ctl a rfl (λ_=>dk)<|WK.ctl a rfl (λ_=>stepG_cond (t:=false) rfl)<|WK.ctl a rfl (λ_=>stepG_exit rfl)<|j (.bool false)
def u9{w:cJ}{a:Addr}{c Wg:Nat}(h:Wg≠a.block)(b:Lv c Wg w):Lv c Wg (w.setCell a x):=by have⟨d,e,b⟩:=b;exact⟨d,e,(fS w a x Wg h).trans b⟩
structure Wc(pc oc Wg Ch ic:Nat)(pl:Addr)(rd:Nat->Prop)(Q:cJ->Prop)(v:Int)(w:cJ):Prop where
 s:Sv pc oc Wg Ch pl rd Q w
 i:w.heap[ic]? =some (.cells #[.int .i64 v] 3)
 lr:∀b,rd b->b<ic
 lw:Wg<ic
structure KI(pc oc Wg Ch ic:Nat)(pl:Addr)(rd:Nat->Prop)(Q:cJ->Prop)(v:Int)(w:cJ):Prop where
 k:Wc pc oc Wg Ch ic pl rd Q v w
 live:Lv 241 Wg w
section
variable{pc oc Wg Ch ic:Nat}{pl:Addr}{Q:cJ->Prop}{own rd:Nat->Prop}{v:Int}
theorem Wc.rely{L:dC}(b:rd pc)(c:rd oc)(d:own ic)(e:th rd Q):pt own rd L (Wc pc oc Wg Ch ic pl rd Q v):=
 λw f a h=>⟨Sv.rely b c e w f a h.s,a.obj (.inl d) h.i,h.lr,h.lw⟩
theorem KI.rely(b:rd pc)(c:rd oc)(d:own ic)(e:th rd Q):pt own rd (Lv 241 Wg) (KI pc oc Wg Ch ic pl rd Q v):=
 λw f a h=>⟨Wc.rely b c d e w f a h.k,a.live h.live⟩
end
def Ed{a:dU->cK}{o:Oper}{x:dU}{f:dZ}{cs:eH}(b:o.op=.go {callee:=.value x,args:=#[],argTypes:=#[]})(c:a x=.func (.func f) #[] cs)(w:cJ):(execOp a o).run PR w=.ok (.spawn {target:=.fn (.func f) cs,args:=#[]}) w/\(execOp a o).events PR w #[]=#[]:=by constructor;simp[execOp,b,c,resolve,Deferred.ofValue];simp[execOp,b,c,resolve,Deferred.ofValue]
def I7{e:tg}{pc oc Wg Ch n i:Nat}{pl:Addr}{Q:dC}{rd:dp}{val:Nat->cK->(dp)->dC}{S:iV}{cs:List Frame}(I:i<n)(O:n<2^62)(l:rd pc)(u:rd oc)(J:¬rd Wg)(y:th rd Q){x5 x24 x25 x26 x27 x28:cK}
 (z:∀ic w,KW pc ic oc Wg Ch pl i (λw=>Q w/\∀b,rd b->b<w.heap.size) w->Wy PR 241 Wg false (λb=>rd b\/b=ic) (Sends PR 241 Wg Ch val i) dr (born PR (call188 pc ic oc Wg)) w)
 (A:∀x5 x24 x25 x26 x27 x28,WK PR 241 Wg true rd S dr (KS pc oc Wg Ch pl rd Q) (G (lO.at (nX e pc oc Wg n (i+1) x5 x24 x25 x26 x27 x28) [.code gG,.inLoop gG,.inBlock 0,.code jF]) cs)):WK PR 241 Wg true rd (WF PR 241 Wg Ch rd val i (Wy PR 241 Wg true rd S)) dr (KS pc oc Wg Ch pl rd Q) (G (lO.at (nX e pc oc Wg n i x5 x24 x25 x26 x27 x28) [.code gG,.inLoop gG,.inBlock 0,.code jF]) cs):=by
 have a:pt dr rd (Lv 241 Wg) (KS pc oc Wg Ch pl rd Q):=KS.rely l u y;refine WK.ctl a rfl (λ_=>dk)<|WK.ctl a rfl (λ_=>ig) ?_;simp only[Ag,nX,im,fa,fP,Nat.reduceAdd,dn,List.range,List.range.loop];refine WK.val (v:=.bool true) a rfl rfl (by k_ne) (λw=>?_) (λw=>?_) ?_
 ·go_simp;first|done|simp[I]
 simp[go_sem];walk_nrm;refine WK.ctl a rfl (λ_=>cZ)<|WK.ctl a rfl (λ_=>dk)<|WK.ctl a rfl (λ_=>stepG_cond (t:=true) rfl) ?_;simp only[em];refine WK.ctl a rfl (λ_=>fC)<|WK.ctl a rfl (λ_=>dk)<|WK.ctl a rfl (λ_=>sM)<|WK.ctl a rfl (λ_=>dk)<|WK.ctl a rfl (λ_=>ig) ?_;simp only[Ge,im,fa,fP,Nat.reduceAdd,dn,List.range,List.range.loop];refine WK.val (v:=?_) a rfl rfl (by k_ne) (λw=>?_) (λw=>?_) ?_;rotate_left;go_simp;rfl;go_simp;walk_nrm;refine WK.new (f:=λn=>dQ n) (ob:=.cells #[i64 0] 3) a rfl rfl (by k_ne) (λw d=>?_) (λw d e B=>?_) (λic=>?_);go_simp;first|rfl|skip
 simp[go_sem]at B;refine WK.mono (K':=KI pc oc Wg Ch ic pl rd Q 0) ?_ ?_;rotate_left;rintro w ⟨C,d,rfl,K⟩;have⟨Y,Z,U⟩:=d.live;have M:KI pc oc Wg Ch C.lG pl rd Q 0 {C with heap:=C.heap.push (.cells #[i64 0] 3)}:=⟨⟨d.k.same l u y dq λb E=>by have:=d.k.r b E;grind,dq,d.k.r,lt_of_heap U⟩,uf d.live⟩;exact KI.rely l u (.inr rfl) y _ _ K M;have D:pt (λx=>dr x\/x=ic) rd (Lv 241 Wg) (KI pc oc Wg Ch ic pl rd Q 0):=KI.rely l u (.inr rfl) y;walk_nrm;refine WK.store (ad:=(dt ic 0)) (x:=i64 i) D rfl rfl (by k_ne) (.inr rfl) (λw d=>?_) (λw d e B=>?_) ?_;have H:w.cell? (dt ic 0)=some (i64 0):=by simp[World.cell?,d.k.i]
 have P:w.frozen? (dt ic 0)=false:=by simp[World.frozen?,d.k.i]
 go_simp;have H:w.cell? (dt ic 0)=some (i64 0):=by simp[World.cell?,d.k.i]
 have P:w.frozen? (dt ic 0)=false:=by simp[World.frozen?,d.k.i]
 simp[go_sem,H,P]at B;exact .inl ⟨_,_,B,.inl (.inr rfl)⟩;refine WK.mono (K':=KI pc oc Wg Ch ic pl rd Q i) ?_ ?_;rotate_left;rintro w ⟨C,d,K⟩
 have M:KI pc oc Wg Ch ic pl rd Q i (C.setCell (dt ic 0) (i64 i)):=⟨⟨d.k.s.same l u y dq λb E=>fS _ _ _ _ (by have:=d.k.lr b E;grind),
  by simp[World.setCell,nL,d.k.i],d.k.lr,d.k.lw⟩,u9 (by have:=d.k.lw;grind) d.live⟩
 exact KI.rely l u (.inr rfl) y _ _ K M;have j:pt (λx=>dr x\/x=ic) rd (Lv 241 Wg) (KI pc oc Wg Ch ic pl rd Q i):=KI.rely l u (.inr rfl) y;refine WK.ctl j rfl (λ_=>cZ)<|WK.ctl j rfl (λ_=>dk)<|WK.ctl j rfl (λ_=>ig) ?_;simp only[tf,im,fa,fP,Nat.reduceAdd,dn,List.range,List.range.loop];refine WK.enter (f:=Tryz.link.add) (fn:=addFn Tryz.link) (c:=body_add Tryz.link) j rfl rfl (by k_ne) rfl Tryz.yi.f_add (nm_add Tryz.link) eE ?_;intro w T;rw[enter_at (fn:=addFn Tryz.link) (c:=body_add Tryz.link) _ Tryz.yi.f_add eE]
 have⟨m,B⟩:=X7 (L:=Tryz.link) (main:=true) (R:=eP (λx=>dr x\/x=ic) rd (Lv 241 Wg)) (Wg:=Wg) (F:=Wc pc oc Wg Ch ic pl rd Q i)
  (b₀:=lO) (a₀:=nX e pc oc Wg n i (dQ ic) (.bool true) (i64 i) x26 x27 x28) (ops₀:=tf) (i₀:=0) (rest₀:=[]) (k₀:=[.code (Go.Code.region 9 oJ false),.inBlock 1,.code (Go.Code.region 10 mL false),.inLoop gG,.inBlock 0,.code jF]) (cs:=cs) Tryz.yi (λh r=>⟨Wc.rely l u (.inr rfl) y _ _ r h.1,r.live h.2⟩) (λw x h=>⟨h.s.same l u y dq λb E=>fS _ _ _ _ (λe=>J (by rw[show Wg=b from e.symm];grind)),(fS _ _ _ _ (by have:=h.lw;grind [stA])).trans h.i,h.lr,h.lw⟩) rfl w ⟨T.k,T.live⟩
 have H:=I1 (Ch:=Ch) (val:=val) (i:=i) (Next:=Wy PR 241 Wg true rd S) B ?_;have V:Array.map (nX e pc oc Wg n i (dQ ic) (.bool true) (i64 i) x26 x27 x28).eval #[Operand.tmp 4,Operand.const (Value.int IntKind.i64 1)]=#[Value.pointer (pr Wg 0),i64 1]:=by simp[nX,Act.eval]
 change Wy PR 241 Wg true rd _ (λx=>dr x\/x=ic) (G ((base Tryz.link.add).at {tmps:=Array.map (nX e pc oc Wg n i (dQ ic) (.bool true) (i64 i) x26 x27 x28).eval #[Operand.tmp 4,Operand.const (Value.int IntKind.i64 1)]++Array.replicate ((addFn Tryz.link).ntmps-(Array.map (nX e pc oc Wg n i (dQ ic) (.bool true) (i64 i) x26 x27 x28).eval #[Operand.tmp 4,Operand.const (Value.int IntKind.i64 1)]).size) gU,defers:=[]} [.code (body_add Tryz.link)])
  (lO.at (nX e pc oc Wg n i (dQ ic) (.bool true) (i64 i) x26 x27 x28) [.inRegion tf [0],.code (Go.Code.region 9 oJ false),.inBlock 1,.code (Go.Code.region 10 mL false),.inLoop gG,.inBlock 0,.code jF]::cs)) w
 rw[V];exact H
 ·rintro g w ⟨rfl,N,W⟩
  suffices h:WK PR 241 Wg true rd (XD PR 241 Wg Ch rd val i (Wy PR 241 Wg true rd S)) (λx=>dr x\/x=ic) (KI pc oc Wg Ch ic pl rd Q i)
   (G (lO.at (nX e pc oc Wg n i (dQ ic) (.bool true) (i64 i) (.tuple #[]) x27 x28) [.inRegion tf [],.code (Go.Code.region 9 oJ false),.inBlock 1,.code (Go.Code.region 10 mL false),.inLoop gG,.inBlock 0,.code jF]) cs)from h w ⟨N,W⟩
  refine WK.ctl j rfl (λ_=>cZ)<|WK.ctl j rfl (λ_=>ig) ?_;simp only[oJ,nX,im,fa,fP,Nat.reduceAdd,dn,List.range,List.range.loop];refine WK.val (v:=?_) j rfl rfl (by k_ne) (λw=>?_) (λw=>?_) ?_;rotate_left;go_simp;rfl;rfl;walk_nrm;refine WK.stop j λw d=>⟨rfl,G (lO.at (nX e pc oc Wg n i (dQ ic) (.bool true) (i64 i) (.tuple #[]) (.func (.func 188) #[] (F2 pc ic oc Wg)) x28) [.inRegion oJ [],.inBlock 1,.code (Go.Code.region 10 mL false),.inLoop gG,.inBlock 0,.code jF]) cs,born PR (call188 pc ic oc Wg),λx=>x=ic,(stepG_spawn rfl rfl (by k_ne) (Ed (f:=188) (cs:=F2 pc ic oc Wg) rfl rfl w).1 rfl).trans ?_,rfl,cL,?_,?_⟩;unfold listed;rw[(Ed (f:=188) (cs:=F2 pc ic oc Wg) rfl rfl w).2,seen_none];rfl;exact z ic w ⟨d.k.s.p,by simp[World.cell?,d.k.i],d.k.s.o,d.live,d.k.s.q,d.k.s.r⟩
  ·have X:(λb=>(dr b\/b=ic)/\¬b=ic)=dr:=by
    grind
   rw[X];suffices h:WK PR 241 Wg true rd S dr (KS pc oc Wg Ch pl rd Q) (G (lO.at (nX e pc oc Wg n i (dQ ic) (.bool true) (i64 i) (.tuple #[]) (.func (.func 188) #[] (F2 pc ic oc Wg)) x28) [.inRegion oJ [],.inBlock 1,.code (Go.Code.region 10 mL false),.inLoop gG,.inBlock 0,.code jF]) cs)from h w ⟨d.k.s,d.live⟩;refine WK.ctl a rfl (λ_=>cZ)<|WK.ctl a rfl (λ_=>stepG_inBlock)<|WK.ctl a rfl (λ_=>ig) ?_;simp only[mL,nX,im,fa,fP,Nat.reduceAdd,dn,List.range,List.range.loop];refine WK.val (v:=i64 ((i+1:Nat):Int)) a rfl rfl (by k_ne) (λw=>?_) (λw=>?_) ?_;go_simp;rw[IntKind.wrap_i64];omega;simp[go_sem];walk_nrm;refine WK.val (v:=?_) a rfl rfl (by k_ne) (λw=>?_) (λw=>?_) ?_;rotate_left;go_simp;rfl;go_simp;walk_nrm;exact WK.ctl a rfl (λ_=>cZ)<|WK.ctl a rfl (λ_=>stepG_inLoop)<|A _ _ _ _ _ _
def Sr(c d n:Nat)(e:dp)(a:Nat->cK->(dp)->dC)(b:iV):Nat->iV
 |0=>OS PR 241 c d n e a b
 |r+1=>WF PR 241 c d e a (n-(r+1)) (qd PR 241 c d n e a b r)
def CF(c e n:Nat)(d:dp)(a:Nat->cK->(dp)->dC)(b:iV):∀r,qd PR 241 c e n d a b r=Wy PR 241 c true d (Sr c e n d a b r)
 |0=>rfl
 |_+1=>rfl
def Vo{e:tg}{pl:Addr}{Q:dC}{val:Nat->cK->(dp)->dC}{End:iV}{cs:List Frame}(d:p<2^62)(l:A m)(n:A k)(g:¬A j)(q:th A Q)
 (a:∀i f w,i<p->KW m f k j o pl i (λw=>Q w/\∀b,A b->b<w.heap.size) w->Wy PR 241 j false (λb=>A b\/b=f) (Sends PR 241 j o val i) dr (born PR (call188 m f k j)) w)
 (c:∀x5 x24 x25 x26 x27 x28,WK PR 241 j true A (OS PR 241 j o p A val End) dr (KS m k j o pl A Q) (G (lO.at (nX e m k j p p x5 x24 x25 x26 x27 x28) [.code jF]) cs)):∀r,r<=p->∀x5 x24 x25 x26 x27 x28,WK PR 241 j true A (Sr j o p A val End r) dr (KS m k j o pl A Q) (G (lO.at (nX e m k j p (p-r) x5 x24 x25 x26 x27 x28) [.code gG,.inLoop gG,.inBlock 0,.code jF]) cs):=by
 intro r;induction r with
 |zero=>
  intro _ x5 x24 x25 x26 x27 x28;rw[Nat.sub_zero];exact I6 l n q λx24=>c _ _ _ _ _ _
 |succ r s=>
  intro u x5 x24 x25 x26 x27 x28;have h:=I7 (e:=e) (cs:=cs) (val:=val) (i:=p-(r+1)) (S:=Sr j o p A val End r) cM d l n g q (x5:=x5) (x24:=x24) (x25:=x25) (x26:=x26) (x27:=x27) (x28:=x28) (λf w t=>a _ f w cM t) (λx5 x24 x25 x26 x27 x28=>by have:=s cM x5 x24 x25 x26 x27 x28;rwa[show p-r=p-(r+1)+1 by omega]at this);rw[<-CF]at h;exact h
noncomputable def Ai(e:tg)(B C D n:Nat)(E F G a b c d f g h i j k l m o p q r s t u v w x y z A:cK):Act:=
 ⟨#[e.x0,.pointer (some ⟨B,0,none⟩),e.x2,.pointer (some ⟨C,0,none⟩),.pointer (some ⟨D,0,none⟩),E,F,G,e.x8,e.x9,e.YY,e.YZ,e.Y0,e.Y1,e.Y2,e.Y3,e.Y4,e.Y5,e.Y6,e.Y7,e.Y8,e.Y9,.int .i64 n,a,b,c,d,f,g,h,i,j,k,l,m,o,p,q,r,s,t,u,v,w,x,y,z,A,undef,undef,undef,undef],[]⟩
structure Pb(pb:Nat)(la:Addr)(L C:Nat)(a0:Option Addr)(n c0:Nat)(w:cJ):Prop where
 f2:w.cell? ⟨pb,2,none⟩=some (.slice (some la) L C)
 l0:w.cell? la=some (.slice a0 n c0)
noncomputable def oK:Code:=((Go.Code.region 13 xk false).seq (Go.Code.block 2 pH.loop))
def Gf{e:tg}{rd:dp}{q:Nat->cK->(dp)->dC}{r:iV}{cs:List Frame}(C:rd m)(u:rd k)(x:¬rd i)(D:th rd S)
 (s:∀t y c d g l n A,WK PR 241 i true rd (pE PR 241 i j o rd q r z o (λ_=>false)) dr (KS m k i j ⟨p,0,none⟩ rd S)
  (G (lO.at (Ai e m k i o t undef undef y c d g l n A undef undef undef undef undef undef undef undef undef undef undef undef undef undef undef undef undef undef) [.code (Go.Code.region 12 oh false),.code (oK.seq mq)]) cs))
 (t c d g l n:cK):WK PR 241 i true rd (OS PR 241 i j o rd q r) dr (KS m k i j ⟨p,0,none⟩ rd S) (G (lO.at (nX e m k i o o t c d g l n) [.code jF]) cs):=by
 have a:pt dr rd (Lv 241 i) (KS m k i j (dt p 0) rd S):=KS.rely C u D;refine WK.ctl a rfl (λ_=>dk)<|WK.ctl a rfl (λ_=>ig) ?_;simp only[ug,nX,im,fa,fP,Nat.reduceAdd,dn,List.range,List.range.loop];refine WK.val (v:=?_) a rfl rfl (by k_ne) (λw=>?_) (λw=>?_) ?_;rotate_left;go_simp;rfl;rfl;walk_nrm
 refine WK.stop a λw B=>⟨rfl,G (lO.at (Ai e m k i o t gU gU (i64 o) c d g l n (.func (.func 191) #[] #[dQ i,dQ k]) gU gU gU gU gU gU gU gU gU gU gU gU gU gU gU gU gU gU)
  [.inRegion ug [],.code ((Go.Code.region 12 oh false).seq (oK.seq mq))]) cs,born PR (call191 k i),dr,z,(stepG_spawn rfl rfl (by k_ne) (Ed (f:=191) (cs:=#[dQ i,dQ k]) rfl rfl w).1 rfl).trans ?_,rfl,λb E=>E.elim,?_,?_⟩
 unfold listed;rw[(Ed (f:=191) (cs:=#[dQ i,dQ k]) rfl rfl w).2,seen_none];rfl;refine closer (rd:=λb=>rd b\/dr b) (.inl u) (λe=>x (by rw[<-e];exact u)) w ⟨B.k.o,B.live⟩;have F:(λb=>dr b/\¬dr b)=dr:=by funext b;exact propext ⟨λh=>h.1,λh=>h.elim⟩
 rw[F]
 suffices h:WK PR 241 i true rd (pE PR 241 i j o rd q r z o (λ_=>false)) dr (KS m k i j (dt p 0) rd S) (G (lO.at (Ai e m k i o t gU gU (i64 o) c d g l n (.func (.func 191) #[] #[dQ i,dQ k]) gU gU gU gU gU gU gU gU gU gU gU gU gU gU gU gU gU gU)
  [.inRegion ug [],.code ((Go.Code.region 12 oh false).seq (oK.seq mq))]) cs)from h w B
 exact WK.ctl a rfl (λ_=>cZ)<|WK.ctl a rfl (λ_=>dk)<|s _ _ _ _ _ _ _ _
end Go.Proofs.W
namespace Go.Proofs.W
open Go.Conc Go.dA Go.dA.Cr Go.dA.Wg Go.RowKit Go.Conc.Lib Go.ConcR.Gen
def nH:cK:=.agg #[.slice none 0 0,.int .i64 0,.int .i64 0,.bool false]
noncomputable def i199:TypeInfo:=(PR.info? 199).getD default
def KU:PR.info? 199=some i199:=eE
def Sw:i199.size=4:=eE
def Aj:i199.bytes=48:=eE
def KV:i199.zero=some nH:=eE
def Gg:PR.underlying 248=some (.slice 199):=eE
def Sy(a:m<=65536)(w:cJ):(Instr.makeSlice 248 (.int .i64 m) (.int .i64 m)).run PR w=.ok (.slice (some ⟨w.heap.size,0,none⟩) m m) (w.alloc (.cells (madeCells nH.cells (m*4)) 199)):=by have:=run_make (P:=PR) w 248 199 i199 nH Gg KU KV .i64 .i64 (m:Int) (m:Int) cM cM (by rw[Aj];omega) cM;simpa[Sw]using this
def Pc(a:m<=65536)(w:cJ):(Instr.makeSlice 248 (.int .i64 m) (.int .i64 m)).events PR w #[]=#[]:=
 events_make (P:=PR) w 248 199 i199 nH Gg KU KV .i64 .i64 (m:Int) (m:Int) cM cM (by rw[Aj];omega) cM (by rw[Aj];omega) #[]
end Go.Proofs.W
namespace Go.Proofs.W
open Go.Conc Go.dA Go.dA.Cr Go.dA.Wg Go.RowKit Go.Conc.Lib Go.ConcR.Gen
open Go.ConcN Go.ConcN.Gen
open Go.ConcR (KK wgBlock WgAt stA smA mk DC0)
structure KA(pc oc Wg Ch A pb:Nat)(rd:Nat->Prop)(Q:cJ->Prop)(R:Array cK->Prop)(w:cJ):Prop where
 s:KS pc oc Wg Ch ⟨pb,0,none⟩ rd Q w
 a:∃cs,w.heap[A]? =some (.cells cs 199)/\R cs
 lr:∀b,rd b->b<A
 lw:Wg<A
theorem KA.rely{b c d f A pb:Nat}{Q:dC}{R:eH->Prop}{own rd:dp}(g:rd b)(i:rd c)(j:own A)(k:th rd Q):pt own rd (Lv 241 d) (KA b c d f A pb rd Q R):=
 λw l e h=>⟨KS.rely g i k w l e h.s,h.a.imp λ_ h=>⟨e.obj (.inl j) h.1,h.2⟩,h.lr,h.lw⟩
def I8{e:tg}{Y:Nat}{Z:iV}{cs:List Frame}(hn:o<=65536)(B:A m)(K:A k)(L:th A S)(hL:0<s) (z:∀w,S w->Pb p h s d a o Y w)(O:A p)(P:A h.block) (x5 C D E F H I J:cK)
 (y:∀n Q R T U V W X,WK PR 241 i true A Z (λx=>dr x\/x=n) (KA m k i j n p A S (·=madeCells nH.cells (o*4)))
  (G (lO.at (Ai e m k i o x5 (.slice (some ⟨n,0,none⟩) o o) undef C D E F H I J Q R T U V W X (.slice (some ⟨n,0,none⟩) o o) undef undef undef undef undef undef undef undef undef undef) [.code (oK.seq mq)]) cs)):
 WK PR 241 i true A Z dr (KS m k i j ⟨p,0,none⟩ A S) (G (lO.at (Ai e m k i o x5 undef undef C D E F H I J undef undef undef undef undef undef undef undef undef undef undef undef undef undef undef undef undef undef) [.code (Go.Code.region 12 oh false),.code (oK.seq mq)]) cs):=by
 have g:pt dr A (Lv 241 i) (KS m k i j (dt p 0) A S):=KS.rely B K L;refine WK.ctl g rfl (λ_=>ig) ?_;simp only[oh,Ai,im,fa,fP,Nat.reduceAdd,dn,List.range,List.range.loop];refine WK.load (v:=dQ p) g rfl rfl (by k_ne) (λw c=>?_) (λw c e l=>?_) ?_;have t:=(λw c=>c.k.p) w c;go_simp;have t:=(λw c=>c.k.p) w c;simp[go_sem,t]at l;exact .inl ⟨_,_,l,.inr (.inl ⟨rfl,B⟩)⟩;walk_nrm;refine WK.val (v:=?_) g rfl rfl (by k_ne) (λw=>?_) (λw=>?_) ?_;rotate_left;go_simp;rfl;go_simp;walk_nrm;refine WK.val (v:=?_) g rfl rfl (by k_ne) (λw=>?_) (λw=>?_) ?_;rotate_left;go_simp;rfl;go_simp;walk_nrm;refine WK.load (v:=.slice (some h) s d) g rfl rfl (by k_ne) (λw c=>?_) (λw c e l=>?_) ?_;have t:=(λw c=>(z w c.k.q).f2) w c;go_simp;have t:=(λw c=>(z w c.k.q).f2) w c;simp[go_sem,t]at l;exact .inl ⟨_,_,l,.inr (.inl ⟨rfl,O⟩)⟩;walk_nrm;refine WK.val (v:=.pointer (some h)) g rfl rfl (by k_ne) (λw=>?_) (λw=>?_) ?_;go_simp;simp[go_sem];exact events_indexAt_slice _ _ _ _ _ _ eE ⟨cM,cM⟩;walk_nrm;refine WK.load (v:=.slice a o Y) g rfl rfl (by k_ne) (λw c=>?_) (λw c e l=>?_) ?_;have t:=(λw c=>(z w c.k.q).l0) w c;go_simp;have t:=(λw c=>(z w c.k.q).l0) w c;simp[go_sem,t]at l;exact .inl ⟨_,_,l,.inr (.inl ⟨rfl,P⟩)⟩;walk_nrm;refine WK.val (v:=?_) g rfl rfl (by k_ne) (λw=>?_) (λw=>?_) ?_;rotate_left;go_simp;rfl;go_simp;walk_nrm;refine WK.new (f:=λN=>eT N o o) (ob:=.cells (madeCells nH.cells (o*4)) 199) g rfl rfl (by k_ne) (λw c=>?_) (λw c e l=>?_) (λn=>?_);have:=Sy hn w;go_simp;have:=Pc hn w;simp[go_sem,this]at l;refine WK.mono (K':=KA m k i j n p A S (·=madeCells nH.cells (o*4))) ?_ ?_;rotate_left;rintro w ⟨M,c,rfl,hr⟩;have⟨st,sm,z⟩:=c.live;have hk:KA m k i j M.lG p A S (·=madeCells nH.cells (o*4)) {M with heap:=M.heap.push (.cells (madeCells nH.cells (o*4)) 199)}:=⟨⟨c.k.same B K L dq λb hb=>by have:=c.k.r b hb;show(M.heap.push _)[b]? =_;rw[vO];split;omega;rfl,uf c.live⟩,⟨_,dq,rfl⟩,c.k.r,lt_of_heap z⟩;exact KA.rely B K (.inr rfl) L _ _ hr hk;have u:pt (λx=>dr x\/x=n) A (Lv 241 i) (KA m k i j n p A S (·=madeCells nH.cells (o*4))):=KA.rely B K (.inr rfl) L;walk_nrm;refine WK.val (v:=?_) u rfl rfl (by k_ne) (λw=>?_) (λw=>?_) ?_;rotate_left;go_simp;rfl;go_simp;walk_nrm;exact WK.ctl u rfl (λ_=>cZ)<|y _ _ _ _ _ _ _ _
end Go.Proofs.W
namespace Go.Proofs.W
open Go.Conc Go.dA Go.dA.Cr Go.dA.Wg Go.RowKit Go.Conc.Lib Go.ConcR.Gen
def ti:cK:=.agg #[.int .i64 0,.slice none 0 0,.int .i64 0,.int .i64 0,.bool false]
def Gi{Ch:Nat}{a:dU->cK}{o:Oper}{x:dU}(b:o.op=.recv 232 x true)(c:a x=.chan (some Ch))(w:cJ):(execOp a o).run PR w=.ok (.comm #[rcase Ch ti] true (.recv true)) w:=by simp only[execOp,b,c];have d:(zeroValue 247).run PR w=.ok ti w:=eE;have e:(underlying 232).run PR w=.ok (.chan .both 247) w:=eE;simp[d,e,rcase]
def yp{Ch:Nat}{c:dU->cK}{o:Oper}{x:dU}(d:o.op=.recv 232 x true)(e:c x=.chan (some Ch))(w:cJ):(execOp c o).events PR w #[]=#[]:=by simp only[execOp,d,e];have f:(zeroValue 247).run PR w=.ok ti w:=eE;have g:(underlying 232).run PR w=.ok (.chan .both 247) w:=eE;have a:(zeroValue 247).events PR w #[]=#[]:=eE;have b:(underlying 232).events PR w #[]=#[]:=eE;simp[f,g,a,b]
end Go.Proofs.W
namespace Go.Proofs.W
open Go.Conc Go.dA Go.dA.Cr Go.dA.Wg Go.RowKit Go.Conc.Lib Go.ConcR.Gen
open Go.ConcN Go.ConcN.Gen
open Go.ConcR (KK wgBlock WgAt stA smA mk DC0)
def Ak(Pv:Nat->(dp)->cJ->cK->Prop):Prop:=∀j o w a v,(∀b,o b->a.heap[b]? =w.heap[b]?)->Pv j o w v->Pv j o a v
def oL(a:dW)(c d:Nat)(m k:Int)(b:Bool):cK:=.agg #[.slice a c d,.int .i64 m,.int .i64 k,.bool b]
def Ee(i:Int)(a:dW)(c d:Nat)(m k:Int)(b:Bool):cK:=.agg #[.int .i64 i,.slice a c d,.int .i64 m,.int .i64 k,.bool b]
def Gj(Pv:Nat->(dp)->cJ->cK->Prop):Nat->cK->(dp)->dC:=λi v own w=>
 ∃a c d m k b e,v=Ee i a c d m k b/\(∀x,e x->own x/\x<w.heap.size)/\Pv i e w (oL a c d m k b)
def Pd(Pv:Nat->(dp)->cJ->cK->Prop)(own:dp)(A:Nat)(w:cJ)(a:eH)(j:Nat):Prop:=
 ∃c d e m k b f,(∀x,f x->own x/\x≠A/\x<w.heap.size)/\a[4*j]? =some (.slice c d e)/\a[4*j+1]? =some (.int .i64 m)/\a[4*j+2]? =some (.int .i64 k)/\a[4*j+3]? =some (.bool b)/\Pv j f w (oL c d e m k b)
structure KR(pc oc Wg Ch A pb n:Nat)(rd:Nat->Prop)(Q:cJ->Prop)(Pv:Nat->(Nat->Prop)->cJ->cK->Prop)(own:Nat->Prop)(S:Nat->Bool)(w:cJ):Prop where
 s:KS pc oc Wg Ch ⟨pb,0,none⟩ rd Q w
 a:∃cs,w.heap[A]? =some (.cells cs 199)/\cs.size=n*4/\∀j,j<n->S j=true->Pd Pv own A w cs j
 oa:own A
 lr:∀b,rd b->b<A
 lw:Wg<A
section
variable{pc oc Wg Ch A pb n:Nat}{Q:cJ->Prop}{Pv:Nat->(Nat->Prop)->cJ->cK->Prop}{S:Nat->Bool}{own own' rd:Nat->Prop}
theorem Pd.same(g:Ak Pv){w w':cJ}{e:eH}{j:Nat}(h:Pd Pv own A w e j)(i:∀b,own b->own' b)(l:w.heap.size<=w'.heap.size)(n:∀b,own b->b≠A->b<w.heap.size->w'.heap[b]? =w.heap[b]?):Pd Pv own' A w' e j:=by have⟨o,p,q,m,k,b,f,a,r,s,t,u,v⟩:=h;exact⟨o,p,q,m,k,b,f,λx c=>⟨i x (a x c).1,(a x c).2.1,ew (a x c).2.2 l⟩,r,s,t,u,g j f w w' _ (λb d=>n b (a b d).1 (a b d).2.1 (a b d).2.2) v⟩
theorem KR.rely(f:rd pc)(g:rd oc)(i:th rd Q)(k:Ak Pv):pt own rd (Lv 241 Wg) (KR pc oc Wg Ch A pb n rd Q Pv own S):=λw l c h=>by have⟨m,o,d,p⟩:=h.a;exact⟨KS.rely f g i w l c h.s,⟨m,c.obj (.inl h.oa) o,d,λj q r=>(p j q r).same k (λ_ h=>h) c.size λb t _ e=>c.heap b e (.inl t)⟩,h.oa,h.lr,h.lw⟩
end
end Go.Proofs.W
namespace Go.Proofs.W
open Go.RowKit
noncomputable abbrev jV:cU:=V.prog
structure SV where
 (sa:Option Addr)(sl sc:Nat)(m k:Int)(b:Bool)
def SV.val(s:SV):cK:=.agg #[.slice s.sa s.sl s.sc,.int .i64 s.m,.int .i64 s.k,.bool s.b]
def iW(x y:SV):Bool:=if !x.b||!y.b then x.b else if x.m≠y.m then decide (x.m<y.m)else decide (x.k<y.k)
def I9(p:cK)(x y:SV)(w:cJ):Calls V.prog 194 #[p,x.val,y.val] w λe a=>e=.returned (.bool (iW x y))/\Below w.heap.size w a:=by
 have⟨b,c,d,f,g,h⟩:=x;have⟨i,j,k,l,m,n⟩:=y;simp only[SV.val,iW];go_enter V.func194,Tryz.ntmps194;go_wp2;all_goals
  go_ret;exact⟨XR,((Below.refl _ _).alloc (di _) _).alloc dq _⟩
def Ef(p:cK)(x y:SV)(w:cJ):Calls V.prog 194 #[p,x.val,y.val] w λe a=>e=.returned (.bool (iW x y))/\Below w.heap.size w a/\w.drawn<=a.drawn:=by
 have⟨b,c,d,f,g,h⟩:=x;have⟨i,j,k,l,m,n⟩:=y;simp only[SV.val,iW];go_enter V.func194,Tryz.ntmps194;go_wp2;all_goals
  go_ret;exact⟨XR,((Below.refl _ _).alloc (di _) _).alloc dq _,di _⟩
def dM:List SV->SV
 |[]=>⟨none,0,0,0,0,false⟩
 |x::b=>b.foldl (λa y=>if iW y a then y else a) x
def wh(l:List SV)(y:SV)(h:l≠[]):dM (l++[y])=if iW y (dM l)=true then y else dM l:=by
 cases l with
 |nil=>grind
 |cons x a=>rw[dM,nM,dM,qG];rfl
def y8(w:cJ)(b o:Nat)(s:SV):Prop:=w.cell? ⟨b,o,none⟩=some (.slice s.sa s.sl s.sc)/\w.cell? ⟨b,o+1,none⟩=some (.int .i64 s.m)/\w.cell? ⟨b,o+2,none⟩=some (.int .i64 s.k)/\w.cell? ⟨b,o+3,none⟩=some (.bool s.b)
def ZF(w:cJ)(A:Nat)(a:List SV):Prop:=∀j (h:j<a.length),y8 w A (j*4) a[j]
def fp(s:SV):Obj:=.cells #[.slice s.sa s.sl s.sc,.int .i64 s.m,.int .i64 s.k,.bool s.b] 199
def eS{s:SV}(h:w.heap[m]? =some (fp s)):w.cell? ⟨m,0,none⟩=some (.slice s.sa s.sl s.sc)/\w.cell? ⟨m,1,none⟩=some (.int .i64 s.m)/\w.cell? ⟨m,2,none⟩=some (.int .i64 s.k)/\w.cell? ⟨m,3,none⟩=some (.bool s.b)/\w.frozen? ⟨m,0,none⟩=false/\w.frozen? ⟨m,1,none⟩=false/\w.frozen? ⟨m,2,none⟩=false/\w.frozen? ⟨m,3,none⟩=false:=by simp[World.cell?,World.frozen?,h,fp]
theorem Pe(a:Below m w t):(∀b o,b<m->t.cell? ⟨b,o,none⟩=w.cell? ⟨b,o,none⟩)/\(∀b o,b<m->t.frozen? ⟨b,o,none⟩=w.frozen? ⟨b,o,none⟩):=
 ⟨λb o h=>a.cell (p:=(dt b o)) h,λb o h=>a.frozen (p:=(dt b o)) h⟩
def y8.below{s:SV}(h:y8 w k o s)(a:Below m w t)(b:k<m):y8 t k o s:=by grind [Pe,y8]
theorem fY(w:cJ)(o:Obj):(w.alloc o).heap[w.heap.size]? =some o:=by show(w.heap.push o)[w.lG]? =_;simp
theorem alloc_old(w:cJ)(o:Obj)(h:m<w.heap.size):(w.alloc o).heap[m]? =w.heap[m]? :=by show(w.heap.push o)[m]? =_;grind
def jR(w:cJ)(b:Nat)(s:SV):cJ:=(((w.setCell ⟨b,0,none⟩ (.slice s.sa s.sl s.sc)).setCell ⟨b,1,none⟩ (.int .i64 s.m)).setCell ⟨b,2,none⟩ (.int .i64 s.k)).setCell ⟨b,3,none⟩ (.bool s.b)
def lV{s a:SV}(h:w.heap[m]? =some (fp a)):(jR w m s).heap[m]? =some (fp s):=by simp[jR,World.setCell,nL,h,fp]
def qP(w:cJ)(b:Nat)(s:SV){c:Nat}(h:c≠b):(jR w b s).heap[c]? =w.heap[c]? :=by grind [dA.Cr.fS,jR]
def rH(w:cJ)(b:Nat)(s:SV):(jR w b s).heap.size=w.heap.size:=by simp[jR,World.setCell]
def lX{s:SV}(h:Below m t w)(a:m<=k):Below m t (jR w k s):=
 (((h.setCell a _).setCell a _).setCell a _).setCell a _
def mN{a:Type}(l:List a)(k:Nat)(h:k<l.length):l.take (k+1)=l.take k++[l[k]]:=by simp
def Mv(p:cK)(A:Nat)(a:List SV)(w:cJ)(T:a.length<=65536)(H:A<w.heap.size)(t:ZF w A a):
 Calls V.prog 193 #[.slice (some ⟨A,0,none⟩) a.length a.length,.func (.func 194) #[p] #[]] w λe q=>e=.returned (dM a).val/\Below w.heap.size w q:=by
 go_enter V.func193,Tryz.ntmps193;go_wp2
 go_loopw [10] (λi wr=>∃k:Nat,k<=a.length/\i=i64 k/\Below w.heap.size w wr/\w.heap.size+2<=wr.heap.size/\wr.heap[w.heap.size+1]? =some (fp (dM (a.take k)))/\
  wr.heap[w.heap.size]? =some (fp (dM []))) (λi _=>a.length-(intOf i).toNat)
 case atStart=>
  refine⟨0,gh _,rfl,((Below.refl _ _).alloc (di _) _).alloc dq _,dq,?_,?_⟩;grind [fY,World.size_alloc,fp,dM];grind [alloc_old,fY,fp,dM,trans]
 case round=>
  obtain⟨k,U,rfl,g,I,f,j⟩:=hrel;by_cases d:k<a.length;have⟨W,X,Y,Z⟩:=(t k d).below g H;have⟨J,K,L,M,N,O,P,Q⟩:=eS f;have r:=Go.Lib.hid f;have l:=Go.Lib.hid j;clear f j t;have l1:w.heap.size+1<wr.heap.size:=cM;have l3:w.heap.size<wr.heap.size:=cM;have R:¬(w.heap.size+1=wr.heap.size):=cM;by_cases u:k=0
  ·subst u;go_wp2;go_roundw;case rel=>
    have m:=lV (s:=a[0]) r.out;have n:=(qP wr (w.heap.size+1) a[0] (c:=w.heap.size) dq).trans l.out;have x:=rH wr (w.heap.size+1) a[0];refine⟨1,cM,rfl,(lX g (mG _)).alloc cL _,rp,?_,?_⟩;refine(alloc_old (jR wr (w.heap.size+1) a[0]) _ cL).trans ?_;rw[m,mN _ _ d];rfl;grind [alloc_old,jR,trans]
   case measure=>grind [intOf]
  ·have C:((k:Int)==0)=false:=cL;go_wp2_with (go_at_call 194;refine(I9 _ a[k] (dM (a.take k)) _).mono ?_;rintro e q ⟨rfl,b⟩;have⟨hc,hf⟩:=Pe b);all_goals
    go_roundw
   case rel=>
    have o:iW a[k] (dM (a.take k))=true:=cL;have y:=(b.block (w.heap.size+1) rp).trans ((alloc_old wr _ cM).trans r.out);have z:=(b.block w.heap.size rp).trans ((alloc_old wr _ cM).trans l.out);have B:=b.size;rw[World.size_alloc]at B;have m:=lV (s:=a[k]) y;have n:=(qP q (w.heap.size+1) a[k] (c:=w.heap.size) dq).trans z;have x:=rH q (w.heap.size+1) a[k];refine⟨k+1,cM,cL,lX ((g.alloc cM _).trans (b.mono rp)) (mG _),(by grind [jR]),?_,n⟩;refine m.trans ?_;rw[mN _ _ d,wh _ _ (λh=>by have:=dH List.length h;grind),cV o]
   case measure=>grind [intOf]
   case rel=>
    have o:iW a[k] (dM (a.take k))=false:=cL;have y:=(b.block (w.heap.size+1) rp).trans ((alloc_old wr _ cM).trans r.out);have z:=(b.block w.heap.size rp).trans ((alloc_old wr _ cM).trans l.out);have B:=b.size;rw[World.size_alloc]at B;refine⟨k+1,cM,cL,(g.alloc cM _).trans (b.mono rp),cM,?_,z⟩;refine y.trans ?_;rw[mN _ _ d,wh _ _ (λh=>by have:=dH List.length h;grind),cS cL]
   case measure=>grind [intOf]
  have⟨J,K,L,M,N,O,P,Q⟩:=eS f;have⟨r1,r2,r3,r4,g1,g2,g3,g4⟩:=eS j;have r:=Go.Lib.hid f;have l:=Go.Lib.hid j;clear f j t;have R:¬(w.heap.size+1=w.heap.size):=dq;go_wp2;have S:a.take k=a:=cL;have m:=lV (s:=dM (a.take k)) l.out;have⟨D,E,F,G,_⟩:=eS m;unfold jR at D E F G;refine bodyPost_ret (v:=(dM (a.take k)).val) (by simp[results,Tryz.results193,go_sem,D,E,F,G,SV.val]) rfl ⟨cL,lX g (di _)⟩
end Go.Proofs.W
namespace Go.dA
open Go.Conc
open Go.ConcN (sumTo upd sumTo_upd upd_ne upd_same)
section
variable{P:cU}{X:Nat->Prop}
structure Gk(P:cU)(X:Nat->Prop)(gs:Array cQ)(a:cQ)(w:cJ)(t:Trace)(q:Nat->Nat):Prop where
 at0:gs[0]? =some a
 run:a.status=.running
 leavers:Leavers P t gs q
 past:Past (pD X) w.heap.size t
 low:∀b,X b->b<w.heap.size
def Ja{f j:dp}{n m:Nat}(l:∀b,f b\/j b->¬X b/\b<m)(o:∀c,X c->c<n){e:Event}(h:EvW f j n m e):EvL (pD X) m e:=by
 obtain⟨a,k,rfl,h⟩|⟨r,k,rfl,h⟩|rfl:=h;have g:¬X a.block/\a.block<m:=by grind
 refine⟨λx d i=>?_,dq,dq,g.2⟩;simp only[MemAct.ofEvent,MemAct.touch?,iN]at d;subst d;exact absurd i g.1;have g:¬X r/\r<m:=by grind
 refine⟨λx d i=>?_,dq,dq,by simpa[MemAct.ofEvent,MemAct.low,Loc.low]using g.2⟩;simp only[MemAct.ofEvent,MemAct.touch?,iN]at d;subst d;exact absurd i g.1;refine⟨λx d i=>?_,dq,dq,trivial⟩;simp[MemAct.ofEvent,MemAct.touch?]at d
def Gk.pick{b:Array cQ}{t:Trace}{q:Nat->Nat}(h:Gk P X b Z w t q)(sl:Option (Nat×Nat)):(∃d a,stepT P (crowd b w sl)=runT P (crowd b (w.at d) a) 0)\/∃d a l r I,stepT P (crowd b w sl)=(.next (crowd l (w.at d) a),r)/\Gk P X l Z (w.at d) (t++r) I/\sumTo l.size I+1=sumTo b.size q:=by
 have f:=h.run;have M:=h.at0;have u:=h.leavers;have A:∀g∈b,awake g:=by intro g B;obtain⟨i,v,rfl⟩:=Array.mem_iff_getElem.1 B;obtain rfl|c:=nt i;grind [Array.getElem?_eq_getElem,awake_of];exact awake_of ((u.old i _ c (nh v)).status.elim .inl cL)
 have⟨i,g,d,a,v,B,C⟩:=crowd_pick (P:=P) (w:=w) (sl:=sl) A cL;obtain rfl|c:=nt i;grind;have z:=u.old i g c v;have D:(i==0)=false:=cL;have E:i<b.size:=cL;cases m:q i with
 |zero=>rw[m]at z;rw[z.1]at B;grind
 |succ k=>
  rw[m]at z;obtain⟨T,_⟩|⟨_,g',N,O,s,Q⟩:=z;grind;have n:=runT_crowd_go (P:=P) (sl:=a) (i:=i) v (by rw[D];exact s (w.at d));have F:((b.map (woken P g g' (w.at d))).setIfInBounds i g').size=b.size:=dq;have J:sumTo b.size (upd q i k)+(k+1)=sumTo b.size q+k:=by have:=sumTo_upd q k id E;simpa[m]using this
  refine .inr ⟨d,a,_,_,upd q i k,C.trans n,⟨?_,f,⟨λj x K L=>?_,λj K=>?_⟩,h.past.mute cM O,h.low⟩,by rw[F];omega⟩;have G:i≠0:=cM;rw[gd G,vN,M];simp[woken_run f];by_cases o:i=j;grind [Array.getElem?_setIfInBounds_self_of_lt,Option.some.inj,upd_same,Deaf_own];rw[gd o,vN]at L;obtain⟨y,R,rfl⟩:=iU.1 L;have H:=u.old j y K R;rw[woken_quitsD H,upd_ne q k (jg o),Deaf_other t o _ (λS p=>by obtain⟨e,_,rfl⟩:=Go.Conc.mem_ofEvents p;rfl)];grind;rw[Deaf_other t (g:=j) (g':=i) cL (MemOp.ofEvents i g.frame.fn g.frame.place N) (λS p=>by obtain⟨e,_,rfl⟩:=Go.Conc.mem_ofEvents p;rfl)];exact u.above j cL
structure Al(own:Nat->Prop)(w:cJ)(own':Nat->Prop)(w':cJ):Prop where
 tape:w'.tape=w.tape
 os:w'.os=w.os
 output:w'.output=w.output
 size:w.heap.size<=w'.heap.size
 heap:∀b,b<w.heap.size->¬own b->w'.heap[b]? =w.heap[b]?
 new:∀b,own' b->own b\/(w.heap.size<=b/\b<w'.heap.size)
 keep:∀b,own b->own' b
theorem Al.refl(a:dp)(w:cJ)(d:Nat):Al a w a (w.at d):=⟨rfl,rfl,rfl,di _,λ_ _ _=>rfl,cL,cL⟩
theorem Al.trans{c d f:dp}(h:Al c w d t)(k:Al d t f e):Al c w f e:=
 ⟨k.tape.trans h.tape,k.os.trans h.os,k.output.trans h.output,du h.size k.size,λb a g=>(k.heap b (ew a h.size) λi=>(h.new b i).elim g cM).trans (h.heap b a g),
  λb a=>(k.new b a).elim (λx=>(h.new b x).imp id λy=>⟨y.1,ew y.2 k.size⟩) λx=>.inr ⟨du h.size x.1,x.2⟩,λb a=>k.keep b (h.keep b a)⟩
theorem Gk.step{r:Array cQ}{a l:cQ}{w k:cJ}{t:Trace}{q:Nat->Nat}{own rd c:dp}{o:Array Event}{d:Nat}(h:Gk P X r a w t q)(H:∀b,own b\/rd b->¬X b/\b<w.heap.size) (e:stepG P true a (w.at d)=.go l k o)(m:Ol own rd (w.at d) k o c)(B:l.status=.running):Gk P X ((r.map (woken P a l k)).setIfInBounds 0 l) l k (t++MemOp.ofEvents 0 a.frame.fn a.frame.place o) q/\∀b,c b\/rd b->¬X b/\b<k.heap.size:=by have n:w.heap.size<=k.heap.size:=m.size;have C:0<r.size:=(iS.1 h.at0).1;refine⟨⟨cL,B,⟨λj x z p=>?_,λj z=>?_⟩,(h.past.mono n).own λe D=>Ja cL h.low (m.evs e D),λb f=>ew (h.low b f) n⟩,λb f=>?_⟩;have s:0≠j:=cM;rw[gd s,vN]at p;obtain⟨y,E,rfl⟩:=iU.1 p;have F:=h.leavers.old j y z E;rw[woken_quitsD F,Deaf_other t cM _ (λG i=>by obtain⟨e,_,rfl⟩:=Go.Conc.mem_ofEvents i;rfl)];grind;rw[Deaf_other t (g:=j) (g':=0) cL (MemOp.ofEvents 0 a.frame.fn a.frame.place o) (λG i=>by obtain⟨e,_,rfl⟩:=Go.Conc.mem_ofEvents i;rfl)];exact h.leavers.above j cL;obtain f|f:=f;obtain f|⟨u,v⟩:=(m.owns b).1 f;grind;have A:w.heap.size<=b:=u;exact⟨λp=>iI (h.low b p),v⟩;grind
def ve{rd:dp}{L:dC}(E:∀w d,L w->L (w.at d)){k:(dp)->cQ->dC}(G:∀o g w,k o g w->g.status=.running):∀{H:WT} {own:dp} {a:cQ} {w:cJ},Way P true rd L k H own a w->∀(r:Array cQ) (sl:Option (Nat×Nat)) (t:Trace) (q:Nat->Nat),Gk P X r a w t q->(∀b,own b\/rd b->¬X b/\b<w.heap.size)->∃(N:Nat) (l:Array cQ) (s:cJ) (c:Option (Nat×Nat)) (I:Trace) (F:Nat->Nat) (j:dp) (J:cQ),runNT P N (crowd r w sl) t=(.next (crowd l s c),I)/\Gk P X l J s I F/\k j J s/\Al own w j s/\∀b,j b\/rd b->¬X b/\b<s.heap.size:=by
 intro H own a w hw;induction hw with
 | @here H own a w h=>
  intro r sl t q u z;exact⟨0,r,w,sl,t,q,own,a,rfl,u,h w (.refl _ _ _ _),Al.refl own w w.drawn,z⟩
 | @step f own a w hs h1 h2 ih=>
  have p:∀{own a w} {H},Way P true rd L k H own a w->a.status=.running:=λh=>by
   cases h with
   |here h=>exact G _ _ _ (h _ (.refl _ _ _ _))
   |step hs _ _=>grind
  have K:∀(M:Nat) (r:Array cQ) (A:Nat) (sl:Option (Nat×Nat)) (t:Trace) (q:Nat->Nat),sumTo r.size q<=M->Gk P X r a (w.at A) t q->(∀b,own b\/rd b->¬X b/\b<w.lG)->∃(N:Nat) (l:Array cQ) (s:cJ) (c:Option (Nat×Nat)) (I:Trace) (F:Nat->Nat) (j:dp) (J:cQ),runNT P N (crowd r (w.at A) sl) t=(.next (crowd l s c),I)/\Gk P X l J s I F/\k j J s/\Al own w j s/\∀b,j b\/rd b->¬X b/\b<s.lG:=by
   intro M;induction M with
   |zero=>
    intro r A sl t q hM u z;obtain⟨d,c,v⟩|⟨d,c,l,O,F,_,_,Q⟩:=u.pick sl;have⟨a1,w1,es,R,e,m⟩:=h1 (w.at d) (eP.at own rd E w d);have S:stepG P true a ((w.at A).at d)=.go a1 w1 es:=e;have⟨B,C⟩:=u.step (own:=own) (rd:=rd) z S m (p (h2 _ _ _ _ _ (eP.at own rd E w d) e m));have⟨N,x,T,y,U,V,n,W,Y,Z,r3,r4,r5⟩:=ih _ _ _ _ _ (eP.at own rd E w d) e m _ c _ q B C;have hr:=v.trans (runT_crowd_go (P:=P) (sl:=c) (i:=0) u.at0 (show stepG P (0==0) a ((w.at A).at d)=_ from S));refine⟨1+N,x,T,y,U,V,n,W,runNT_add (lT hr) Y,Z,r3,Al.trans ⟨m.tape,m.os,m.output,m.size,m.same,λb D=>(m.owns b).1 D,λb D=>(m.owns b).2 (.inl D)⟩ r4,r5⟩;grind
   |succ M aa=>
    intro r A sl t q hM u z;obtain⟨d,c,v⟩|⟨d,c,l,O,F,v,ab,Q⟩:=u.pick sl;have⟨a1,w1,es,R,e,m⟩:=h1 (w.at d) (eP.at own rd E w d);have S:stepG P true a ((w.at A).at d)=.go a1 w1 es:=e;have⟨B,C⟩:=u.step (own:=own) (rd:=rd) z S m (p (h2 _ _ _ _ _ (eP.at own rd E w d) e m));have⟨N,x,T,y,U,V,n,W,Y,Z,r3,r4,r5⟩:=ih _ _ _ _ _ (eP.at own rd E w d) e m _ c _ q B C;have hr:=v.trans (runT_crowd_go (P:=P) (sl:=c) (i:=0) u.at0 (show stepG P (0==0) a ((w.at A).at d)=_ from S));refine⟨1+N,x,T,y,U,V,n,W,runNT_add (lT hr) Y,Z,r3,Al.trans ⟨m.tape,m.os,m.output,m.size,m.same,λb D=>(m.owns b).1 D,λb D=>(m.owns b).2 (.inl D)⟩ r4,r5⟩;have⟨N,x,T,y,U,V,n,W,Y,Z,r3,r4,r5⟩:=aa l d c (t++O) F cM ab z;exact⟨1+N,x,T,y,U,V,n,W,runNT_add (lT v) Y,Z,r3,r4,r5⟩
  intro r sl t q u z;exact K _ r w.drawn sl t q (di _) u z
end
end Go.dA
namespace Go.dA
open Go
def ku(z:cK):Bool:=z.cells.all (fy 2)&&fy 3 z
theorem CG{d c:Type}(I:c->Prop)(f:d->c->Option (ForInStep c))(e:∀a b s,I b->f a b=some s->I s.value):∀(l:List d) (init:c),I init->∀r,forIn l init f=some r->I r
 |[],init,g,r,h=>by grind
 |a::l,init,g,r,h=>by
  rw[List.forIn_cons]at h;cases i:f a init with
  |none=>grind
  |some s=>
   rw[i]at h;have:=e a init s g i;cases s with
   |done b=>simp at h;exact h▸this
   |yield b=>exact CG I f e l b this r h
theorem Eg{info:cR->Option TypeInfo}(h:∀t i z,info t=some i->i.zero=some z->ku z=true)(d:TypeDesc)(i:TypeInfo)(z:cK)(a:Made.reckon info d=some i)(q:i.zero=some z):ku z=true:=by
 have m:∀(d:TypeDesc) (s:String) (u:cK) (b:Bool) (n:Nat),ku u=true->Made.word d s u b n=i->ku z=true:=λd s u b n D e=>by subst e;have:some u=some z:=q;cases this;exact D
 cases d with
 |pointer e=>
  simp only[Made.reckon,rn,jT]at a;have⟨j,_,a⟩:=a;split at a;cases a;split at a;cases a;simp only[jT]at a;have⟨s,_,a⟩:=a;exact m _ _ _ _ _ (by simp[ku,fy,Value.cells]) (dT a);simp only[jT]at a;have⟨s,_,a⟩:=a;exact m _ _ _ _ _ (by simp[ku,fy,Value.cells]) (dT a)
 |slice e=>
  simp only[Made.reckon,rn,jT]at a;have⟨j,_,s,_,a⟩:=a;exact m _ _ _ _ _ (by simp[ku,fy,Value.cells]) (dT a)
 |map k e=>
  simp only[Made.reckon,rn,jT]at a;have⟨j,_,s,_,M,_,N,_,a⟩:=a;exact m _ _ _ _ _ (by simp[ku,fy,Value.cells]) (dT a)
 |chan d e=>
  simp only[Made.reckon,rn,jT]at a;have⟨j,_,s,_,a⟩:=a;cases d<;>exact m _ _ _ _ _ (by simp[ku,fy,Value.cells]) (dT a)
 |func O P v=>
  simp only[Made.reckon,rn,jT]at a;have⟨s,_,a⟩:=a;exact m _ _ _ _ _ (by simp[ku,fy,Value.cells]) (dT a)
 |array n e=>
  simp only[Made.reckon,rn,jT]at a;have⟨j,E,s,_,a⟩:=a;have a:=dT a;subst a;simp only at q;split at q;cases q;split at q;cases q;simp[ku,fy,Value.cells];obtain⟨y,A,rfl⟩:=iU.1 q;have:=h e j y E A;simp only[ku,eW,yV]at this;have p:((Array.replicate n y.cells).flatten).all (fy 2)=true:=by simp only[yV,Array.mem_flatten];rintro x ⟨o,g,w⟩;rw[Array.eq_of_mem_replicate g]at w;exact this.1 x w
  have F:fy 3 (.agg (Array.replicate n y.cells).flatten)=(Array.replicate n y.cells).flatten.all (fy 2):=rfl;show((Array.replicate n y.cells).flatten.all (fy 2)&&fy 3 (.agg (Array.replicate n y.cells).flatten))=true;rw[F,p];rfl
 |struct G=>
  simp only[Made.reckon,Made.reckonStruct]at a;have⟨H,r,a⟩:=jT.1 a;rw[<-Ov]at r;have I:=CG (λb:Array Field×Nat×Nat×Nat×Nat×Bool×Bool×Option eH×String=>∀o,b.2.2.2.2.2.2.2.1=some o->o.all (fy 2)=true) _ ?_ G.toList _ ?_ H r
  ·split at a;all_goals
    simp only[rn,Option.pure_def,iN,zO]at a;subst a;simp only at q;obtain⟨o,g,rfl⟩:=iU.1 q;have p:=I o g;show(o.all (fy 2)&&o.all (fy 2))=true;rw[p];rfl
  rintro f b s J l;simp only[rn,jT]at l;have⟨i,a,l⟩:=l;have B:∀(c:Nat) o,(if c>Made.mostCells then none else do pure ((<-b.2.2.2.2.2.2.2.1)++(<-i.zero).cells))=some o->o.all (fy 2)=true:=by intro c o g;split at g;cases g;simp only[rn,jT]at g;have⟨x,w,y,A,g⟩:=g;have g:=dT g;subst g;have K:=J x w;have C:=h f.type i y a A;simp only[ku,eW]at C;rw[Array.all_append,K,C.1];rfl
  split at l;simp only[jT]at l;have⟨_,l,_⟩:=l;cases l;split at l;simp only[jT]at l;have⟨_,l,_⟩:=l;cases l
  ·split at l;all_goals
    simp only[jT]at l;have⟨L,_,l⟩:=l;split at l;all_goals
     have l:=dT l;subst l;exact B _
  intro o g;cases g;simp
 |_=>cases a
def Jb{T:Tables}(h:∀(t:Nat) (i:TypeInfo) (z:cK),T.types[t]? =some i->i.zero=some z->ku z=true):∀(t:cR) (i:TypeInfo) (z:cK),T.info? t=some i->i.zero=some z->fy 3 z=true:=by
 have b:∀(f:Nat) (t:cR) (i:TypeInfo) (z:cK),Made.infoAt T f t=some i->i.zero=some z->ku z=true:=by
  intro f;induction f with
  |zero=>intro t i z a _;cases a
  |succ f c=>
   grind [Option.bind_eq_some_iff,Eg,Made.infoAt]
 intro t i z a d;have:ku z=true:=by grind [Tables.info?]
 simp only[ku,eW]at this;grind
end Go.dA
namespace Go.Proofs.W
open Go Go.dA
noncomputable def okF(L:cN)(a:Bool)(d:Nat->Bool)(f:Nat):Bool:=match V.prog.funcs[f]? with
 |some b=>match b.body with
  |some c=>iE V.prog (λg=>L.contains g) a (d f) c&&!(b.name== "runtime.NumGoroutine")
  |none=>false
 |none=>false
def wi{b:Nat->Bool}(h:l.all (okF l D b)=true)(f:Nat)(d:l.contains f=true):
 ∃a c,V.prog.funcs[f]? =some a/\a.body=some c/\iE V.prog (λg=>l.contains g) D (b f) c=true/\(a.name== "runtime.NumGoroutine")=false:=by
 have:=nj.1 h f (fB d);unfold okF at this;split at this;rename_i a e;split at this;rename_i c i;simp only[eW,sH]at this;exact⟨a,c,e,i,this.1,this.2⟩;cases this;cases this
def V.Pf(P:cU)(f:Nat)(x:Func)(n:Nat)(h:f≠n):(V.sub P (P.funcs.setIfInBounds n x)).funcs[f]? =P.funcs[f]? :=by show(P.funcs.setIfInBounds n x)[f]? =P.funcs[f]?;rw[gd (jg h)]
def V.zu(f:Nat)(h:f≠163):V.prog.funcs[f]? =PR.funcs[f]? :=V.Pf Tryz.prog f V.f163 163 h
noncomputable def Za(t:Nat):Bool:=match Tryz.prog.types[t]? with
 |some i=>match i.zero with
  |some a=>ku a
  |none=>true
 |none=>true
def WO:(List.range 291).all Za=true:=eE
theorem V.zero(t:cR)(i:TypeInfo)(z:cK)(a:V.prog.info? t=some i)(c:i.zero=some z):fy 3 z=true:=by rw[V.Kz]at a;refine Jb (T:=Tryz.prog.toTables) (λt i z a c=>?_) t i z a c;have b:t<Tryz.prog.types.size:=(iS.1 a).1;rw[Tryz.types_size]at b;have:=nj.1 WO t (gf.2 b);unfold Za at this;rw[a]at this;simp only[c]at this;exact this
def V.Gl:V.prog.globals.size=0:=by rw[show V.prog.globals=Tryz.prog.globals from dH Tables.globals V.Cu,Tryz.globals_size]
def CH(P:cU):5<=P.depth:=by have h:P.depth=2*(P.types.size+100)+2:=rfl;omega
def _root_.Go.dA.Kx.obj{m:Option Nat}(h:Kx R m O Q)(a:m=none):kO R O Q:=by obtain⟨_,h⟩|⟨n,e,_⟩:=h;exact h;rw[a]at e;cases e
def V.bad:V.prog.info? uZ=none:=eE
def V.fit{a:Nat->Bool}(h:l.all (okF l D a)=true):Fit V.prog (λg=>l.contains g) D:=
 ⟨V.zero,λf b=>by have⟨d,c,e,i,_,j⟩:=wi h f b;exact⟨d,c,e,j,i⟩,V.Gl,CH _,V.bad⟩
noncomputable def qQ(L:cN)(df:Nat->Bool)(B:dp):dO where
 S:=λg=>L.contains g
 dim:=true
 ok:=λf=>iE V.prog (λg=>L.contains g) true (df f)
 df:=df
 fs:=PR.funcs
 hole:=λ_=>false
 r:=λb c=>b=c/\B b
 nG:=λ_ _ _ h a=>h.1.symm.trans a.1
 pY:=λ_ _ _ h a=>.inl (h.1.trans a.1.symm)
def CI{k:Nat->Bool}(h:l.all (okF l true k)=true)(d:¬l.contains 163=true):Go.dA.Good V.prog (qQ l k B):=by refine⟨V.fit h,rfl,λf a _=>?_,⟨λf a=>?_⟩,λ_ _=>rfl⟩;have⟨g,c,b,i,m,_⟩:=wi h f a;exact⟨g,c,b,i,m⟩;have⟨g,c,b,i,_,n⟩:=wi h f a;have j:f≠163:=λe=>d (by subst e;exact a);exact⟨g,c,(V.zu f j).symm.trans b,n,i,λ_=>b⟩
def Sz(P Q:cU)(h:Q.toTables=P.toTables):Q.jj P.funcs=P:=by cases P;cases Q;simp only at h;subst h;rfl
def SA:V.prog.jj PR.funcs=PR:=Sz Tryz.prog V.prog V.Cu
end Go.Proofs.W
namespace Go.Proofs.W
open Go.Conc Go.dA Go.dA.Cr Go.dA.Wg Go.RowKit Go.Conc.Lib Go.ConcR.Gen
open Go.ConcR (KK wgBlock WgAt stA smA mk DC0)
structure KO(bl:List (Nat×Obj))(Q:cJ->Prop)(m0:Nat)(w:cJ):Prop where
 at_:∀x∈bl,w.heap[x.1]? =some x.2
 inc:(bl.map (·.1)).Pairwise (·>·)
 lo:∀x∈bl,m0<=x.1
 sz:m0<=w.heap.size
 q:Q w
section
variable{P:cU}{ty:cR}{Wg:Nat}{main:Bool}{own rd:Nat->Prop}{S:iV}{Q:cJ->Prop}{m0:Nat}{bl:List (Nat×Obj)}{g:cQ} {b:Frame}{a:Act}{k:List Item}{cs:List Frame}{ops:Array Oper}{i:Nat}{rest:List Nat}{o:Oper}{v:cK}
theorem KO.rely{L:dC}(a:∀x∈bl,own x.1)(d:yZ rd Q):pt own rd L (KO bl Q m0):=λ_ _ b h=>
 ⟨λx c=>b.obj (.inl (a x c)) (h.at_ x c),h.inc,h.lo,du h.sz b.size,d.rely b h.q⟩
theorem WK.Jc{ob:Obj}{f:Nat->cK}(g:∀x∈bl,own x.1)(r:yZ rd Q)(v:ops[i]? =some o)(z:Region.wanted o (yielded ops a.tmps)=true)(A:b.kind≠ .early) (B:∀w,KO bl Q m0 w->(execOp a.eval o).run P w=.ok (.value (f w.heap.size)) {w with heap:=w.heap.push ob})
 (C:∀w,KO bl Q m0 w->∀e∈(execOp a.eval o).events P w #[],EvW own rd w.heap.size (w.heap.size+1) e) (D:∀c,(∀x∈bl,x.1<c)->m0<=c->WK P ty Wg main rd S (λx=>own x\/x=c) (KO ((c,ob)::bl) Q m0) (G (b.at (a.put o.dst (f c)) (.inRegion ops rest::k)) cs)):
 WK P ty Wg main rd S own (KO bl Q m0) (G (b.at a (.inRegion ops (i::rest)::k)) cs):=by
 refine WK.new (f:=f) (ob:=ob) (KO.rely g r) v z A B C λc=>?_;rintro w ⟨l,m,rfl,n⟩;have p:∀x∈bl,x.1<l.lG:=λx d=>lt_of_heap (m.at_ x d)
 have j:eP (λx=>own x\/x=l.lG) rd (Lv ty Wg) l {l with heap:=l.heap.push ob}:=⟨rfl,rfl,rfl,dq,λb F _=>by
  show(l.heap.push ob)[b]? =_;rw[vO];split;omega;rfl,λh=>by
  have⟨s,t,h⟩:=h;refine⟨s,t,?_⟩;have u:l.heap[Wg]? =some (wgBlock ty s t):=h;show(l.heap.push ob)[Wg]? =_;rw[vO];split;have:=lt_of_heap u;omega;exact u⟩
 refine D l.lG p m.sz w (KO.rely (λx d=>?_) r _ _ n ⟨λx d=>?_,?_,λx d=>?_,?_,r.rely j m.q⟩);obtain rfl|d:=fi.1 d;exact .inr rfl;exact .inl (g x d);obtain rfl|d:=fi.1 d;simp;exact j.obj (.inl (.inl (g x d))) (m.at_ x d);simp only[kI,List.pairwise_cons];exact⟨λy E=>by obtain⟨x,d,rfl⟩:=kJ.1 E;exact p x d,m.inc⟩;obtain rfl|d:=fi.1 d;exact m.sz;exact m.lo x d;have:=m.sz;simp;omega
theorem WK.Pg{pre:List (Nat×Obj)}{c:Nat}{ob ob':Obj}(g:∀x∈pre++(c,ob)::bl,own x.1)(r:yZ rd Q)(s:∀b,own b->¬rd b)(u:ops[i]? =some o)(v:Region.wanted o (yielded ops a.tmps)=true)(y:b.kind≠ .early) (z:∀w,KO (pre++(c,ob)::bl) Q m0 w->∃j,(execOp a.eval o).run P w=.ok .skip j/\j.tape=w.tape/\j.os=w.os/\j.output=w.output/\j.heap.size=w.heap.size/\(∀d,d≠c->j.heap[d]? =w.heap[d]?)/\j.heap[c]? =some ob') (A:∀w,KO (pre++(c,ob)::bl) Q m0 w->∀e∈(execOp a.eval o).events P w #[],EvW own rd w.heap.size w.heap.size e) (B:WK P ty Wg main rd S own (KO (pre++(c,ob')::bl) Q m0) (G (b.at (a.put o.dst undef) (.inRegion ops rest::k)) cs)):WK P ty Wg main rd S own (KO (pre++(c,ob)::bl) Q m0) (G (b.at a (.inRegion ops (i::rest)::k)) cs):=by
 refine WK.write (bl:=c) (W:=λ_ j=>j.heap[c]? =some ob') (KO.rely g r) u v y (g (c,ob) dq) (λw m=>?_) A ?_;have⟨j,C,D,E,F,H,I,J⟩:=z w m;exact⟨j,C,D,E,F,H,I,J⟩;refine WK.mono B ?_;rintro w ⟨K,L,m,M,t,l,p⟩;have n:∀x∈pre++(c,ob')::bl,own x.1:=λx f=>by obtain f|f:=jQ.1 f;exact g x (jQ.2 (.inl f));obtain rfl|f:=fi.1 f;exact g (c,ob) dq;exact g x (by simp[f])
 have h:=m.inc;simp only[qH,kI,List.pairwise_append,List.pairwise_cons]at h;refine KO.rely n r _ _ p ⟨λx f=>?_,?_,λx f=>?_,?_,?_⟩;obtain f|f:=jQ.1 f;have:x.1>c:=h.2.2 x.1 (kJ.2 ⟨x,f,rfl⟩) c dq;rw[l _ cM];exact m.at_ x (jQ.2 (.inl f));obtain rfl|f:=fi.1 f;exact M;have:c>x.1:=h.2.1.1 x.1 (kJ.2 ⟨x,f,rfl⟩);rw[l _ cM];exact m.at_ x (by simp[f]);simp only[qH,kI,List.pairwise_append,List.pairwise_cons];exact h;obtain f|f:=jQ.1 f;exact m.lo x (jQ.2 (.inl f));obtain rfl|f:=fi.1 f;exact m.lo (c,ob) dq;exact m.lo x (by simp[f]);rw[t];exact m.sz;refine r K L (by rw[t];exact di _) (λb _ N=>l b λe=>?_) m.q;subst e;exact s b (g (b,ob) dq) N
end
end Go.Proofs.W
namespace Go.Proofs.W
open Go.Conc Go.dA Go.dA.Cr Go.dA.Wg Go.RowKit Go.Conc.Lib Go.ConcR.Gen
open Go.ConcN Go.ConcN.Gen
open Go.ConcR (KK wgBlock WgAt stA smA mk DC0)
noncomputable def Gm:Code:=(Go.Code.cond (Go.Operand.tmp 40) Go.Code.skip (Go.Code.exit 2)).seq (Go.Code.block 3 ((Go.Code.region 15 xl false).seq (Go.Code.region 16 xm false)))
structure Mw where
 (x5 ZG x24 x25 x26 x27 x28 ZH ZI ZJ ZK ZL ZM ZN ZO ZP:cK)
noncomputable def CJ(e:tg)(m:Mw)(k l o p n A:Nat)(q a b c d f g h i j:cK):Act:=
 Ai e k l o n m.x5 (.slice (some ⟨A,0,none⟩) n n) q m.ZG m.x24 m.x25 m.x26 m.x27 m.x28 m.ZH m.ZI m.ZJ m.ZK m.ZL m.ZM m.ZN m.ZO m.ZP (.chan (some p)) a b c d f g h i j
structure KB(Wg lc:Nat)(rd own:Nat->Prop)(K0:cJ->Prop)(lv:Array cK)(w:cJ):Prop where
 was:∃w0,K0 w0/\lc=w0.heap.size/\w0.heap.size<=w.heap.size/\∀x,x<w0.heap.size->own x\/rd x->w.heap[x]? =w0.heap[x]?
 live:Lv 241 Wg w
 l:w.heap[lc]? =some (.cells lv 247)
def KB.rely{rd own:dp}:pt (λx=>own x\/x=k) rd (Lv 241 m) (KB m k rd own S W):=λw f a h=>by have⟨b,c,d,e,g⟩:=h.was;exact⟨⟨b,c,d,du e a.size,λx i j=>(a.heap x cM cL).trans cL⟩,a.live h.live,a.obj cL h.l⟩
def Mx{e:tg}{m:Mw}{M N Wg Ch n pb A i:Nat}{Q:dC}{D own:dp}{J:Nat->(dp)->cJ->cK->Prop}{S:iV}{Sb:Nat->Bool}{cs:List Frame}(hn:n<=65536)(hi:i<n)(ai:own A)(h1:D M)(h3:D N)(hQ:th D Q)(hP:Ak J) {sa:dW}{sl sc:Nat}{mm k:Int}{b:Bool} (x7 Y Z aa ab ac ad ae af:cK) (ag:∀own' x7 am Y Z aa ab ac ad ae af,WK PR 241 Wg true D S own' (KR M N Wg Ch A pb n D Q J own' (upd Sb i true)) (G (lO.at (CJ e m M N Wg Ch n A x7 am Y Z aa ab ac ad ae af) [.code pH,.inLoop pH,.inBlock 2,.code mq]) cs)):
 WK PR 241 Wg true D S own (λw=>KR M N Wg Ch A pb n D Q J own Sb w/\∃H,(∀x,H x->own x/\x≠A/\x<w.heap.size)/\J i H w (oL sa sl sc mm k b))
  (G (lO.at (CJ e m M N Wg Ch n A x7 (.tuple #[Ee i sa sl sc mm k b,.bool true]) Y Z aa ab ac ad ae af) [.inRegion mM [1],.code Gm,.inLoop pH,.inBlock 2,.code mq]) cs):=by
 have C:pt own D (Lv 241 Wg) (λw=>KR M N Wg Ch A pb n D Q J own Sb w/\∃H,(∀x,H x->own x/\x≠A/\x<w.heap.size)/\J i H w (oL sa sl sc mm k b)):=λw w1 I h=>⟨KR.rely h1 h3 hQ hP w w1 I h.1,h.2.imp λH h=>⟨λx z=>⟨(h.1 x z).1,(h.1 x z).2.1,ew (h.1 x z).2.2 I.size⟩,hP _ _ _ _ _ (λx z=>I.heap x (h.1 x z).2.2 (.inl (h.1 x z).1)) h.2⟩⟩;have K:∀d lv,pt (λx=>own x\/x=d) D (Lv 241 Wg) (KB Wg d D own (λw=>KR M N Wg Ch A pb n D Q J own Sb w/\∃H,(∀x,H x->own x/\x≠A/\x<w.heap.size)/\J i H w (oL sa sl sc mm k b)) lv):=λ_ _=>KB.rely;simp only[mM,CJ,Ai];refine WK.val (v:=?_) C rfl rfl (by k_ne) (λw=>?_) (λw=>?_) ?_;rotate_left;go_simp;rfl;go_simp;walk_nrm;refine WK.ctl C rfl (λ_=>cZ)<|WK.ctl C rfl (λ_=>dk)<|WK.ctl C rfl (λ_=>stepG_cond (t:=true) rfl) ?_;simp only[em];refine WK.ctl C rfl (λ_=>fC)<|WK.ctl C rfl (λ_=>sM)<|WK.ctl C rfl (λ_=>dk)<|WK.ctl C rfl (λ_=>ig) ?_;simp only[xl,im,fa,fP,Nat.reduceAdd,dn,List.range,List.range.loop];refine WK.val (v:=?_) C rfl rfl (by k_ne) (λw=>?_) (λw=>?_) ?_;rotate_left;go_simp;rfl;go_simp;walk_nrm;refine WK.new (f:=λn=>dQ n) (ob:=.cells #[i64 0,fo,i64 0,i64 0,.bool false] 247) C rfl rfl (by k_ne) (λw q=>?_) (λw q e o=>?_) (λd=>?_)
 ·go_simp;first|done|rfl
 simp[go_sem]at o;refine WK.mono (K':=KB Wg d D own (λw=>KR M N Wg Ch A pb n D Q J own Sb w/\∃H,(∀x,H x->own x/\x≠A/\x<w.heap.size)/\J i H w (oL sa sl sc mm k b)) #[i64 0,fo,i64 0,i64 0,.bool false]) ?_ ?_;rotate_left;rintro w ⟨P,q,rfl,I⟩;refine K _ _ _ _ I ⟨⟨P,q,rfl,dq,λx z _=>?_⟩,uf q.1.s.live,dq⟩;show(P.heap.push _)[x]? =_;rw[vO];split;omega;rfl;walk_nrm;refine WK.write (bl:=d) (W:=λ_ w'=>w'.heap[d]? =some (.cells #[i64 i,.slice sa sl sc,i64 mm,i64 k,.bool b] 247)) (K _ _) rfl rfl (by k_ne) (.inr rfl) (λw q=>?_) (λw q e o=>?_) ?_;have g:=q.l;have c0:w.cell? (dt d 0)=some (i64 0):=by simp[World.cell?,g]
 have f0:w.frozen? (dt d 0)=false:=by simp[World.frozen?,g]
 have R:w.cell? (dt d 1)=some fo:=by simp[World.cell?,g]
 have f1:w.frozen? (dt d 1)=false:=by simp[World.frozen?,g]
 have T:w.cell? (dt d 2)=some (i64 0):=by simp[World.cell?,g]
 have f2:w.frozen? (dt d 2)=false:=by simp[World.frozen?,g]
 have U:w.cell? (dt d 3)=some (i64 0):=by simp[World.cell?,g]
 have f3:w.frozen? (dt d 3)=false:=by simp[World.frozen?,g]
 have c4:w.cell? (dt d 4)=some (.bool false):=by simp[World.cell?,g]
 have f4:w.frozen? (dt d 4)=false:=by simp[World.frozen?,g]
 simp only[Ee];go_simp;refine⟨by simp[World.setCell],by simp[World.setCell],λc ah=>?_,?_⟩;simp[World.setCell,nL,jg ah];simp[World.setCell,nL,g];have g:=q.l;have c0:w.cell? (dt d 0)=some (i64 0):=by simp[World.cell?,g]
 have f0:w.frozen? (dt d 0)=false:=by simp[World.frozen?,g]
 have R:w.cell? (dt d 1)=some fo:=by simp[World.cell?,g]
 have f1:w.frozen? (dt d 1)=false:=by simp[World.frozen?,g]
 have T:w.cell? (dt d 2)=some (i64 0):=by simp[World.cell?,g]
 have f2:w.frozen? (dt d 2)=false:=by simp[World.frozen?,g]
 have U:w.cell? (dt d 3)=some (i64 0):=by simp[World.cell?,g]
 have f3:w.frozen? (dt d 3)=false:=by simp[World.frozen?,g]
 have c4:w.cell? (dt d 4)=some (.bool false):=by simp[World.cell?,g]
 have f4:w.frozen? (dt d 4)=false:=by simp[World.frozen?,g]
 simp only[Ee]at o;have B:∀(w:cJ) (B:Array Event) (a:Addr) (m:Mode) (x:dW) (l c:Nat),(store a (.slice x l c) m).events PR w B=storedEv PR w B a (.slice x l c) m:=λw B a m x l c=>events_store PR w B a _ m rfl;have eb:∀(w:cJ) (B:Array Event) (a:Addr) (m:Mode) (x:Bool),(store a (.bool x) m).events PR w B=storedEv PR w B a (.bool x) m:=λw B a m x=>events_store PR w B a _ m rfl;simp[go_sem,B,eb,c0,R,T,U,c4,f0,f1,f2,f3,f4]at o;obtain o|o|o|o|o:=o<;>exact .inl ⟨_,_,o,.inl (.inr rfl)⟩;refine WK.mono (K':=KB Wg d D own (λw=>KR M N Wg Ch A pb n D Q J own Sb w/\∃H,(∀x,H x->own x/\x≠A/\x<w.heap.size)/\J i H w (oL sa sl sc mm k b)) #[i64 i,.slice sa sl sc,i64 mm,i64 k,.bool b]) ?_ ?_;rotate_left;rintro w ⟨P,w1,q,hW,hs,ho,I⟩;have⟨an,k1,k2,k3,k4⟩:=q.was;have⟨st,sm,hl⟩:=q.live;refine K _ _ _ _ I ⟨⟨an,k1,k2,cM,λx z ao=>(ho x cM).trans (k4 x z ao)⟩,⟨st,sm,(ho Wg ?_).trans hl⟩,hW⟩;have:=k1.1.lw;have⟨aB,aC,ap⟩:=k1.1.s.live;have:=lt_of_heap ap;omega;walk_nrm;have u:=K d #[i64 i,.slice sa sl sc,i64 mm,i64 k,.bool b];refine WK.ctl u rfl (λ_=>cZ)<|WK.ctl u rfl (λ_=>ig) ?_;simp only[xm,im,fa,fP,Nat.reduceAdd,dn,List.range,List.range.loop];refine WK.val (v:=?_) u rfl rfl (by k_ne) (λw=>?_) (λw=>?_) ?_;rotate_left;go_simp;rfl;go_simp;walk_nrm;refine WK.val (v:=?_) u rfl rfl (by k_ne) (λw=>?_) (λw=>?_) ?_;rotate_left;go_simp;rfl;go_simp;walk_nrm;refine WK.load (v:=i64 i) u rfl rfl (by k_ne) (λw q=>?_) (λw q e o=>?_) ?_;have g:=(λw q=>(show w.cell? (dt d 0)=some (i64 i) by simp[World.cell?,q.l])) w q;go_simp;have g:=(λw q=>(show w.cell? (dt d 0)=some (i64 i) by simp[World.cell?,q.l])) w q;simp[go_sem,g]at o;exact .inl ⟨_,_,o,.inl (.inr rfl)⟩;walk_nrm;refine WK.val (v:=?_) u rfl rfl (by k_ne) (λw=>?_) (λw=>?_) ?_;rotate_left;go_simp;rfl;go_simp;walk_nrm;refine WK.load (v:=oL sa sl sc mm k b) u rfl rfl (by k_ne) (λw q=>?_) (λw q e o=>?_) ?_
 ·have g:=q.l;have R:w.cell? (dt d 1)=some (.slice sa sl sc):=by simp[World.cell?,g]
  have T:w.cell? (dt d 2)=some (i64 mm):=by simp[World.cell?,g]
  have U:w.cell? (dt d 3)=some (i64 k):=by simp[World.cell?,g]
  have c4:w.cell? (dt d 4)=some (.bool b):=by simp[World.cell?,g]
  go_simp;first|done|rfl
 have g:=q.l;have R:w.cell? (dt d 1)=some (.slice sa sl sc):=by simp[World.cell?,g]
 have T:w.cell? (dt d 2)=some (i64 mm):=by simp[World.cell?,g]
 have U:w.cell? (dt d 3)=some (i64 k):=by simp[World.cell?,g]
 have c4:w.cell? (dt d 4)=some (.bool b):=by simp[World.cell?,g]
 simp[go_sem,R,T,U,c4]at o;obtain o|o|o|o:=o<;>exact .inl ⟨_,_,o,.inl (.inr rfl)⟩;walk_nrm;refine WK.val (v:=oz A (4*i)) u rfl rfl (by k_ne) (λw=>?_) (λw=>?_) ?_;go_simp<;>omega;simp[go_sem];exact events_indexAt_slice _ _ _ _ _ _ eE ⟨cM,cM⟩;walk_nrm;refine WK.write (bl:=A) (W:=λw w'=>∀cs:eH,w.heap[A]? =some (.cells cs 199)->w'.heap[A]? =some (.cells ((((cs.setIfInBounds (4*i) (.slice sa sl sc)).setIfInBounds (4*i+1) (i64 mm)).setIfInBounds (4*i+2) (i64 k)).setIfInBounds (4*i+3) (.bool b)) 199)) u rfl rfl (by k_ne) (.inl ai) (λw q=>?_) (λw q e o=>?_) ?_;have⟨P,⟨I,_⟩,_,_,p⟩:=q.was;have⟨y,V,aj,_⟩:=I.a;have F:w.heap[A]? =some (.cells y 199):=(p A (lt_of_heap V) (.inl I.oa)).trans V;have c0:w.cell? (dt A (4*i))=some (y[4*i]'cM):=by simp[World.cell?,F]
 have R:w.cell? (dt A (4*i+1))=some (y[4*i+1]'cM):=by simp[World.cell?,F]
 have T:w.cell? (dt A (4*i+2))=some (y[4*i+2]'cM):=by simp[World.cell?,F]
 have U:w.cell? (dt A (4*i+3))=some (y[4*i+3]'cM):=by simp[World.cell?,F]
 have f0:w.frozen? (dt A (4*i))=false:=by simp[World.frozen?,F]
 have f1:w.frozen? (dt A (4*i+1))=false:=by simp[World.frozen?,F]
 have f2:w.frozen? (dt A (4*i+2))=false:=by simp[World.frozen?,F]
 have f3:w.frozen? (dt A (4*i+3))=false:=by simp[World.frozen?,F]
 simp only[oL];go_simp;refine⟨by simp[World.setCell],by simp[World.setCell],λc ah=>?_,?_⟩;simp[World.setCell,nL,jg ah];simp[World.setCell,nL,F];have⟨P,⟨I,_⟩,_,_,p⟩:=q.was;have⟨y,V,aj,_⟩:=I.a;have F:w.heap[A]? =some (.cells y 199):=(p A (lt_of_heap V) (.inl I.oa)).trans V;have c0:w.cell? (dt A (4*i))=some (y[4*i]'cM):=by simp[World.cell?,F]
 have R:w.cell? (dt A (4*i+1))=some (y[4*i+1]'cM):=by simp[World.cell?,F]
 have T:w.cell? (dt A (4*i+2))=some (y[4*i+2]'cM):=by simp[World.cell?,F]
 have U:w.cell? (dt A (4*i+3))=some (y[4*i+3]'cM):=by simp[World.cell?,F]
 have f0:w.frozen? (dt A (4*i))=false:=by simp[World.frozen?,F]
 have f1:w.frozen? (dt A (4*i+1))=false:=by simp[World.frozen?,F]
 have f2:w.frozen? (dt A (4*i+2))=false:=by simp[World.frozen?,F]
 have f3:w.frozen? (dt A (4*i+3))=false:=by simp[World.frozen?,F]
 have B:∀(w:cJ) (B:Array Event) (a:Addr) (m:Mode) (x:dW) (l c:Nat),(store a (.slice x l c) m).events PR w B=storedEv PR w B a (.slice x l c) m:=λw B a m x l c=>events_store PR w B a _ m rfl;have eb:∀(w:cJ) (B:Array Event) (a:Addr) (m:Mode) (x:Bool),(store a (.bool x) m).events PR w B=storedEv PR w B a (.bool x) m:=λw B a m x=>events_store PR w B a _ m rfl;simp only[oL]at o;simp[go_sem,B,eb,c0,R,T,U,f0,f1,f2,f3]at o;obtain o|o|o|o:=o<;>exact .inl ⟨_,_,o,.inl (.inl ai)⟩;refine WK.mono (K':=KR M N Wg Ch A pb n D Q J (λx=>own x\/x=d) (upd Sb i true)) ?_ ?_;rotate_left;rintro w ⟨w1,w2,q,hW,hs,ho,I⟩;refine KR.rely h1 h3 hQ hP _ _ I ?_;have⟨P,⟨E,H,L,aq⟩,aD,aj,p⟩:=q.was;have⟨y,V,ak,al⟩:=E.a;have ar:w1.heap[A]? =some (.cells y 199):=(p A (lt_of_heap V) (.inl E.oa)).trans V;have X:∀x,own x->x≠A->x<P.heap.size->w2.heap[x]? =P.heap[x]? :=λx z au av=>(ho x au).trans (p x av (.inl z));have⟨st,sm,hl⟩:=q.live;refine⟨⟨E.s.k.same h1 h3 hQ cM λx z=>(ho x (iI (E.lr x z))).trans (p x (E.s.k.r x z) (.inr z)),⟨st,sm,(ho Wg (iI E.lw)).trans hl⟩⟩,⟨_,hW y ar,by simp[ak],λj hj hS=>?_⟩,.inl E.oa,E.lr,E.lw⟩;by_cases e:j=i;subst e
 refine⟨sa,sl,sc,mm,k,b,H,λx z=>⟨.inl (L x z).1,(L x z).2.1,iI ((L x z).2.2)⟩,?_,?_,?_,?_,hP _ _ _ _ _ (λx z=>X x (L x z).1 (L x z).2.1 (L x z).2.2) aq⟩<;>
  simp[Array.getElem?_setIfInBounds,ak]<;>omega
 have aw:Sb j=true:=by rwa[upd_ne _ _ e]at hS
 have⟨ax,ay,az,m',k',b',aA,g1,g2,g3,g4,g5,g6⟩:=Pd.same (own':=λx=>own x\/x=d) hP (al j hj aw) (λ_ h=>.inl h) (by omega:P.heap.size<=w2.heap.size) X;refine⟨ax,ay,az,m',k',b',aA,g1,?_,?_,?_,?_,g6⟩;rw[gd cM,gd cM,gd cM,gd cM];exact g2;rw[gd cM,gd cM,gd cM,gd cM];exact g3;rw[gd cM,gd cM,gd cM,gd cM];exact g4;rw[gd cM,gd cM,gd cM,gd cM];exact g5;have O:pt (λx=>own x\/x=d) D (Lv 241 Wg) (KR M N Wg Ch A pb n D Q J (λx=>own x\/x=d) (upd Sb i true)):=KR.rely h1 h3 hQ hP;exact WK.ctl O rfl (λ_=>cZ)<|WK.ctl O rfl (λ_=>stepG_inBlock)<|WK.ctl O rfl (λ_=>stepG_inLoop)<|ag _ _ _ _ _ _ _ _ _ _ _
def tj(S:Nat->Bool)(n:Nat):Nat:=sumTo n λj=>if S j=true then 1 else 0
theorem KX(S:Nat->Bool):∀n,tj S n<=n
 |0=>by simp[tj,sumTo]
 |n+1=>by have:=KX S n;simp only[tj,sumTo]at*;split<;>omega
theorem Gn(S:Nat->Bool):∀n,tj S n=n->∀j,j<n->S j=true
 |0,_,j,c=>cM
 |n+1,h,j,c=>by have a:=KX S n;simp only[tj,sumTo]at h a;by_cases e:S n=true;rw[cV e]at h;obtain b|b:=gC j n;exact Gn S n (by simp only[tj];omega) j b;obtain rfl:j=n:=cM;exact e;rw[cS e]at h;omega
theorem Gp(S:Nat->Bool)(i:Nat)(a:S i=false):∀n,i<n->tj (upd S i true) n=tj S n+1
 |0,h=>cM
 |n+1,h=>by
  by_cases e:i=n;subst e;have b:tj (upd S i true) i=tj S i:=sumTo_congr λj d=>by rw[upd_ne _ _ cM]
  simp only[tj,sumTo]at b⊢;rw[b,upd_same,a];simp;have c:=Gp S i a n cM;simp only[tj,sumTo]at c⊢;rw[c,upd_ne _ _ cM];omega
noncomputable def KY(e:tg)(m:Mw)(j k l o n A:Nat)(p a b c d f g h i:cK)(q:List Frame):cQ:=
 G (lO.at (CJ e m j k l o n A p (.tuple #[ti,.bool false]) a b c d f g h i) [.inRegion mM [1],.code Gm,.inLoop pH,.inBlock 2,.code mq]) q
def WP(e:tg)(m:Mw)(l o p q A r n:Nat)(s:dp)(Q:dC)(t:Nat->(dp)->cJ->cK->Prop)(u:List Frame):iV:=λa g w=>
 ∃v b c d f h i j k,g=KY e m l o p q n A v b c d f h i j k u/\KR l o p q A r n s Q t a (λ_=>true) w
def KR.all{e:Nat->(dp)->cJ->cK->Prop}{f g:Nat->Bool}(h:KR m k i j o p s B S e A f w)(n:∀b,b<s->g b=true->f b=true):KR m k i j o p s B S e A g w:=by have⟨q,r,c,t⟩:=h.a;exact⟨h.s,⟨q,r,c,λb l d=>t b l (n b l d)⟩,h.oa,h.lr,h.lw⟩
def hears{e:tg}{m:Mw}{F H Wg Ch n pb A:Nat}{Q:dC}{C:Nat->(dp)->cJ->cK->Prop}{cs:List Frame}{D:iV}(J:∀own g w,WP e m F H Wg Ch A pb n B Q C cs own g w->D own g w)(hn:n<=65536)(P:B F)(R:B H)(T:th B Q)(O:Ak C):∀(r:Nat) (S:Nat->Bool) (own:dp) (I y d f l o p q t u:cK),tj S n+r=n->WK PR 241 Wg true B (pE PR 241 Wg Ch n B (Gj C) D ti r S) own (KR F H Wg Ch A pb n B Q C own S) (G (lO.at (CJ e m F H Wg Ch n A I y d f l o p q t u) [.code pH,.inLoop pH,.inBlock 2,.code mq]) cs):=by
 intro r;induction r with
 |zero=>
  intro S own I y d f l o p q t u hc;have c:pt own B (Lv 241 Wg) (KR F H Wg Ch A pb n B Q C own S):=KR.rely P R T O;refine WK.ctl c rfl (λ_=>dk)<|WK.ctl c rfl (λ_=>ig) ?_;rw[show List.range mM.size=[0,1]from rfl];refine WK.stop c λw z=>⟨rfl,λw=>?_,?_⟩;refine(stepG_comm rfl rfl (by k_ne) (Gi (Ch:=Ch) rfl rfl w)).trans ?_;unfold listed;rw[yp (Ch:=Ch) rfl rfl w,seen_none];rw[served_G];exact J _ _ _ ⟨I,d,f,l,o,p,q,t,u,rfl,z.all λj U _=>Gn S n cM j U⟩
 |succ r ih=>
  intro S own I y d f l o p q t u hc;have c:pt own B (Lv 241 Wg) (KR F H Wg Ch A pb n B Q C own S):=KR.rely P R T O;refine WK.ctl c rfl (λ_=>dk)<|WK.ctl c rfl (λ_=>ig) ?_;rw[show List.range mM.size=[0,1]from rfl];refine WK.stop c λw z=>⟨rfl,λw=>?_,λi v K Z V L M=>?_⟩;refine(stepG_comm rfl rfl (by k_ne) (Gi (Ch:=Ch) rfl rfl w)).trans ?_;unfold listed;rw[yp (Ch:=Ch) rfl rfl w,seen_none];rw[served_G];obtain⟨sa,sl,sc,mm,k,b,oj,rfl,E,W⟩:=L
  have hl:=Mx (e:=e) (m:=m) (Wg:=Wg) (Ch:=Ch) (n:=n) (pb:=pb) (A:=A) (i:=i) (own:=λb=>own b\/K b) (S:=pE PR 241 Wg Ch n B (Gj C) D ti r (upd S i true)) (Sb:=S) (cs:=cs) hn Z (.inl z.oa) P R T O (sa:=sa) (sl:=sl) (sc:=sc) (mm:=mm) (k:=k) (b:=b)
   I d f l o p q t u λaa I y d f l o p q t u=>ih _ _ _ _ _ _ _ _ _ _ _ _ (by rw[Gp S i V n Z];omega)
  have⟨ca,ha,X,N⟩:=z.a;refine hl w ⟨⟨z.s,⟨ca,ha,X,λj U V=>(N j U V).same O (λ_ h=>.inl h) (di _) λ_ _ _ _=>rfl⟩,.inl z.oa,z.lr,z.lw⟩,oj,λx Y=>⟨.inr (E x Y).1,λe=>M x (E x Y).1 (e▸z.oa),(E x Y).2⟩,W⟩
structure Gq(pb:Nat)(oa:Option Addr)(on oc:Nat)(la:Addr)(L C:Nat)(a0:Option Addr)(n c0:Nat)(w:cJ):Prop where
 f1:w.cell? ⟨pb,1,none⟩=some (.slice oa on oc)
 ls:Pb pb la L C a0 n c0 w
noncomputable def SB(o p q r s t u a b c d e f g h i j k l m n:cK):Act:=
 ⟨#[o,p,q,r,s,undef,undef,undef,t,u,a,b,c,d,e,f,g,h,i,j,k,l,m,n,undef,undef,undef,undef,undef,undef,undef,undef,undef,undef,undef,undef,undef,undef,undef,undef,undef,undef,undef,undef,undef,undef,undef,undef,undef,undef,undef,undef],[]⟩
def Gr(x:cK)(a:List Frame):G (Frame.enter PR 163 #[x] .normal) a=G (lO.at (SB x undef undef undef undef undef undef undef undef undef undef undef undef undef undef undef undef undef undef undef undef) [.code we]) a:=by rw[enter_at (fn:=Tryz.f163) (c:=we) _ Tryz.func163 Ah,Tryz.ntmps163];simp only[SB,im,fa,fP,Nat.reduceAdd,Nat.reduceSub,Array.replicate,List.replicate,List.append_toArray,nM,qI,lO]
noncomputable def i247:TypeInfo:=(PR.info? 247).getD default
def KZ:PR.info? 247=some i247:=eE
def Vp(k:Nat)(n:Nat)(Q:dC)(l:Nat)(m:List Frame):iV:=λa g w=>
 ∃(e:tg) (d f h i j c:Nat),g=G (lO.at (nX e d h i n 0 undef undef undef undef undef undef) [.code gG,.inLoop gG,.inBlock 0,.code jF]) m/\e.x2=.pointer (some ⟨f,0,none⟩)/\KO [(i,wgBlock 241 0 0),(h,.cells #[.chan (some j)] 232),(j,.chan 0 #[] false c c false),(f,.cells #[.slice none 0 0,.int .i64 0,.int .i64 0,.bool false] 199),(d,.cells #[.pointer (some ⟨k,0,none⟩)] 200)] Q l w/\∀b,a b↔b=i\/b=h\/b=j\/b=f\/b=d
def Ph{u U J L C n K m0:Nat}{a0:dW}{Q:dC}{rd:dp}{cs:List Frame}(D:yZ rd Q)(aa:0<U)(hL:0<L) (H:∀w,Q w->Gq u a U J h L C a0 n K w)(M:rd u)(V:rd h.block)(W:∀b,rd b->b<m0):WK PR 241 0 true rd (Vp u n Q m0 cs) dr (KO [] Q m0) (G (Frame.enter PR 163 #[.pointer (some ⟨u,0,none⟩)] .normal) cs):=by
 rw[Gr];have h0:∀x∈([]:List (Nat×Obj)),dr x.1:=λx s=>by cases s
 have N:=KO.rely (Q:=Q) (m0:=m0) (rd:=rd) (own:=dr) (L:=Lv 241 0) h0 D;simp only[we,SB];refine WK.ctl N rfl (λ_=>dk)<|WK.ctl N rfl (λ_=>ig) ?_;simp only[Ae,im,fa,fP,Nat.reduceAdd,dn,List.range,List.range.loop];refine WK.Jc (f:=λn=>dQ n) (ob:=.cells #[dQ u] 200) h0 D rfl rfl (by k_ne) (λw c=>?_) (λw c e l=>?_) λr _ _=>?_
 ·go_simp;first|done|rfl
 simp[go_sem]at l;walk_nrm;have h1:∀x∈[(r,Obj.cells #[dQ u] 200)],(λx=>dr x\/x=r) x.1:=λx s=>by rw[jE.1 s];exact .inr rfl
 refine WK.Jc (f:=λn=>dQ n) (ob:=.cells #[fo,i64 0,i64 0,.bool false] 199) h1 D rfl rfl (by k_ne) (λw c=>?_) (λw c e l=>?_) λz _ _=>?_
 ·go_simp;first|done|rfl
 simp[go_sem]at l;walk_nrm;have X:∀x∈[(z,Obj.cells #[fo,i64 0,i64 0,.bool false] 199),(r,Obj.cells #[dQ u] 200)],(λx=>(dr x\/x=r)\/x=z) x.1:=λx s=>by obtain rfl|s:=fi.1 s;exact .inr rfl;rw[jE.1 s];exact .inl (.inr rfl)
 have j:=KO.rely (m0:=m0) (L:=Lv 241 0) (own:=λx=>(dr x\/x=r)\/x=z) X D;have O:∀w,KO [(z,Obj.cells #[fo,i64 0,i64 0,.bool false] 199),(r,Obj.cells #[dQ u] 200)] Q m0 w->w.cell? (dt r 0)=some (dQ u):=λw c=>by have:=c.at_ (r,Obj.cells #[dQ u] 200) dq;simp[World.cell?,this]
 refine WK.ctl j rfl (λ_=>cZ)<|WK.ctl j rfl (λ_=>dk)<|WK.ctl j rfl (λ_=>dk)<|WK.ctl j rfl (λ_=>ig) ?_;simp only[Af,im,fa,fP,Nat.reduceAdd,dn,List.range,List.range.loop];refine WK.load (v:=dQ u) j rfl rfl (by k_ne) (λw c=>?_) (λw c e l=>?_) ?_;have p:=(O) w c;go_simp;have p:=(O) w c;simp[go_sem,p]at l;exact .inl ⟨_,_,l,.inl (.inl (.inr rfl))⟩;walk_nrm;refine WK.val (v:=?_) j rfl rfl (by k_ne) (λw=>?_) (λw=>?_) ?_;rotate_left;go_simp;rfl;go_simp;walk_nrm;refine WK.val (v:=?_) j rfl rfl (by k_ne) (λw=>?_) (λw=>?_) ?_;rotate_left;go_simp;rfl;go_simp;walk_nrm;refine WK.load (v:=.slice a U J) j rfl rfl (by k_ne) (λw c=>?_) (λw c e l=>?_) ?_;have p:=(λw c=>(H w c.q).f1) w c;go_simp;have p:=(λw c=>(H w c.q).f1) w c;simp[go_sem,p]at l;exact .inl ⟨_,_,l,.inr (.inl ⟨rfl,M⟩)⟩;walk_nrm;refine WK.val (v:=?_) j rfl rfl (by k_ne) (λw=>?_) (λw=>?_) ?_;rotate_left;go_simp;rfl;go_simp;walk_nrm;refine WK.val (v:=.bool false) j rfl rfl (by k_ne) (λw=>?_) (λw=>?_) ?_;go_simp;omega;simp[go_sem];walk_nrm;refine WK.ctl j rfl (λ_=>cZ)<|WK.ctl j rfl (λ_=>stepG_cond (t:=false) rfl) ?_;simp only[iR,fq];refine WK.ctl j rfl (λ_=>fC)<|WK.ctl j rfl (λ_=>dk)<|WK.ctl j rfl (λ_=>ig) ?_;simp only[Ga,im,fa,fP,Nat.reduceAdd,dn,List.range,List.range.loop];refine WK.Jc (f:=λn=>.chan (some n)) (ob:=.chan 0 #[] false 0 0 false) X D rfl rfl (by k_ne) (λw c=>?_) (λw c e l=>?_) λA _ _=>?_
 ·have:=run_makeChan (P:=PR) (w:=w) (t:=232) (e:=247) (dir:=.both) (i:=i247) eE KZ .i64 0 cM cM;go_simp;first|done|rfl|(rw[this];rfl)
 have Y:(Instr.makeChan 232 (i64 0)).events PR w #[]=#[]:=by have Y:=events_makeChan (P:=PR) (w:=w) (t:=232) (e:=247) (dir:=.both) (i:=i247) eE KZ .i64 0 cM cM #[];simpa using Y
 have F:e∈(do Pure.pure (Next.value (<-Instr.makeChan 232 (i64 0))):Sem Next).events PR w #[]:=l;simp at F;rw[Y]at F;simp at F;walk_nrm;have h3:∀x∈[(A,Obj.chan 0 #[] false 0 0 false),(z,Obj.cells #[fo,i64 0,i64 0,.bool false] 199),(r,Obj.cells #[dQ u] 200)],(λx=>((dr x\/x=r)\/x=z)\/x=A) x.1:=λx s=>by obtain rfl|s:=fi.1 s;exact .inr rfl;exact .inl (X x s)
 refine WK.Jc (f:=λn=>dQ n) (ob:=.cells #[.chan none] 232) h3 D rfl rfl (by k_ne) (λw c=>?_) (λw c e l=>?_) λy _ _=>?_
 ·go_simp;first|done|rfl
 simp[go_sem]at l;walk_nrm;have S:∀o,∀x∈[(y,o),(A,Obj.chan 0 #[] false 0 0 false),(z,Obj.cells #[fo,i64 0,i64 0,.bool false] 199),(r,Obj.cells #[dQ u] 200)],(λx=>(((dr x\/x=r)\/x=z)\/x=A)\/x=y) x.1:=λo x s=>by obtain rfl|s:=fi.1 s;exact .inr rfl;exact .inl (h3 x s)
 refine WK.Pg (pre:=[]) (ob':=.cells #[.chan (some A)] 232) (S _) D (λb k Z=>?_) rfl rfl (by k_ne) (λw c=>?_) (λw c e l=>?_) ?_
 ·have:=W b Z;obtain(((k|k)|k)|k)|k:=k;exact k;all_goals omega
 have p:=c.at_ (y,Obj.cells #[.chan none] 232) dq;have K:w.cell? (dt y 0)=some (.chan none):=by simp[World.cell?,p]
 have f0:w.frozen? (dt y 0)=false:=by simp[World.frozen?,p]
 go_simp;refine⟨by simp[World.setCell],by simp[World.setCell],λd hd=>fS w (dt y 0) _ d hd,?_⟩;simp[World.setCell,nL,p];have p:=c.at_ (y,Obj.cells #[.chan none] 232) dq;have K:w.cell? (dt y 0)=some (.chan none):=by simp[World.cell?,p]
 have f0:w.frozen? (dt y 0)=false:=by simp[World.frozen?,p]
 have I:∀(w:cJ) (I:Array Event) (T:Addr) (m:Mode) (x:Option Nat),(store T (.chan x) m).events PR w I=storedEv PR w I T (.chan x) m:=λw I T m x=>events_store PR w I T _ m rfl;simp[go_sem,I,K,f0]at l;exact .inl ⟨_,_,l,.inl (.inr rfl)⟩;walk_nrm;have B:=KO.rely (m0:=m0) (L:=Lv 241 0) (own:=λx=>(((dr x\/x=r)\/x=z)\/x=A)\/x=y) (S (Obj.cells #[.chan (some A)] 232)) D;refine WK.ctl B rfl (λ_=>cZ)<|WK.ctl B rfl (λ_=>dk)<|WK.ctl B rfl (λ_=>ig) ?_;simp only[Gb,im,fa,fP,Nat.reduceAdd,dn,List.range,List.range.loop];refine WK.Jc (f:=λn=>dQ n) (ob:=wgBlock 241 0 0) (S _) D rfl rfl (by k_ne) (λw c=>?_) (λw c e l=>?_) λR _ _=>?_
 ·go_simp;first|done|rfl
 simp[go_sem]at l;walk_nrm;have h5:∀x∈[(R,wgBlock 241 0 0),(y,Obj.cells #[.chan (some A)] 232),(A,Obj.chan 0 #[] false 0 0 false),(z,Obj.cells #[fo,i64 0,i64 0,.bool false] 199),(r,Obj.cells #[dQ u] 200)],(λx=>((((dr x\/x=r)\/x=z)\/x=A)\/x=y)\/x=R) x.1:=λx s=>by obtain rfl|s:=fi.1 s;exact .inr rfl;exact .inl (S _ x s)
 have g:=KO.rely (m0:=m0) (L:=Lv 241 0) (own:=λx=>((((dr x\/x=r)\/x=z)\/x=A)\/x=y)\/x=R) h5 D;refine WK.ctl g rfl (λ_=>cZ)<|WK.ctl g rfl (λ_=>dk)<|WK.ctl g rfl (λ_=>dk)<|WK.ctl g rfl (λ_=>ig) ?_;simp only[Gc,im,fa,fP,Nat.reduceAdd,dn,List.range,List.range.loop];have E:∀w,KO [(R,wgBlock 241 0 0),(y,Obj.cells #[.chan (some A)] 232),(A,Obj.chan 0 #[] false 0 0 false),(z,Obj.cells #[fo,i64 0,i64 0,.bool false] 199),(r,Obj.cells #[dQ u] 200)] Q m0 w->w.cell? (dt r 0)=some (dQ u):=λw c=>by have:=c.at_ (r,Obj.cells #[dQ u] 200) dq;simp[World.cell?,this]
 refine WK.load (v:=dQ u) g rfl rfl (by k_ne) (λw c=>?_) (λw c e l=>?_) ?_;have p:=(E) w c;go_simp;have p:=(E) w c;simp[go_sem,p]at l;exact .inl ⟨_,_,l,.inl (.inl (.inl (.inl (.inl (.inr rfl)))))⟩;walk_nrm;refine WK.val (v:=?_) g rfl rfl (by k_ne) (λw=>?_) (λw=>?_) ?_;rotate_left;go_simp;rfl;go_simp;walk_nrm;refine WK.val (v:=?_) g rfl rfl (by k_ne) (λw=>?_) (λw=>?_) ?_;rotate_left;go_simp;rfl;go_simp;walk_nrm;refine WK.load (v:=.slice (some h) L C) g rfl rfl (by k_ne) (λw c=>?_) (λw c e l=>?_) ?_;have p:=(λw c=>(H w c.q).ls.f2) w c;go_simp;have p:=(λw c=>(H w c.q).ls.f2) w c;simp[go_sem,p]at l;exact .inl ⟨_,_,l,.inr (.inl ⟨rfl,M⟩)⟩;walk_nrm;refine WK.val (v:=.pointer (some h)) g rfl rfl (by k_ne) (λw=>?_) (λw=>?_) ?_;go_simp;simp[go_sem];exact events_indexAt_slice _ _ _ _ _ _ eE ⟨cM,cM⟩;walk_nrm;refine WK.load (v:=.slice a0 n K) g rfl rfl (by k_ne) (λw c=>?_) (λw c e l=>?_) ?_;have p:=(λw c=>(H w c.q).ls.l0) w c;go_simp;have p:=(λw c=>(H w c.q).ls.l0) w c;simp[go_sem,p]at l;exact .inl ⟨_,_,l,.inr (.inl ⟨rfl,V⟩)⟩;walk_nrm;refine WK.val (v:=?_) g rfl rfl (by k_ne) (λw=>?_) (λw=>?_) ?_;rotate_left;go_simp;rfl;go_simp;walk_nrm;refine WK.val (v:=?_) g rfl rfl (by k_ne) (λw=>?_) (λw=>?_) ?_;rotate_left;go_simp;rfl;go_simp;walk_nrm;refine WK.ctl g rfl (λ_=>cZ)<|WK.ctl g rfl (λ_=>sM)<|WK.ctl g rfl (λ_=>stepG_loop)<|WK.stop g λw c=>⟨⟨_,_,_,_,_,_,_,_,_,_,_,_,_,_,_,_⟩,r,z,y,R,A,0,rfl,rfl,c,λb=>⟨?_,?_⟩⟩;rintro(((((k|k)|k)|k)|k)|k);exact k.elim;exact .inr (.inr (.inr (.inr k)));exact .inr (.inr (.inr (.inl k)));exact .inr (.inr (.inl k));exact .inr (.inl k);exact .inl k;rintro(k|k|k|k|k);exact .inr k;exact .inl (.inr k);exact .inl (.inl (.inr k));exact .inl (.inl (.inl (.inr k)));exact .inl (.inl (.inl (.inl (.inr k))))
def Am{rc:Nat}{f:eH}{a b c d:cK}{w:cJ}(g:f[2]? =some (.pointer (some ⟨rc,0,none⟩)))(e:w.heap[rc]? =some (.cells #[a,b,c,d] 199)):(results Tryz.f163 f).run PR w=.ok (.agg #[a,b,c,d]) w:=by
 have h:w.cell? (dt rc 0)=some a:=by simp[World.cell?,e]
 have i:w.cell? (dt rc 1)=some b:=by simp[World.cell?,e]
 have j:w.cell? (dt rc 2)=some c:=by simp[World.cell?,e]
 have k:w.cell? (dt rc 3)=some d:=by simp[World.cell?,e]
 simp[results,Tryz.results163,go_sem,g,h,i,j,k]
def wj{rc:Nat}{h:eH}{a b c d:cK}{w:cJ}(j:h[2]? =some (.pointer (some ⟨rc,0,none⟩)))(g:w.heap[rc]? =some (.cells #[a,b,c,d] 199)):∀e∈(results Tryz.f163 h).events PR w #[],∃i k,e=⟨.cell i,k,false⟩/\i.block=rc:=by
 have l:w.cell? (dt rc 0)=some a:=by simp[World.cell?,g]
 have m:w.cell? (dt rc 1)=some b:=by simp[World.cell?,g]
 have n:w.cell? (dt rc 2)=some c:=by simp[World.cell?,g]
 have o:w.cell? (dt rc 3)=some d:=by simp[World.cell?,g]
 intro e f;simp[results,Tryz.results163,go_sem,j,l,m,n,o]at f;obtain f|f|f|f:=f<;>exact⟨_,_,f,rfl⟩
section
variable{Wg:Nat}{own rd:Nat->Prop}{S:iV}{Q:cJ->Prop}{m0 rc:Nat}{bl pre:List (Nat×Obj)}{caller:Frame}{cs:List Frame}{va vb vc vd:cK}{act:Act}
theorem Pi{k:List Item}{K:dC}(a:pt own rd (Lv 241 Wg) K)(f:∀w,K w->w.heap[rc]? =some (.cells #[va,vb,vc,vd] 199))(c:own rc)(g:act.tmps[2]? =some (.pointer (some ⟨rc,0,none⟩)))(i:act.defers=[]) (j:WK PR 241 Wg true rd S own K (G (caller.finish (.agg #[va,vb,vc,vd])) cs)):WK PR 241 Wg true rd S own K (G (lO.at act (.code .ret::k)) (caller::cs)):=by refine WK.ctl (g':=G {lO.at act (.code .ret::k)with mode:=.returning} (caller::cs)) a rfl (λw=>?_) ?_;simp[stepG,stepG.exec,G,Frame.at,lO,base];refine WK.step a rfl λw d=>?_;have l:=Am g (f w d);refine⟨G (caller.finish (.agg #[va,vb,vc,vd])) cs,w,seen PR 163 ((results Tryz.f163 act.tmps).events PR w #[]),own,?_,⟨rfl,rfl,rfl,di _,λb=>⟨.inl,λh=>h.elim id λh=>absurd h.2 (Nat.not_lt.2 h.1)⟩,λ_ _ _=>rfl,λe m=>?_⟩,j w d⟩;simp[stepG,unwind,doReturn,G,Frame.at,lO,base,i,Tryz.func163,kL,l,GStep.after];have:=ly m;obtain⟨n,o,rfl,p⟩:=wj g (f w d) e this;exact .inl ⟨n,o,rfl,.inl (by rw[p];exact c)⟩
end
abbrev Sp:=Option (List Int×Int×Int)
def nd(x y:Sp):Bool:=match x,y with
 |none,_=>false
 |some _,none=>true
 |some (_,m,k),some (_,a,b)=>if m≠a then decide (m<a)else decide (k<b)
def qi:List Sp->Sp
 |[]=>none
 |x::b=>b.foldl (λa y=>if nd y a then y else a) x
def ii(l:eY)(c:Nat):eH:=(l.map (Value.int .i64)++List.replicate (c-l.length) (Value.int .i64 0)).toArray
def Pj(b:Nat×Nat):Prop:=∀a,¬FI b a
def dS(o:dp)(w:cJ)(s:Sp)(y:SV):Prop:=match s with
 |none=>y=⟨none,0,0,0,0,false⟩
 |some (l,m,k)=>y.m=m/\y.k=k/\y.b=true/\y.sl=l.length/\((l=[]/\y.sa=none/\y.sc=0)\/
  (l≠[]/\∃a,o a/\y.sa=some ⟨a,0,none⟩/\l.length<=y.sc/\y.sc<2^63/\∃c,Pj c/\w.heap[a]? =some (.cells (ii l y.sc) 3 c)))
def dS.better{s a:Sp}{x y:SV}(h:dS A w s x)(k:dS B t a y):iW x y=nd s a:=by
 cases s with
 |none=>
  have:x=⟨none,0,0,0,0,false⟩:=h;subst this;cases a with
  |none=>rfl
  |some a=>rfl
 |some s=>
  have⟨l,m,n⟩:=s;have⟨c,d,b,_⟩:=h;cases a with
  |none=>
   have:y=⟨none,0,0,0,0,false⟩:=k;subst this;simp[iW,nd,b]
  |some a=>
   have⟨i,j,o⟩:=a;have⟨e,f,g,_⟩:=k;simp[iW,nd,c,d,b,e,f,g]
theorem yq:∀(b:List SV) (c:List Sp) (x:SV) (s:Sp),dS A w s x->b.length=c.length->(∀j (h:j<b.length) (k:j<c.length),dS A w c[j] b[j])->
 dS A w (c.foldl (λa y=>if nd y a then y else a) s) (b.foldl (λa y=>if iW y a then y else a) x)
 |[],[],x,s,h,_,_=>h
 |y::b,t::c,x,s,h,d,g=>by simp only[jP];have e:=g 0 dq dq;simp only[nO]at e;rw[e.better h];refine yq b c _ _ ?_ (fB d) λj i f=>g (j+1) (fB i) (fB f);split;exact e;exact h
 |[],_::_,_,_,_,d,_=>by simp at d
 |_::_,[],_,_,_,d,_=>by simp at d
def Gs(b:List SV)(a:List Sp)(c:b.length=a.length)(e:∀j (h:j<b.length) (g:j<a.length),dS A w a[j] b[j]):dS A w (qi a) (dM b):=by
 cases b with
 |nil=>cases a with
  |nil=>rfl
  |cons _ _=>simp at c
 |cons y b=>cases a with
  |nil=>simp at c
  |cons s a=>
   exact yq b a y s (e 0 dq dq) (fB c) λj f d=>e (j+1) (fB f) (fB d)
def Wy.Uv{S:iV}(h:Wy P T m D A S B Z w):Wy P T m D A (λo Z c=>S o Z c/\∀b,B b->o b) B Z w:=by
 obtain⟨t,h⟩:=h
 have g:∀i:dp,(∀b,i b->B b)->Wy P T m D A (λo Z c=>S o Z c/\∀b,i b->o b) B Z w:=by
  intro i k;induction h with
  |here h=>exact pG λd f=>⟨h d f,k⟩
  |step p q u r=>
   refine mo p λd f=>?_;obtain⟨l,c,n,a,e,j⟩:=q d f;exact⟨l,c,n,a,e,j,r d l c n a f e j λb s=>(j.owns b).2 (.inl (k b s))⟩
 exact g B λ_ h=>h
end Go.Proofs.W
namespace Go.Proofs.W
open Go.RowKit
def V.yh:V.prog.underlying 27=some (.slice 3):=by rw[V.uL,Tryz.underlying27]
def wl:Tryz.t3.bytes=8:=eE
def My(w:cJ):Calls V.prog 128 #[.slice none 0 0] w λe a=>e=.returned (.slice none 0 0)/\a=w:=by have b:=λ(w:cJ)=>Go.Lib.run_eql_slice_nil (P:=jV) w 27 3 none 0 0 0 0 V.yh;go_enter V.func128,Tryz.ntmps128;go_wp2;go_ret;exact⟨rfl,rfl⟩
def yr(w:cJ)(a b:Nat):Nat:=(Question.appendCap a b 3).cut (w.tape w.drawn (.appendCap a b 3))
def Pk(w:cJ)(a b:Nat):a<=yr w a b:=by simp[yr,Question.cut]
def Pm(w:cJ)(a b:Nat)(h:a<=65536):yr w a b<2^63:=by have:0<2^63-a:=cM;have:=Nat.mod_lt (w.tape w.drawn (.appendCap a b 3)) this;simp only[yr,Question.cut];omega
def B1(n:Nat):Builtin.zeroCells #[.int .i64 0] n=(List.replicate n (Value.int .i64 0)).toArray:=by apply RM;simp[Builtin.zeroCells];exact List.ext_getElem dq λi a b=>by simp[Nat.mod_one]
def Eh(l:eY)(c:Nat):(l.map (Value.int .i64)).toArray++Builtin.zeroCells #[.int .i64 0] (c-l.length)=ii l c:=by rw[B1];simp[ii]
def Jd(b c:Nat)(l:eY)(w:cJ)(g:0<l.length)(m:l.length<=65536)(n:b<w.heap.size)(d:∀k (h:k<l.length),w.cell? ⟨b,k,none⟩=some (.int .i64 l[k])):
 Calls V.prog 128 #[.slice (some ⟨b,0,none⟩) l.length c] w λe w'=>e=.returned (.slice (some ⟨w.heap.size+1,0,none⟩) l.length (yr w l.length 0))/\
  w'=((w.alloc (.cells #[] 3)).alloc (.cells (ii l (yr w l.length 0)) 3)).drew:=by
 have s:=λ(w:cJ)=>Go.Lib.run_eql_slice_nil (P:=V.prog) w 27 3 (pr b 0) l.length c 0 0 V.yh;have o:Sem.run V.prog (loadCellsFrom (dt b 0) 0 l.length #[]) (w.alloc (.cells #[] 3)).drew=.ok (l.map (Value.int .i64)).toArray (w.alloc (.cells #[] 3)).drew:=by
  have:=run_loadCellsFrom (P:=V.prog) (w.alloc (.cells #[] 3)).drew (dt b 0) (λj=>i64 (l.getD j 0)) l.length 0 #[] λj f=>by
   have h:=d j f;have e:(w.alloc (.cells #[] 3)).drew.cell? (dt b j)=w.cell? (dt b j):=iy (w:=w) (w':=(w.alloc (.cells #[] 3)).drew) (ad:=(dt b j)) (alloc_old w _ n);have p:((dt b 0):Addr).add j=(dt b j):=by unfold Addr.add;split;rename_i h;subst h;rfl;simp
   simp only[dn];rw[p,e,h,gW,ft f];rfl
  rw[this];congr 1;apply RM;simp;exact List.ext_getElem dq λi a q=>by simp at a;simp[a]
 have a:¬(9223372036854775807<(l.length:Int)/\Tryz.t3.bytes=0):=by rw[wl];omega
 have q:¬(281474976710656<Builtin.nextslicecap l.length 0*Tryz.t3.bytes):=by rw[wl,nextslicecap_zero g];omega
 have t:¬l.length=0:=cM;have r:=Go.Lib.hid (Eh l (yr w l.length 0));clear d m;go_enter V.func128,Tryz.ntmps128;go_wp2;go_ret;exact⟨rfl,by rw[<-r.out];rfl⟩
def oi(x d:Nat):Nat:=x|||(1<<<d)
def tk(x d:Nat):Nat:=x-(x&&&(1<<<d))
theorem SC:∀x:Nat,x<32->∀d:Nat,d<5->bits .or .u8 (x:Int) ((2:Int)^d%256)=(oi x d:Int):=by decide+kernel
def Gt:∀x:Nat,x<32->∀d:Nat,d<5->bits .andNot .u8 (x:Int) ((2:Int)^d%256)=(tk x d:Int):=by decide+kernel
def Ei:∀x,x<32->∀d,d<5->oi x d<32:=by decide+kernel
def SD:∀x,x<32->∀d,d<5->tk x d<32:=by decide+kernel
def Gu(x d:Nat)(w:cJ)(a:x<32)(b:d<5):Calls V.prog 164 #[.int .u8 x,.int .i64 d] w λe c=>e=.returned (.int .u8 (oi x d))/\c=w:=by have h:=Go.Lib.hid (SC x a d b);go_enter V.func164,Tryz.ntmps164;go_wp2;go_ret;exact⟨by rw[h.out];rfl,rfl⟩
def Gv(x d:Nat)(w:cJ)(a:x<32)(b:d<5):Calls V.prog 228 #[.int .u8 x,.int .i64 d] w λe c=>e=.returned (.int .u8 (tk x d))/\c=w:=by have h:=Go.Lib.hid (Gt x a d b);go_enter V.func228,Tryz.ntmps228;go_wp2;go_ret;exact⟨by rw[h.out];rfl,rfl⟩
def j6{d:Type}(e:dp)(E:cJ->cK->d->Prop)(z:cK)(t:cR)(w:cJ)(v:cK)(l:List d):Prop:=
 (l=[]/\v=.slice none 0 0)\/∃b c a f,e b/\v=.slice (some ⟨b,0,none⟩) l.length c/\w.heap[b]? =some (.cells a t f)/\a.size=c/\l.length<=c/\(∀k (h:k<l.length),∃u,a[k]? =some u/\E w u l[k])/\∀k,l.length<=k->k<c->a[k]? =some z
def WQ(_:cJ)(u:cK)(n:Nat):Prop:=u=.int .i64 n
abbrev xn(a:Nat->Prop):=j6 a WQ (.int .i64 0) 3
abbrev An(a:Nat->Prop):=j6 a (xn a) (.slice none 0 0) 27
abbrev wm(a:Nat->Prop):=j6 a (An a) (.slice none 0 0) 66
def j6.same{a:Type}{E:cJ->cK->a->Prop}{w w':cJ}{l:List a}(f:∀b,A b->w'.heap[b]? =w.heap[b]?)(q:∀u d,E w u d->E w' u d)(h:j6 A E z T w x l):j6 A E z T w' x l:=by obtain h|⟨b,c,g,i,e,j,m,n,o,r,p⟩:=h;exact .inl h;refine .inr ⟨b,c,g,i,e,j,(f b e).trans m,n,o,λk s=>?_,p⟩;grind
def X9(b:cK):Prop:=b=undef\/∃a,b=.pointer (some a)
structure eR where
 opn:List Nat
 lists:List (List (List Nat))
 counts:List Int
structure eR.Ok(D:eR):Prop where
 len:D.lists.length=D.opn.length
 five:D.opn.length<=5
 nodup:D.opn.Nodup
 door:∀d∈D.opn,d<5
 many:∀ls∈D.lists,ls.length<=65536
 long:∀ls∈D.lists,∀l∈ls,l.length<=65536
 shift:∀ls∈D.lists,∀l∈ls,∀s∈l,s<6
 cnt:D.counts.length=32
 cval:∀c∈D.counts,-1<=c/\c<=5
 zero:D.counts.getD 0 0=0
def dY(b c d:cK)(a:eY):eH:=([b,c,d]++a.map (Value.int .i64)).toArray
structure fZ(n0:Nat->Prop)(pb:Nat)(D:eR)(w:cJ):Prop where
 ok:D.Ok
 lt:n0 pb
 at_:∃wk u1 u2 fz,X9 wk/\w.heap[pb]? =some (.cells (dY wk u1 u2 D.counts) 207 fz)/\xn n0 w u1 D.opn/\wm n0 w u2 D.lists
theorem fZ.same{D:eR}{w w':cJ}(a:∀b,A b->w'.heap[b]? =w.heap[b]?)(h:fZ A m D w):fZ A m D w':=by have⟨c,d,e,f,g,i,j,k⟩:=h.at_;refine⟨h.ok,h.lt,c,d,e,f,g,(a _ h.lt).trans i,j.same a λ_ _ h=>h,k.same a λ_ _ h=>h.same a λ_ _ h=>h.same a λ_ _ h=>h⟩
def K3(T:Nat)(w:cJ)(e:dW)(b:Nat)(a:cN):Prop:=(e=none/\a=[]/\b=0)\/∃c d,e=some ⟨c,0,none⟩/\T<c/\w.heap[c]? =some (.cells d 3)/\d.size=b/\a.length<=b/\∀k (h:k<a.length),d[k]? =some (.int .i64 a[k])
def K4(L:Nat->Nat):cN:=[L 0,L 1,L 2,L 3,L 4,L 5]
def Pn(L:Nat->Nat):cK:=.agg #[.int .u8 (L 0),.int .u8 (L 1),.int .u8 (L 2),.int .u8 (L 3),.int .u8 (L 4),.int .u8 (L 5)]
def iO(D:eR)(L:Nat->Nat):eY:=(K4 L).map λx=>D.counts.getD x 0
def eV(D:eR)(L:Nat->Nat)(a:cN):Sp:=if(iO D L).any (·<0)then none else some (a.map Int.ofNat,(iO D L).foldl max 0,(iO D L).sum)
def yu(a:Nat)(w:cJ)(s:Sp)(y:SV):Prop:=∀l m k,s=some (l,m,k)->l≠[]->∃j,a<=j/\y.sc=(Question.appendCap l.length 0 3).cut (w.tape j (.appendCap l.length 0 3))
def Je{D:eR}(h:fZ A m D w)(x:Nat)(f:x<32):w.cell? ⟨m,3+x,none⟩=some (.int .i64 (D.counts.getD x 0)):=by
 have⟨a,b,c,g,_,d,_,_⟩:=h.at_;have i:=h.ok.cnt;have e:(dY a b c D.counts)[3+x]? =some (i64 (D.counts.getD x 0)):=by grind [List.getElem?_cons_succ,List.getElem?_eq_getElem,dY]
 simp only[World.cell?,d];grind
def Jf(D:eR)(L:Nat->Nat):(iO D L).length=6:=rfl
def Ao(D:eR)(L:Nat->Nat)(k:Nat)(h:k<(iO D L).length):(iO D L)[k]=D.counts.getD (L k) 0:=by have a:k<6:=h;have:k=0\/k=1\/k=2\/k=3\/k=4\/k=5:=cM;obtain rfl|rfl|rfl|rfl|rfl|rfl:=this<;>rfl
theorem Po:∀(l:eY),(∀c∈l,c<=5)->l.any (·<0)=false->0<=l.sum/\l.sum<=5*l.length
 |[],_,_=>dq
 |x::l,h,a=>by simp only[List.any_cons,Bool.or_eq_false_iff,decide_eq_false_iff_not]at a;have:=Po l cL a.2;have b:=h x (fW ..);grind
theorem Pp:∀(l:eY) (a:Int),(∀c∈l,c<=5)->0<=a->a<=5->0<=l.foldl max a/\l.foldl max a<=5
 |[],a,_,b,d=>⟨b,d⟩
 |x::l,a,h,b,d=>by have e:=h x (fW ..);exact Pp l (max a x) cL cM cM
def CK{D:eR}(h:D.Ok)(x:Nat)(b:x<32): -1<=D.counts.getD x 0/\D.counts.getD x 0<=5:=by
 have a:x<D.counts.length:=by rw[h.cnt];grind
 rw[gW,ft a];exact h.cval _ (eG a)
def K5{D:eR}(h:D.Ok){L:Nat->Nat}(d:∀s,s<6->L s<32):∀c∈iO D L,c<=5:=by
 intro c a;obtain⟨x,b,rfl⟩:=kJ.1 a;have:x<32:=by simp only[K4,fi,pA,mh]at b;grind
 exact(CK h x this).2
theorem Gw(a b c d e f:cK)(w:cJ):(Instr.index 204 (.agg #[a,b,c,d,e,f]) (.int .i64 0)).run V.prog w=.ok a w:=eE
theorem Gx(b a c d e f:cK)(w:cJ):(Instr.index 204 (.agg #[b,a,c,d,e,f]) (.int .i64 1)).run V.prog w=.ok a w:=eE
theorem Gy(b c a d e f:cK)(w:cJ):(Instr.index 204 (.agg #[b,c,a,d,e,f]) (.int .i64 2)).run V.prog w=.ok a w:=eE
theorem Gz(b c d a e f:cK)(w:cJ):(Instr.index 204 (.agg #[b,c,d,a,e,f]) (.int .i64 3)).run V.prog w=.ok a w:=eE
theorem GA(b c d e a f:cK)(w:cJ):(Instr.index 204 (.agg #[b,c,d,e,a,f]) (.int .i64 4)).run V.prog w=.ok a w:=eE
theorem GB(b c d e f a:cK)(w:cJ):(Instr.index 204 (.agg #[b,c,d,e,f,a]) (.int .i64 5)).run V.prog w=.ok a w:=eE
def Mz(w:cJ):(Instr.build 199 #[(3,.bool true)]).run V.prog w=.ok (.agg #[.slice none 0 0,.int .i64 0,.int .i64 0,.bool true]) w:=eE
def Jg(w:cJ):(Instr.build 199 #[]).run V.prog w=.ok (.agg #[.slice none 0 0,.int .i64 0,.int .i64 0,.bool false]) w:=eE
def K6(D:eR)(L:Nat->Nat)(c:cN)(d:Nat)(w:cJ)(e:Ending)(a:cJ):Prop:=
 ∃y:SV,e=.returned y.val/\dS (λb=>w.heap.size<=b) a (eV D L c) y/\yu d a (eV D L c) y/\Below w.heap.size w a/\w.drawn<=a.drawn
def Jh(n0:dp)(pb T:Nat)(D:eR)(L:Nat->Nat)(d:cN)(pa:dW)(pc R:Nat)(w:cJ)(O:fZ n0 pb D w)(ao:∀b,n0 b->b<w.heap.size)(hL:∀s,s<6->L s<32)(S:K3 T w pa pc d)(aB:d=[]->pa=none)(aC:d.length<=65536)(hj:R<=w.drawn):Calls V.prog 229 #[.pointer (some ⟨pb,0,none⟩),.slice pa d.length pc,Pn L] w (K6 D L d R w):=by
 have aD:=Mz;have aE:=Jg;have ap:pb<w.heap.size:=ao _ O.lt;unfold Pn;go_enter V.func229,Tryz.ntmps229;go_wp2
 go_loopw [13] (λi wr=>∃k:Nat,k<=6/\i=i64 k/\Below w.heap.size w wr/\w.heap.size+3<=wr.heap.size/\wr.heap[w.heap.size+1+1]? =some (fp ⟨none,0,0,((iO D L).take k).foldl max 0,((iO D L).take k).sum,true⟩)/\
  wr.heap[w.heap.size+1]? =some (fp (dM []))/\((iO D L).take k).any (·<0)=false/\wr.drawn=w.drawn) (λi _=>6-(intOf i).toNat)
 case atStart=>
  refine⟨0,dq,rfl,(((Below.refl _ _).alloc (di _) _).alloc dq _).alloc rp _,dq,?_,?_,rfl,rfl⟩;grind [fY,World.size_alloc,fp,dM];have h2:=fY (w.alloc (.cells #[.int .u8 (L 0),.int .u8 (L 1),.int .u8 (L 2),.int .u8 (L 3),.int .u8 (L 4),.int .u8 (L 5)] 204)) (fp (dM []));grind [World.size_alloc,alloc_old,fp,dM]
 case round=>
  obtain⟨k,hk,rfl,P,aF,ho,hr,q,U⟩:=hrel;have W:=Pp ((iO D L).take k) 0 (λc hc=>K5 O.ok hL c (List.mem_of_mem_take hc)) dq dq;have F:=Po ((iO D L).take k) (λc hc=>K5 O.ok hL c (List.mem_of_mem_take hc)) q;rw[Oy,Jf]at F;have⟨f,t⟩:=ju (((iO D L).take k).foldl max 0);have⟨j,u⟩:=ju (((iO D L).take k).sum);rw[<-t,<-u]at ho;rw[<-t]at W;rw[<-u]at F;have⟨o1,o2,o3,o4,f1,f2,f3,f4⟩:=eS ho;have⟨r1,r2,r3,r4,g1,g2,g3,g4⟩:=eS hr;have HO:=Go.Lib.hid ho;have HR:=Go.Lib.hid hr;have HA:=Go.Lib.hid q;have X:=Go.Lib.hid U;have HM:=Go.Lib.hid t;have HS:=Go.Lib.hid u;clear ho hr q U t u;have⟨m0,m5⟩:=W;have⟨s0,s5⟩:=F;have aG:j<=30:=cM;clear s5;by_cases x:k<6;have hx:=hL k x;have Y:=CK O.ok (L k) hx;have G:wr.cell? (dt pb (3+L k))=some (i64 (D.counts.getD (L k) 0)):=((Pe P).1 _ _ ap).trans (Je O _ hx);have⟨p,H⟩:=ju (D.counts.getD (L k) 0);rw[<-H]at G Y;have⟨c0,c5⟩:=Y;have ay:∀w,(Instr.index 204 (.agg #[.int .u8 (L 0),.int .u8 (L 1),.int .u8 (L 2),.int .u8 (L 3),.int .u8 (L 4),.int .u8 (L 5)]) (i64 k)).run V.prog w=.ok (.int .u8 (L k)) w:=by intro w;have:k=0\/k=1\/k=2\/k=3\/k=4\/k=5:=cM;grind [Gw,Gx,Gy,Gz,GA,GB]
  have HC:=Go.Lib.hid H;clear H O S;by_cases Z:p<0;go_wp2;have I:=lV (s:=dM []) HR.out;have hB:Below w.heap.size w (jR wr (w.heap.size+1) (dM [])):=lX P (mG _);have⟨A,B,C,E,_⟩:=eS I;simp only[jR,dM]at A B C E;have a:eV D L d=none:=by
   have aa:p∈iO D L:=by have h:=Ao D L k x;rw[<-HC.out]at h;exact cL
   unfold eV;rw[cV (List.any_eq_true.2 ⟨p,aa,fB Z⟩)]
  refine bodyPost_ret (v:=(dM []).val) (by simp[results,Tryz.results229,go_sem,A,B,C,E,SV.val,dM]) rfl<|(show K6 D L d R w (.returned (dM []).val) (jR wr (w.heap.size+1) (dM []))from⟨dM [],rfl,?_,?_,hB,?_⟩);rw[a];rfl;rw[a];intro l m k h;cases h;show w.drawn<=wr.drawn;rw[X.out];omega
  ·go_wp2;go_roundw;case rel=>
    have ab:(if f<p then p else f)=max f p:=by grind
    have I:((wr.setCell (dt (w.heap.size+1+1) 1) (i64 (if f<p then p else f))).setCell (dt (w.heap.size+1+1) 2) (i64 (j+p))).heap[w.heap.size+1+1]? =some (fp ⟨none,0,0,if f<p then p else f,j+p,true⟩):=by have:=HO.out;simp[World.setCell,nL,this,fp]
    have ac:(iO D L).take (k+1)=(iO D L).take k++[p]:=by have h:=Ao D L k x;rw[mN _ _ x,h,HC.out]
    refine⟨k+1,cM,cL,(P.setCell (FE (mG _)) _).setCell (FE (mG _)) _,cL,I.trans ?_,?_,?_,X.out⟩;rw[ac,qG,List.sum_append,<-HM.out,<-HS.out,ab];simp;rw[dA.Cr.fS _ _ _ _ dq,dA.Cr.fS _ _ _ _ dq];exact HR.out;rw[ac,List.any_append,HA.out];grind
   case measure=>grind [intOf]
  obtain rfl:k=6:=cM;obtain⟨rfl,rfl,rfl⟩|⟨Q,cs,rfl,aH,J,az,aI,ad⟩:=S;go_wp2_with (go_at_call 128;refine(My _).mono ?_;rintro e g ⟨rfl,rfl⟩);have h6:(iO D L).take 6=iO D L:=yg (di _);have y:(g.setCell (dt (w.heap.size+1+1) 0) (fo)).heap[w.heap.size+1]? =some (fp (dM [])):=(dA.Cr.fS _ _ _ _ dq).trans HR.out;have I:=lV (s:=⟨none,0,0,f,j,true⟩) y;have hB:Below w.heap.size w (jR (g.setCell (dt (w.heap.size+1+1) 0) (fo)) (w.heap.size+1) ⟨none,0,0,f,j,true⟩):=lX (P.setCell (FE (mG _)) _) (mG _);have⟨A,B,C,E,_⟩:=eS I;simp only[jR]at A B C E;have a:eV D L []=some ([],f,j):=by have ha:=HA.out;have hm:=HM.out;have hs:=HS.out;rw[h6]at ha hm hs;unfold eV;rw[cS (by rw[ha];simp),<-hm,<-hs];rfl
  refine bodyPost_ret (v:=(SV.mk none 0 0 f j true).val) (by simp[results,Tryz.results229,go_sem,A,B,C,E,SV.val]) rfl<|(show K6 D L [] R w (.returned (SV.mk none 0 0 f j true).val) (jR (g.setCell (dt (w.heap.size+1+1) 0) (fo)) (w.heap.size+1) ⟨none,0,0,f,j,true⟩)from⟨_,rfl,?_,?_,hB,?_⟩);rw[a];exact⟨rfl,rfl,rfl,rfl,.inl ⟨rfl,rfl,rfl⟩⟩;rw[a];intro l m k h hl;cases h;exact absurd rfl hl;show w.drawn<=g.drawn;rw[X.out];omega;have aA:0<d.length:=by grind
  have⟨l,hl⟩:=ju (d.map Int.ofNat);have K:l.length=d.length:=cL;have aq:Q<w.heap.size:=dA.lt_of_heap J;have ae:Q<wr.heap.size:=cM;have af:∀k (h:k<l.length),wr.cell? (dt Q k)=some (i64 l[k]):=λk h=>by have h':k<d.length:=cM;have e:fF wr Q cs 3:=(P.block Q aq).trans J;simp only[World.cell?,e];grind
  have HL:=Go.Lib.hid hl;have ar:=Go.Lib.hid af;clear hl af ad J;have o:=Jd Q pc l wr cM cM ae ar.out;have r:=Pk wr l.length 0;have⟨n,M⟩:=ju (yr wr l.length 0);rw[<-M]at o r;rw[K]at o r;have ag:=Go.Lib.hid M;have z:=Go.Lib.hid K;clear M K;have ah:∀g,g=((wr.alloc (.cells #[] 3)).alloc (.cells (ii l n) 3)).drew->(g.heap[w.heap.size+1+1]? =some (fp ⟨none,0,0,f,j,true⟩)/\g.heap[w.heap.size+1]? =some (fp (dM []))/\Below w.heap.size w g/\fF g (wr.heap.size+1) (ii l n) 3/\g.drawn=wr.drawn+1/\g.tape=wr.tape):=by rintro g rfl;refine⟨(alloc_old _ _ rp).trans ((alloc_old _ _ cM).trans HO.out),(alloc_old _ _ rp).trans ((alloc_old _ _ cM).trans HR.out),((P.alloc cM _).alloc rp _).drew,?_,rfl,rfl⟩;have:=fY (wr.alloc (.cells #[] 3)) (.cells (ii l n) 3);rw[World.size_alloc]at this;exact this
  go_wp2_with (go_at_call 128;refine o.mono ?_;clear o;rintro e g ⟨rfl,ai⟩;have⟨au,y,av,aj,ak,al⟩:=ah g ai;clear ah ai;have⟨aJ,aK,aL,aM,aN,aO,aP,aQ⟩:=eS au;have⟨aR,aS,aT,aU,aV,aW,aX,aY⟩:=eS y);have aw:(g.setCell (dt (w.heap.size+1+1) 0) (eT (wr.heap.size+1) d.length n)).heap[w.heap.size+1]? =some (fp (dM [])):=(dA.Cr.fS _ _ _ _ dq).trans y;have I:=lV (s:=⟨some (dt (wr.heap.size+1) 0),d.length,n,f,j,true⟩) aw;have hB:Below w.heap.size w (jR (g.setCell (dt (w.heap.size+1+1) 0) (eT (wr.heap.size+1) d.length n)) (w.heap.size+1) ⟨some (dt (wr.heap.size+1) 0),d.length,n,f,j,true⟩):=lX (av.setCell (FE (mG _)) _) (mG _);have ax:(jR (g.setCell (dt (w.heap.size+1+1) 0) (eT (wr.heap.size+1) d.length n)) (w.heap.size+1) ⟨some (dt (wr.heap.size+1) 0),d.length,n,f,j,true⟩).heap[wr.heap.size+1]? =some (.cells (ii l n) 3):=
   (qP _ _ _ cM).trans ((dA.Cr.fS _ _ _ _ rp).trans aj)
  have⟨A,B,C,E,_⟩:=eS I;simp only[jR]at A B C E;have N:l≠[]:=by intro h;have:=z.out;rw[h]at this;simp at this;omega
  have a:eV D L d=some (l,f,j):=by have h6:(iO D L).take 6=iO D L:=yg (di _);have ha:=HA.out;have hm:=HM.out;have hs:=HS.out;rw[h6]at ha hm hs;unfold eV;rw[cS (by rw[ha];simp),<-hm,<-hs,HL.out]
  have am:n<2^63:=by rw[ag.out];exact Pm wr _ _ (by rw[z.out];omega)
  refine bodyPost_ret (v:=(SV.mk (pr (wr.heap.size+1) 0) d.length n f j true).val) (by simp[results,Tryz.results229,go_sem,A,B,C,E,SV.val]) rfl<|(show K6 D L d R w (.returned (SV.mk (pr (wr.heap.size+1) 0) d.length n f j true).val) (jR (g.setCell (dt (w.heap.size+1+1) 0) (eT (wr.heap.size+1) d.length n)) (w.heap.size+1) ⟨some (dt (wr.heap.size+1) 0),d.length,n,f,j,true⟩)from⟨_,rfl,?_,?_,hB,?_⟩);rw[a];exact⟨rfl,rfl,rfl,z.out.symm,.inr ⟨N,wr.heap.size+1,cM,rfl,z.out▸r,am,(0,0),λaZ h=>absurd h.2 (Nat.not_lt_zero _),ax⟩⟩;rw[a];intro l' m' k' h hl;cases h;refine⟨wr.drawn,by rw[X.out];omega,?_⟩;show n=_;have an:(jR (g.setCell (dt (w.heap.size+1+1) 0) (eT (wr.heap.size+1) d.length n)) (w.heap.size+1) ⟨some (dt (wr.heap.size+1) 0),d.length,n,f,j,true⟩).tape=wr.tape:=al;rw[an,ag.out];rfl;show w.drawn<=g.drawn;rw[ak,X.out];omega
def qR(T:Nat)(w:cJ)(e:dW)(a:Nat)(b:cN):Prop:=(e=none/\b=[]/\a=0)\/∃c d,e=some ⟨c,0,none⟩/\T<c/\w.heap[c]? =some (.cells d 3)/\d.size=a/\b.length<=a/\a<2^63/\(∀k (h:k<b.length),d[k]? =some (.int .i64 b[k]))
def qR.WS(h:qR m w a k l):K3 m w a k l:=by obtain h|⟨b,c,d,e,f,g,i,_,j⟩:=h;exact .inl h;exact .inr ⟨b,c,d,e,f,g,i,j⟩
structure Ej(T:Nat)(w:cJ)(ps:List Nat)(i:Nat)(pa:Option Addr)(pc:Nat)(v:cK)(w':cJ):Prop where
 val:∃SF WU,v=.slice SF (ps.length+1) WU/\qR T w' SF WU (ps++[i])/\(SF=pa\/∃b,w.heap.size<=b/\SF=some ⟨b,0,none⟩)
 os:w'.os=w.os
 tape:w'.tape=w.tape
 output:w'.output=w.output
 size:w.heap.size<=w'.heap.size
 block:∀b,b<w.heap.size->pa≠some ⟨b,0,none⟩->w'.heap[b]? =w.heap[b]?
 drawn:w.drawn<=w'.drawn
 old:qR T w' pa pc ps
 stay:∀b,pa=some ⟨b,0,none⟩->w.cell? ⟨b,ps.length,none⟩=some (.int .i64 i)->w'.heap[b]? =w.heap[b]?
def V.Pq:V.prog.info? 3=some Tryz.t3:=eE
def K8:Tryz.t3.zero=some (.int .i64 0):=eE
def uh:Tryz.t3.size=1:=eE
def GC(T:Nat)(w:cJ)(a:cN)(i:Nat)(F:dW)(q:Nat)(E:cR)(B:Nat)(K:qR T w F q a)(I:T<w.heap.size)(L:w.cell? ⟨B,0,none⟩=some (.int .i64 i))(S:a.length<65536):∃v J,(Builtin.append_ #[27,27] E #[.slice F a.length q,.slice (some ⟨B,0,none⟩) 1 1]).run V.prog w=.ok v J/\Ej T w a i F q v J:=by
 have d:∀j v,[Value.int .i64 i][j]? =some v->w.cell? (((dt B 0):Addr).add j)=some v:=by
  intro j v h;cases j with
  |zero=>cases h;exact L
  |succ j=>simp at h
 obtain⟨rfl,rfl,rfl⟩|⟨g,o,rfl,r,c,s,C,t,f⟩:=K;have A:=run_append_nil (P:=V.prog) w 27 E 3 _ _ V.yh V.Pq K8 (dt B 0) 1 1 [i64 i] (by rw[uh];rfl) d kg kg (by rw[wl];decide);refine⟨_,_,A,⟨_,_,rfl,.inr ⟨w.heap.size,_,rfl,I,fY w.drew _,?_,grownCap_ge ..,?_,?_⟩,.inr ⟨_,di _,rfl⟩⟩,rfl,rfl,rfl,?_,?_,?_,?_,?_⟩;have:=grownCap_ge w 1 0 3;simp[size_zeroCells,Value.cells];omega;have:=grownCap_le_maxLen w 1 0 3 kg;simp only[maxLen]at this;omega;intro k u;obtain rfl:k=0:=fB u;rw[DL dq];rfl;rw[World.size_alloc];exact mG _;intro b p _;exact alloc_old w.drew _ p;exact mG _;exact .inl ⟨rfl,rfl,rfl⟩;intro b p;cases p;have D:=dA.lt_of_heap c;by_cases l:a.length+1<=q;have x:∀j,j<[Value.int .i64 i].length->fF w g o 3/\j=0:=λj y=>⟨c,fB y⟩
 have A:=run_append_room_cells (P:=V.prog) w 27 E 3 _ V.yh V.Pq g 0 a.length q (dt B 0) 1 1 [i64 i] (by rw[uh];rfl) d (by simp[Value.oneCell']) l
  (λj y=>by obtain⟨_,rfl⟩:=x j y;have:a.length<o.size:=cM;simp[World.cell?,c,uh,this])
  (λj y=>by simp[World.frozen?,c])
 have M:w.setCells g (0+a.length*Tryz.t3.size) [i64 i]=w.setCell (dt g a.length) (i64 i):=by rw[uh];simp[World.setCells]
 rw[M]at A;refine⟨_,_,A,⟨_,_,rfl,.inr ⟨g,o.set! a.length (i64 i),rfl,r,?_,?_,?_,t,?_⟩,.inl rfl⟩,rfl,rfl,rfl,?_,?_,di _,?_,?_⟩;simp[World.setCell,nL,c];simpa using s;simpa using l;intro k u;have:a.length<o.size:=cM;by_cases h:k<a.length;have G:=f k h;have m:a.length≠k:=cM;simp only[Array.set!_eq_setIfInBounds];rw[gd m,G,nm h];obtain rfl:k=a.length:=by simp at u;omega
 simp[this];simp[World.setCell];intro b p m;exact dA.Cr.fS _ _ _ _ (by rintro rfl;exact m rfl);refine .inr ⟨g,o.set! a.length (i64 i),rfl,r,?_,fB s,C,t,λk u=>?_⟩;simp[World.setCell,nL,c];have m:a.length≠k:=cM;simp only[Array.set!_eq_setIfInBounds];rw[gd m];exact f k u;intro b p N;obtain rfl:g=b:=dH Addr.block (dT p);have H:a.length<o.size:=cM;have O:o[a.length]? =some (i64 i):=by simpa[World.cell?,c]using N
 have Q:o.setIfInBounds a.length (i64 i)=o:=Ot λj=>by by_cases e:a.length=j;subst e;rw[ou H,O];rw[gd e]
 simp[World.setCell,nL,c,Q]
 have z:∀j v,(a.map λn=>Value.int .i64 (n:Nat))[j]? =some v->w.cell? (((dt g 0):Addr).add j)=some v:=by
  intro j v h;have y:j<a.length:=by have:=(nk.1 h).1;simpa using this
  have G:=f j y;rw[yf,ft y]at h;rw[Addr.add_lit];simp only[World.cell?,c,dn];rw[G];exact h
 have A:=run_append_grow (P:=V.prog) w 27 E 3 _ _ V.yh V.Pq K8 (dt g 0) a.length q (a.map λn=>Value.int .i64 (n:Nat)) (by rw[uh];simp) z (dt B 0) 1 1 [i64 i] (by rw[uh];rfl) d cM cM (growslice_fits cM (by rw[wl];omega));refine⟨_,_,A,⟨_,_,rfl,.inr ⟨w.heap.size,_,rfl,I,fY w.drew _,?_,?_,?_,?_⟩,.inr ⟨_,di _,rfl⟩⟩,rfl,rfl,rfl,?_,?_,?_,?_,?_⟩;have:=grownCap_ge w (a.length+1) q 3;simp[size_zeroCells,Value.cells];omega;have:=grownCap_ge w (a.length+1) q 3;simpa using this;have:=grownCap_le_maxLen w (a.length+1) q 3 (by simp only[maxLen];omega);simp only[maxLen]at this;omega;intro k u;have R:k<a.length+1:=fB u;by_cases h:k<a.length;rw[DL rp,DL (fB h)];simp[h];obtain rfl:k=a.length:=cM;rw[DL dq,DM dq];simp;rw[World.size_alloc];exact mG _;intro b p _;exact alloc_old w.drew _ p;exact mG _;exact .inr ⟨g,o,rfl,r,(alloc_old w.drew _ D).trans c,s,C,t,f⟩;intro b p _;obtain rfl:g=b:=dH Addr.block (dT p);exact alloc_old w.drew _ D
structure dz(F:Nat->Prop)(w w':cJ):Prop where
 os:w'.os=w.os
 tape:w'.tape=w.tape
 output:w'.output=w.output
 size:w.heap.size<=w'.heap.size
 drawn:w.drawn<=w'.drawn
 block:∀b,b<w.heap.size->¬F b->w'.heap[b]? =w.heap[b]?
theorem dz.refl(F:dp)(w:cJ):dz F w w:=⟨rfl,rfl,rfl,di _,di _,λ_ _ _=>rfl⟩
theorem dz.trans{F G H:dp}(h:dz F w t)(k:dz G t e)(c:∀x,x<w.heap.size->F x->H x)(d:∀x,x<w.heap.size->G x->H x):dz H w e:=
 ⟨k.os.trans h.os,k.tape.trans h.tape,k.output.trans h.output,du h.size k.size,du h.drawn k.drawn,λx a b=>(k.block x (ew a h.size) λg=>b (d x a g)).trans (h.block x a λf=>b (c x a f))⟩
theorem dz.alloc(h:dz A w t)(o:Obj):dz A w (t.alloc o):=
 ⟨h.os,h.tape,h.output,by rw[World.size_alloc];exact FE h.size,h.drawn,λx a b=>(alloc_old t o (ew a h.size)).trans (h.block x a b)⟩
theorem dz.setCell(h:dz A w t)(a:Addr)(v:cK)(d:a.block<w.heap.size->A a.block):dz A w (t.setCell a v):=
 ⟨h.os,h.tape,h.output,by simpa[World.setCell]using h.size,h.drawn,λx b c=>(dA.Cr.fS _ _ _ _ (by rintro rfl;exact c (d b))).trans (h.block x b c)⟩
def Ej.keep(h:Ej m w l i a k x t):dz (λb=>a=some ⟨b,0,none⟩) w t:=
 ⟨h.os,h.tape,h.output,h.size,h.drawn,h.block⟩
def dz.cell(h:dz A w t){x o:Nat}(a:x<w.heap.size)(b:¬A x):t.cell? ⟨x,o,none⟩=w.cell? ⟨x,o,none⟩:=by simp only[World.cell?,h.block x a b]
def j6.len{d:Type}{E:cJ->cK->d->Prop}{l:List d}(h:j6 A E z T w x l):∃a c,x=.slice a l.length c:=by obtain⟨rfl,rfl⟩|⟨b,c,f,g,i,e,j,k,m,n,o⟩:=h;exact⟨_,_,rfl⟩;exact⟨_,_,e⟩
def j6.at_{a:Type}{E:cJ->cK->a->Prop}{l:List a}(h:j6 A E z T w x l)(k:Nat)(d:k<l.length):∃b c u,x=.slice (some ⟨b,0,none⟩) l.length c/\A b/\w.cell? ⟨b,k,none⟩=some u/\E w u l[k]:=by obtain⟨rfl,rfl⟩|⟨b,c,n,o,e,f,g,p,q,i,r⟩:=h;cases d;have⟨u,j,m⟩:=i k d;exact⟨b,c,u,f,e,by simp only[World.cell?,g];exact j,m⟩
def fj(a:Nat)(c:dW)(d e:Nat)(L:Nat->Nat)(y:SV):Obj:=
 .cells #[.pointer (some ⟨a,0,none⟩),.slice c d e,.int .u8 (L 0),.int .u8 (L 1),.int .u8 (L 2),.int .u8 (L 3),.int .u8 (L 4),.int .u8 (L 5),.slice y.sa y.sl y.sc,.int .i64 y.m,.int .i64 y.k,.bool y.b] 245
def jq{L:Nat->Nat}{y:SV}(h:w.heap[m]? =some (fj k a i j L y)):w.cell? ⟨m,0,none⟩=some (.pointer (some ⟨k,0,none⟩))/\w.cell? ⟨m,1,none⟩=some (.slice a i j)/\(∀s,s<6->w.cell? ⟨m,2+s,none⟩=some (.int .u8 (L s)))/\y8 w m 8 y/\∀o,w.frozen? ⟨m,o,none⟩=false:=by refine⟨by simp[World.cell?,h,fj],by simp[World.cell?,h,fj],?_,?_,λo=>by simp[World.frozen?,h,fj]⟩;intro s b;have:s=0\/s=1\/s=2\/s=3\/s=4\/s=5:=cM;obtain rfl|rfl|rfl|rfl|rfl|rfl:=this<;>simp[World.cell?,h,fj];simp[y8,World.cell?,h,fj]
def Ji(L:Nat->Nat)(s v:Nat):Nat->Nat:=λx=>if x=s then v else L x
def j7(d:Nat)(l:cN)(L:Nat->Nat):Nat->Nat:=λs=>if s∈l then oi (L s) d else L s
def SG:∀x,x<32->∀d,d<5->oi (oi x d) d=oi x d:=by decide+kernel
def Em{L:Nat->Nat}(c:d<5)(a:∀s,s<6->L s<32):∀s,s<6->j7 d l L s<32:=by intro s b;unfold j7;split;exact Ei _ (a s b) _ c;exact a s b
theorem CL{L:Nat->Nat}(c:d<5)(e:∀s,s<6->L s<32)(k:Nat)(f:k<l.length)(g:l[k]<6):Ji (j7 d (l.take k) L) l[k] (oi (j7 d (l.take k) L l[k]) d)=j7 d (l.take (k+1)) L:=by
 funext s;have a:∀s,s∈l.take (k+1)↔s∈l.take k\/s=l[k]:=λs=>by rw[mN _ _ f];exact List.mem_append.trans (or_congr qF jE)
 unfold Ji j7;by_cases b:s=l[k];subst b;rw[cV rfl,cV ((a _).2 (.inr rfl))];split;exact SG _ (e _ g) _ c;rfl;rw[cS b];by_cases h:s∈l.take k;rw[cV h,cV ((a _).2 (.inl h))];rw[cS h,cS λi=>((a _).1 i).elim h b]
structure Ext(w w':cJ):Prop where
 os:w'.os=w.os
 tape:w'.tape=w.tape
 output:w'.output=w.output
 size:w.heap.size<=w'.heap.size
 drawn:w.drawn<=w'.drawn
 block:∀b,b<w.heap.size->w'.heap[b]? =w.heap[b]?
theorem Ext.refl(w:cJ):Ext w w:=⟨rfl,rfl,rfl,di _,di _,λ_ _=>rfl⟩
def fL{v:cK}{w:cJ}:v=v/\Ext w w:=⟨rfl,Ext.refl _⟩
theorem Ext.trans{a b c:cJ}(h:Ext a b)(k:Ext b c):Ext a c:=
 ⟨k.os.trans h.os,k.tape.trans h.tape,k.output.trans h.output,du h.size k.size,du h.drawn k.drawn,λx d=>(k.block x (ew d h.size)).trans (h.block x d)⟩
theorem Ext.drew(w:cJ):Ext w w.drew:=⟨rfl,rfl,rfl,di _,mG _,λ_ _=>rfl⟩
theorem Ext.alloc(w:cJ)(o:Obj):Ext w (w.alloc o):=⟨rfl,rfl,rfl,dq,di _,λx a=>alloc_old w o a⟩
def Ext.keep{w a:cJ}(h:Ext w a)(F:dp):dz F w a:=⟨h.os,h.tape,h.output,h.size,h.drawn,λb c _=>h.block b c⟩
def dz.ext{w a:cJ}{F:dp}(h:dz F w a)(d:∀b,b<w.heap.size->¬F b):Ext w a:=⟨h.os,h.tape,h.output,h.size,h.drawn,λb c=>h.block b c (d b c)⟩
def Ext.cell{w c:cJ}(e:Ext w c){v:cK}(d:w.cell? h=some v):c.cell? h=some v:=by
 have a:h.block<w.lG:=by refine zN λb=>?_;have:w.heap[h.block]? =none:=vM b;simp[World.cell?,this]at d
 exact(Go.Proofs.W.iy (e.block _ a)).trans d
def Ext.at_{w a:cJ}(h:Ext w a){b:Nat}(c:w.heap[b]? =some O):a.heap[b]? =some O:=(h.block b (dA.lt_of_heap c)).trans c
theorem kS(a:Act)(j:Nat):a.eval (.tmp j)=(a.tmps[j]?).getD undef:=by show a.tmps.getD j gU=_;simp
theorem GD(a:Act)(d j:Nat)(v:cK)(h:d≠j):(a.put (some d) v).eval (.tmp j)=a.eval (.tmp j):=by rw[kS,kS];simp only[Act.put];grind
def B2(a:Act)(d:Nat)(v:cK)(h:d<a.tmps.size):(a.put (some d) v).eval (.tmp d)=v:=by rw[kS];simp only[Act.put];grind
theorem tl(a:Act)(d:Option Nat)(j:Nat)(v:cK)(h:d≠some j):(a.put d v).eval (.tmp j)=a.eval (.tmp j):=by
 cases d with
 |none=>rfl
 |some d=>grind [GD]
theorem xo(a:Act)(d:Nat)(v:cK)(h:d<a.tmps.size):(a.put (some d) v).eval (.tmp d)=v:=B2 a d v h
theorem uD(a:Act)(d:Option Nat)(v:cK):(a.put d v).tmps.size=a.tmps.size:=by cases d<;>simp[Act.put]
theorem y9(a:Act)(d:Option Nat)(v:cK):(a.put d v).defers=a.defers:=by cases d<;>rfl
def waits(ops:Array Oper)(k j:Nat):Bool:=match ops[k]? with
 |some o=>o.after.any λe=>e.on==j&&Region.binds .any e
 |none=>false
def wrote(ops:Array Oper)(j:Nat):Bool:=ops.any λo=>o.dst==some j
structure gH(E:cJ->cJ->Prop):Prop where
 refl:∀w,E w w
 trans:∀a b c,E a b->E b c->E a c
 drew:∀w,E w w.drew
def dD:gH Ext:=⟨Ext.refl,λ_ _ _=>Ext.trans,Ext.drew⟩
def ij(F:dp):gH (dz F):=⟨dz.refl F,λ_ _ _ h k=>h.trans k (λ_ _ h=>h) λ_ _ h=>h,λw=>(Ext.drew w).keep F⟩
section
variable{P:cU}{ops:Array Oper}{Q:Exit->Act->cJ->Prop}{a0:Act}{w0:cJ}{N m:Nat}{za:Nat->cK->cJ->Prop}{E:cJ->cJ->Prop}
theorem iX(L:Array Bool)(i j:Nat)(h:i<L.size):(L.setIfInBounds i true).getD j false=if i=j then true else L.getD j false:=by by_cases e:i=j;subst e;simp[h];simp[IE,gd e,e]
def Ap{i:Nat}{o:Oper}{a:Act}{w:cJ}{K:Act->dC}(f:dZ)(b:eH)(g:ops[i]? =some o)(h:o.guard=none)(j:(execOp a.eval o).run P w=.ok (.enter f b) w)
 (k:Calls P f b w λe d=>(∃v,e=.returned v/\K (a.put o.dst v) d)\/∃c,e=.panicked c/\Q (.panic c) a d):wpOp P ops Q i K a w:=by
 have l:Region.wanted o (yielded ops a.tmps)=true:=by simp[Region.wanted,h]
 unfold wpOp;rw[g];simp only[l,em];refine .inl ?_;unfold Oper.wp;rw[j];refine k.mono ?_;grind
end
def SH(E:cJ->dC)(p:nu):Prop:=∀v w a,p v w->E w a->p v a
def infoAt(ops:Array Oper)(i:Nat):Option (Op×Option (Nat×Bool)):=(ops[i]?).map λo=>(o.op,o.guard)
def MB{ops:Array Oper}{i:Nat}{o:Oper}{a:Op}{g:Option (Nat×Bool)}(b:ops[i]? =some o)(h:infoAt ops i=some (a,g)):o.op=a/\o.guard=g:=by grind [Option.some.injEq,Prod.mk.injEq,infoAt]
def Aq{ops:Array Oper}{i:Nat}{o:Oper}{d:Option Tmp}(a:ops[i]? =some o)(h:((ops[i]?).map (·.dst))=some d):o.dst=d:=by grind
def xp{ops:Array Oper}{n:Nat}(i:Nat)(h:ops.size=n)(a:i<n):∃o,ops[i]? =some o:=⟨_,nh cM⟩
def boxed(n:Nat)(b:eH)(t:cR):nu:=λv w=>∃a,v=.pointer (some ⟨a,0,none⟩)/\n<=a/\w.heap[a]? =some (.cells b t)
def Jj(n:Nat)(a:eH)(t:cR):SH Ext (boxed n a t):=λ_ _ _ ⟨b,c,d,e⟩ f=>⟨b,c,d,f.at_ e⟩
def dz.fe{F:dp}{w c:cJ}(e:dz F w c){v:cK}(d:w.cell? h=some v)(f:¬F h.block):c.cell? h=some v:=by
 have a:h.block<w.lG:=by refine zN λb=>?_;have:w.heap[h.block]? =none:=vM b;simp[World.cell?,this]at d
 exact(Go.Proofs.W.iy (e.block _ a f)).trans d
def dz.fN{F:dp}{w a:cJ}(h:dz F w a){b:Nat}(c:w.heap[b]? =some O)(d:¬F b):a.heap[b]? =some O:=(h.block b (dA.lt_of_heap c) d).trans c
section
variable{P:cU}{Q:Exit->Act->cJ->Prop}{a:Act}{w:cJ}
def GF{p:dp}(h:∃k,p k):∃k,p k/\∀j,p j->k<=j:=by
 have⟨k,d⟩:=h;induction k using Nat.strongRecOn with
 |_ k e=>
  by_cases c:∃j,p j/\j<k;have⟨j,b,a⟩:=c;exact e j a b;exact⟨k,d,λj b=>Nat.le_of_not_lt λa=>c ⟨j,b,a⟩⟩
def nY{c:Code}(I:Nat->Act->dC)(n:Nat)(o:I n a w)
 (b:∀k a w,I k a w->c.wp P (Exit.then (λl m=>∃f,f<k/\I f l m) Q) a w):(Code.loop c).wp P Q a w:=by
 let g:Act->cJ->Nat:=λa w=>by classical exact if h:∃k,I k a w then Classical.choose (GF h)else 0
 have i:∀a w,(∃k,I k a w)->I (g a w) a w/\∀j,I j a w->g a w<=j:=by intro a w h;have:=jG (GF h);simp only[g,h,dif_pos];exact this
 refine wp_loop (λa w=>∃k,I k a w) g ⟨n,o⟩ λa w p=>?_;have⟨q,s⟩:=i a w p;refine lL (b (g a w) a w q) λe l m h=>?_;cases e with
 |normal=>
  have⟨f,r,d⟩:=h;exact⟨⟨f,d⟩,Nat.lt_of_le_of_lt ((i l m ⟨f,d⟩).2 f d) r⟩
 |_=>exact h
end
noncomputable def CM(a:eH)(n:Nat):Act:=⟨a++Array.replicate (n-a.size) undef,[]⟩
def vf(a:eH)(n:Nat)(h:a.size<=n):(CM a n).tmps.size=n:=by simp[CM];omega
def Ar(a:eH)(n i:Nat)(v:cK)(h:a[i]? =some v):(CM a n).eval (.tmp i)=v:=by have b:i<a.size:=(iS.1 h).1;rw[kS];show((a++Array.replicate (n-a.size) gU)[i]?).getD gU=v;rw[DL b,h];rfl
def Pr{P:cU}{b:Func}{c:Code}{w:cJ}{R:Ending->dC}(n:Nat) (e:P.funcs[K]? =some b)(f:b.body=some c)(g:b.ntmps=n)(h:∀a:Act,a.tmps.size=n->a.defers=[]->(∀i v,W[i]? =some v->a.eval (.tmp i)=v)->c.wp P (bodyPost P b R) a w)(d:W.size<=n):Calls P K W w R:=by refine calls_of_wp e f ?_;rw[g];exact h (CM W n) (vf _ _ d) rfl λi v j=>Ar _ _ _ _ j
def zb{P:cU}{b:Func}{c:Code}{w:cJ}{R:Ending->dC}(n:Nat) (e:P.funcs[K]? =some b)(f:b.body=some c)(g:b.ntmps=n)(h:∀a:Act,a.tmps.size=n->a.defers=[]->(∀i v,W[i]? =some v->a.eval (.tmp i)=v)->c.wp P (bodyPostD P b R) a w)(d:W.size<=n):Calls P K W w R:=by refine calls_of_wp_defers e f ?_;rw[g];exact h (CM W n) (vf _ _ d) rfl λi v j=>Ar _ _ _ _ j
def lz(b x:Sp):Sp:=if nd x b then x else b
def kY(l c:eY)(m k a b:Int):nd (some (l,m,k)) (some (c,a,b))=decide (m<a\/m=a/\k<b):=by simp only[nd];by_cases h:m=a;subst h;simp;simp[h]
def lP(x:Sp):lz none x=x:=by cases x<;>simp[lz,nd]
def GG(a b c:Sp):lz (lz a b) c=lz a (lz b c):=by obtain _|⟨l,m,k⟩:=a;simp only[lP];obtain _|⟨o,f,i⟩:=b;have:lz (some (l,m,k)) none=some (l,m,k):=rfl;rw[this,lP];obtain _|⟨n,d,e⟩:=c;rfl;simp only[lz,kY,kM];by_cases h:f<m\/f=m/\i<k;by_cases g:d<f\/d=f/\e<i;have j:d<m\/d=m/\e<k:=cM;simp[h,g,j,kY];simp[h,g,kY];by_cases g:d<f\/d=f/\e<i;simp[h,g,kY];have j:¬(d<m\/d=m/\e<k):=cM;simp[h,g,j,kY]
def MC(l:List Sp):qi l=l.foldl lz none:=by
 cases l with
 |nil=>rfl
 |cons x a=>
  rw[jP,lP];rfl
theorem vg{c:Type}(f:Sp->c->Sp)(a:∀b i,f b i=lz b (f none i)):∀(l:List c) (b:Sp),l.foldl f b=lz b (l.foldl f none)
 |[],b=>by cases b<;>rfl
 |i::l,b=>by rw[jP,jP,vg f a l (f b i),vg f a l (f none i),a b i,GG]
def gi(D:eR)(k:Nat):Nat:=D.opn.getD k 0
def ek(D:eR)(k:Nat):List cN:=D.lists.getD k []
def eI(D:eR):Nat->cN->(Nat->Nat)->Sp->Sp
 |0,c,L,a=>lz a (eV D L c)
 |n+1,c,L,a=>(List.range (ek D c.length).length).foldl (λb i=>eI D n (c++[i]) (j7 (gi D c.length) ((ek D c.length).getD i []) L) b) a
theorem qj(D:eR):∀(n:Nat) (a:cN) (L:Nat->Nat) (b:Sp),eI D n a L b=lz b (eI D n a L none)
 |0,a,L,b=>by simp only[eI,lP]
 |n+1,a,L,b=>by simp only[eI];exact vg (λb i=>eI D n (a++[i]) (j7 (gi D a.iw) ((ek D a.iw).getD i []) L) b) (λb i=>qj D n _ _ b) _ b
def L0:Nat->Nat:=λ_=>0
def gO(D:eR):Sp:=eI D D.opn.length [] L0 none
def GH(D:eR)(i:Nat):Sp:=eI D (D.opn.length-1) [i] (j7 (gi D 0) ((ek D 0).getD i []) L0) none
def Jk(D:eR)(h:0<D.opn.length):gO D=qi ((List.range (ek D 0).length).map (GH D)):=by rw[MC,List.foldl_map];unfold gO;have⟨m,a⟩:∃m,D.opn.length=m+1:=⟨D.opn.length-1,cM⟩;rw[a];simp only[eI,fP];congr 1;funext b i;rw[qj];simp only[GH,a,Nat.add_sub_cancel,qI]
def oM(d:Nat)(l:cN)(L:Nat->Nat):Nat->Nat:=λs=>if s∈l then tk (L s) d else L s
def MD:∀x,x<32->∀d,d<5->tk (tk x d) d=tk x d:=by decide+kernel
def Ps:∀x,x<32->∀d,d<5->tk x d=x->tk (oi x d) d=x:=by decide+kernel
theorem GI:∀x,x<32->∀d,d<5->∀a,a<5->d≠a->tk x a=x->tk (oi x d) a=oi x d:=by decide+kernel
def GJ{L:Nat->Nat}(c:d<5)(a:∀s,s<6->L s<32):∀s,s<6->oM d l L s<32:=by intro s b;unfold oM;split;exact SD _ (a s b) _ c;exact a s b
def Jl{L:Nat->Nat}(c:d<5)(e:∀s,s<6->L s<32)(k:Nat)(f:k<l.length)(g:l[k]<6):Ji (oM d (l.take k) L) l[k] (tk (oM d (l.take k) L l[k]) d)=oM d (l.take (k+1)) L:=by
 funext s;have a:∀s,s∈l.take (k+1)↔s∈l.take k\/s=l[k]:=λs=>by rw[mN _ _ f];exact List.mem_append.trans (or_congr qF jE)
 unfold Ji oM;by_cases b:s=l[k];subst b;rw[cV rfl,cV ((a _).2 (.inr rfl))];split;exact MD _ (e _ g) _ c;rfl;rw[cS b];by_cases h:s∈l.take k;rw[cV h,cV ((a _).2 (.inl h))];rw[cS h,cS λi=>((a _).1 i).elim h b]
def GK{L:Nat->Nat}(b:d<5)(c:∀s,s<6->L s<32)(e:∀s,s<6->tk (L s) d=L s):∀s,s<6->oM d l (j7 d l L) s=L s:=by intro s a;unfold oM j7;split;exact Ps _ (c s a) _ b (e s a);rfl
structure zv(N:Nat->Prop)(pb T:Nat)(D:eR)(w:cJ)(ps:List Nat)(pa:Option Addr)(pc:Nat)(L:Nat->Nat)(y:SV):Prop where
 plan:fZ N pb D w
 sep:∀b,N b->b<w.heap.size/\b≠T/\pa≠some ⟨b,0,none⟩
 at_:w.heap[T]? =some (fj pb pa ps.length pc L y)
 own:qR T w pa pc ps
 lt:∀s,s<6->L s<32
 free:∀s,s<6->∀j,ps.length<=j->j<D.opn.length->tk (L s) (gi D j)=L s
 len:ps.length<=D.opn.length
 bare:D.opn.length=0->pa=none
structure jk(N:Nat->Prop)(pb T:Nat)(D:eR)(m0 j0:Nat)(w:cJ)(ps:List Nat)(pa:Option Addr)(pc:Nat)(L:Nat->Nat)(y:SV)(s:Sp):Prop where
 t:zv N pb T D w ps pa pc L y
 sched:dS (λb=>m0<=b/\b≠T/\pa≠some ⟨b,0,none⟩) w s y
 cap:yu j0 w s y
 size:m0<=w.heap.size
 drawn:j0<=w.drawn
def GO(N:dp)(h T:Nat)(D:eR)(i j:Nat)(w:cJ)(k:cN)(d:dW)(L:Nat->Nat)(s:Sp)(e:Ending)(f:cJ):Prop:=
 e=.returned undef/\∃a c g l,jk N h T D i j f k a c g l s/\(∀s,s<6->g s=L s)/\dz (λb=>b=T\/d=some ⟨b,0,none⟩) w f/\(a=d\/∃b,w.heap.size<=b/\a=some ⟨b,0,none⟩)
def SI:SV:=⟨none,0,0,0,0,false⟩
def GP:Prop:=∀(N:dp) (b T:Nat) (D:eR) (c d:Nat) (w:cJ) (a:cN) (e:dW) (f:Nat) (L:Nat->Nat) (y:SV) (s:Sp) (i:Nat),jk N b T D c d w a e f L y s->a.length<D.opn.length->i<(ek D a.length).length->Calls V.prog 190 #[.pointer (some ⟨T,0,none⟩),.int .i64 i] w (GO N b T D c d w a e L (eI D (D.opn.length-a.length-1) (a++[i]) (j7 (gi D a.length) ((ek D a.length).getD i []) L) s))
def Pt:Prop:=∀(N:dp) (b T:Nat) (D:eR) (c d:Nat) (w:cJ) (a:cN) (e:dW) (f:Nat) (L:Nat->Nat) (y:SV) (s:Sp),jk N b T D c d w a e f L y s->Calls V.prog 216 #[.pointer (some ⟨T,0,none⟩)] w (GO N b T D c d w a e L (eI D (D.opn.length-a.length) a L s))
def vh{a:Addr}(h:w.cell? a=some x):a.block<w.heap.size:=by refine zN λb=>?_;have:w.heap[a.block]? =none:=vM b;simp[World.cell?,this]at h
structure SJ(T:Nat)(ps:List Nat)(i:Nat)(pa:Option Addr)(pc:Nat)(w w':cJ):Prop where
 keep:dz (λb=>pa=some ⟨b,0,none⟩) w w'
 own:qR T w pa pc ps->qR T w' pa pc ps
 stay:∀b,pa=some ⟨b,0,none⟩->w.cell? ⟨b,ps.length,none⟩=some (.int .i64 i)->w'.heap[b]? =w.heap[b]?
section
variable{T:Nat}{ps:List Nat}{i:Nat}{pa:Option Addr}{pc:Nat}
def qR.ext(h:qR T w pa pc ps)(e:∀b,b<w.heap.size->pa=some ⟨b,0,none⟩->t.heap[b]? =w.heap[b]?):qR T t pa pc ps:=by obtain h|⟨a,f,c,g,d,i⟩:=h;exact .inl h;exact .inr ⟨a,f,c,g,(e a (dA.lt_of_heap d) c).trans d,i⟩
def As(h:Ext w t):SJ T ps i pa pc w t:=⟨h.keep _,λa=>a.ext λb c _=>h.block b c,λb _ d=>h.block b (vh d)⟩
def SK:gH (SJ T ps i pa pc):=by refine⟨λw=>As (Ext.refl w),λa b c h k=>⟨h.keep.trans k.keep (λ_ _ h=>h) (λ_ _ h=>h),λg=>k.own (h.own g),λx d e=>?_⟩,λw=>As (Ext.drew w)⟩;have f:=h.stay x d e;exact(k.stay x d ((Go.Proofs.W.iy (ad:=(dt x ps.iw)) f).trans e)).trans f
def picked(i:Nat)(w:cJ)(v:cK)(a:cJ):Prop:=∃B,v=.slice (some ⟨B,0,none⟩) 1 1/\w.heap.size<=B/\a.heap[B]? =some (.cells #[.int .i64 i] 3)
def GQ(a:∀b,pa=some ⟨b,0,none⟩->b<w.heap.size):SH (SJ T ps i pa pc) (picked i w):=λv h j ⟨B,c,d,e⟩ f=>
 ⟨B,c,d,f.keep.fN e λg=>iI (a B g)⟩
def Au(T:Nat)(ps:cN)(i:Nat)(pa:dW)(w:cJ)(v:cK)(d:cJ):Prop:=
 ∃a c,v=.slice a (ps.length+1) c/\qR T d a c (ps++[i])/\(a=pa\/∃b,w.heap.size<=b/\a=some ⟨b,0,none⟩)
def B3(a:∀b,pa=some ⟨b,0,none⟩->b<w.heap.size):SH (SJ T ps i pa pc) (Au T ps i pa w):=by rintro v t u ⟨c,d,m,e,j⟩ k;refine⟨c,d,m,?_,j⟩;obtain⟨_,e,_⟩|⟨f,n,g,o,h,p,q,r,l⟩:=e;simp at e;refine .inr ⟨f,n,g,o,?_,p,q,r,l⟩;obtain rfl|⟨b,x,rfl⟩:=j;refine(k.stay f g ?_).trans h;have:=l ps.iw dq;simp only[World.cell?,h];rw[this];simp;obtain rfl:b=f:=dH Addr.block (dT g);exact k.keep.fN h λs=>iI (a b s)
end
def dS.grow{w w1:cJ}{s:Sp}{y:SV}(q:∀b g a,A b->w.heap[b]? =some (.cells g 3 a)->w1.heap[b]? =some (.cells g 3 a))(h:dS A w s y):dS A w1 s y:=by
 cases s with
 |none=>exact h
 |some s=>
  have⟨l,m,k⟩:=s;obtain⟨i,j,n,o,c|⟨c,d,p,r,t,u,a,e,f⟩⟩:=h;exact⟨i,j,n,o,.inl c⟩;exact⟨i,j,n,o,.inr ⟨c,d,p,r,t,u,a,e,q _ _ _ p f⟩⟩
def dS.imp{o o':dp}{s:Sp}{y:SV}(p:∀b q c,o b->w.heap[b]? =some (.cells q 3 c)->o' b)(h:dS o w s y):dS o' w s y:=by
 cases s with
 |none=>exact h
 |some s=>
  have⟨l,m,k⟩:=s;obtain⟨g,i,j,n,d|⟨d,e,r,t,u,v,c,f,a⟩⟩:=h;exact⟨g,i,j,n,.inl d⟩;exact⟨g,i,j,n,.inr ⟨d,e,p _ _ _ r a,t,u,v,c,f,a⟩⟩
def dS.move{o o':dp}{w w1:cJ}{s:Sp}{y:SV}(i:∀b a c,o b->w.heap[b]? =some (.cells a 3 c)->o' b/\w1.heap[b]? =some (.cells a 3 c))(h:dS o w s y):dS o' w1 s y:=
 ((h.imp (o':=λb=>∃a c,o b/\w.heap[b]? =some (.cells a 3 c)) λb a c d e=>⟨a,c,d,e⟩).grow (w1:=w1) λb a c ⟨_,_,d,_⟩ e=>(i b a c d e).2).imp λb a c ⟨f,g,d,e⟩ _=>(i b f g d e).1
def dS.ext{s:Sp}{y:SV}(a:Ext w t)(h:dS A w s y):dS A t s y:=h.grow λ_ _ _ _ h=>a.at_ h
theorem yu.tape{s:Sp}{y:SV}(a:t.tape=w.tape)(h:yu m w s y):yu m t s y:=λl b k c d=>by have⟨j,f,e⟩:=h l b k c d;exact⟨j,f,by rw[a];exact e⟩
def En(D:eR)(L:Nat->Nat)(a:cN)(d:Nat)(w:cJ)(v:cK)(c:cJ):Prop:=∃y:SV,v=y.val/\dS (λb=>w.heap.size<=b) c (eV D L a) y/\yu d c (eV D L a) y
def GR{D:eR}{L:Nat->Nat}:SH Ext (En D L l m w):=λ_ _ _ ⟨y,b,c,d⟩ a=>⟨y,b,c.ext a,d.tape a.tape⟩
theorem tn:∀(a:dP) (w:cJ) (b o:Nat) (e:eH) (t:cR) (g:Nat×Nat),w.heap[b]? =some (.cells e t g)->o+a.length<=e.size->(w.setCells b o a).os=w.os/\(w.setCells b o a).tape=w.tape/\(w.setCells b o a).output=w.output/\(w.setCells b o a).drawn=w.drawn/\(w.setCells b o a).heap.size=w.heap.size/\(∀c,c≠b->(w.setCells b o a).heap[c]? =w.heap[c]?)/\∃d,(w.setCells b o a).heap[b]? =some (.cells d t g)/\d.size=e.size/\(∀j,j<o->d[j]? =e[j]?)/\(∀j,j<a.length->d[o+j]? =a[j]?)/\∀j,o+a.length<=j->d[j]? =e[j]?
 |[],w,b,o,e,t,g,h,n=>⟨rfl,rfl,rfl,rfl,rfl,λ_ _=>rfl,e,h,rfl,λ_ _=>rfl,λj f=>by simp at f,λ_ _=>rfl⟩
 |v::a,w,b,o,e,t,g,h,n=>by
  have i:o+1+a.length<=e.size:=by simp at n;omega
  have r:(w.setCell (dt b o) v).heap[b]? =some (.cells (e.setIfInBounds o v) t g):=by simp[World.setCell,nL,h]
  have⟨s,u,x,y,z,A,d,B,C,p,k,l⟩:=tn a (w.setCell (dt b o) v) b (o+1) (e.setIfInBounds o v) t g r (fB i);have m:o<e.size:=cM;refine⟨s,u,x,y,by rw[show(w.setCells b o (v::a))=(w.setCell (dt b o) v).setCells b (o+1) a from rfl,z];simp[World.setCell],λc q=>?_,d,B,fB C,λj f=>?_,λj f=>?_,λj f=>?_⟩;exact(A c q).trans (dA.Cr.fS _ _ _ _ q);rw[p j cM,gd cM];cases j with
  |zero=>rw[p (o+0) cM];simp[m]
  |succ j=>
   have:=k j (by simp at f;omega);rw[show o+(j+1)=o+1+j by omega,this];simp
  rw[l j (by simp at f;omega),gd (by simp at f;omega)]
def dg(g:Nat)(t:cR)(e:dP)(w:cJ)(v:cK)(a:Nat)(f:dP):Prop:=
 f.length=a*e.length/\((a=0/\v=.slice none 0 0)\/∃b c d,g<=b/\v=.slice (some ⟨b,0,none⟩) a c/\w.heap[b]? =some (.cells d t)/\d.size=c*e.length/\a<=c/\c<2^63/\(∀j,j<f.length->d[j]? =f[j]?)/\∀j,f.length<=j->j<d.size->d[j]? =e[j%e.length]?)
def cW(v:cK)(b:Nat):Prop:=∃l c,v=.slice (some ⟨b,0,none⟩) l c
def dg.keep(h:dg m T M w x k Y)(e:dz A w t)(f:∀b,cW x b->¬A b):dg m T M t x k Y:=by obtain⟨a,h|⟨b,c,g,i,d,j,l⟩⟩:=h;exact⟨a,.inl h⟩;exact⟨a,.inr ⟨b,c,g,i,d,e.fN j (f b ⟨_,_,d⟩),l⟩⟩
def dg.ext(h:dg m T M w x k Y)(a:Ext w t):dg m T M t x k Y:=h.keep (a.keep λ_=>False) cL
def dg.nil(a:Nat)(t:cR)(b:dP)(w:cJ):dg a t b w (.slice none 0 0) 0 []:=⟨dq,.inl ⟨rfl,rfl⟩⟩
theorem dg.blk(h:dg m T M w x k Y)(a:cW x i):m<=i/\i<w.heap.size:=by have⟨l,b,e⟩:=a;obtain⟨d,⟨_,h⟩|⟨f,c,g,j,n,o,p⟩⟩:=h;grind;grind
theorem dg.len(h:dg m T M w x k Y):∃a c,x=.slice a k c/\k<=c/\c<2^63:=by obtain⟨d,⟨b,h⟩|⟨e,c,f,b,g,i,j,l,n,_⟩⟩:=h;grind;grind
def dg.cell(h:dg m T M w x k Y)(g:0<k):∃b c,x=.slice (some ⟨b,0,none⟩) k c/\m<=b/\∀j u,Y[j]? =some u->w.cell? ⟨b,j,none⟩=some u:=by obtain⟨i,⟨a,h⟩|⟨d,c,l,a,e,f,n,o,p,q,r⟩⟩:=h;omega;refine⟨d,c,e,a,λj u s=>?_⟩;simp only[World.cell?,f];grind
def qk(z:eH)(n j:Nat)(a:0<z.size)(b:j<n*z.size):(Builtin.zeroCells z n)[j]? =z[j%z.size]? :=by grind [Nat.mod_lt,Builtin.zeroCells]
def Jm{A ty e:cR}{i:TypeInfo}(N:P.underlying A=some (.slice e))(O:P.info? e=some i)(X:i.zero=some z)(C:z.cells=M.toArray)(D:i.size=M.length)(E:i.bytes<=256)(Z:0<M.length) (aa:dg m e M w x k Y)(F:m<=w.heap.size){f c:Nat}{a:dP}(q:a.length=f*M.length)(hm:0<f)(g:∀j u,a[j]? =some u->w.cell? (h.add j)=some u)(h1:∀u∈a,u.oneCell'=true)(G:k+f<=1000000):∃Q R,(Builtin.append_ #[A,A] ty #[x,.slice (some h) f c]).run P w=.ok Q R/\dg m e M R Q (k+f) (Y++a)/\dz (cW x) w R/\∀b,cW Q b->cW x b\/w.heap.size<=b:=by
 have o:z.cells.size=M.length:=cL;have r:a.length=f*i.size:=cL;obtain⟨s,⟨rfl,rfl⟩|⟨b,p,S,g1,rfl,J,g4,g5,g6,g7,g8⟩⟩:=aa;obtain rfl:Y=[]:=cL;have B:=run_append_nil (P:=P) w A ty e i z N O X h f c a r g hm cM (du (Nat.mul_le_mul (show f<=1000000 by omega) E) cL);have H:=grownCap_ge w f 0 e;refine⟨_,_,B,⟨cL,.inr ⟨w.heap.size,grownCap w f 0 e,a.toArray++Builtin.zeroCells z.cells (grownCap w f 0 e-f),F,dq,fY w.drew _,?_,cM,?_,?_,?_⟩⟩,?_,?_⟩;simp only[x6,im,size_zeroCells,o,q,<-Nat.add_mul];grind;grind [grownCap_le_maxLen,maxLen];grind;intro j t v;simp only[qI]at t;rw[DM cL];simp only[x6,im,size_zeroCells,o]at v;simp only[im];rw[qk _ _ _ cM cL,o,C,q];have I:(j-f*M.length)%M.length=j%M.length:=by obtain⟨d,rfl⟩:∃d,j=f*M.length+d:=⟨j-f*M.length,cM⟩;simp
 grind;exact((Ext.drew w).trans (Ext.alloc _ _)).keep _;rintro b ⟨l,c',K⟩;grind;by_cases n:k+f<=p;have T:Y.length+a.length<=S.size:=by rw[s,q,g4,<-Nat.add_mul];exact sK _ n
 have B:=run_append_room_cells (P:=P) w A ty e i N O b 0 k p h f c a r g h1 n
  (λj t=>by have:Y.length+j<S.size:=cM;rw[D,dn,<-s];simp[World.cell?,J,this])
  (λj t=>by simp[World.frozen?,J])
 rw[D,dn,<-s]at B;have⟨e1,e2,e3,e4,e5,e6,U,e7,e8,e9,V,ab⟩:=tn a w b Y.length S e (0,0) J T;refine⟨_,_,B,⟨cL,.inr ⟨b,p,U,g1,rfl,e7,cL,n,g6,?_,?_⟩⟩,⟨e1,e2,e3,cL,cL,λL _ W=>e6 L λe=>W ⟨k,p,by rw[e]⟩⟩,λL W=>.inl ?_⟩;intro j t;by_cases ac:j<Y.length;grind;obtain⟨d,rfl⟩:∃d,j=Y.length+d:=⟨j-Y.length,cM⟩;rw[V d cL,ye dq];simp;grind;have⟨l,c',K⟩:=W;injection K with K;obtain rfl:b=L:=cL;exact⟨k,p,rfl⟩;have y:∀j u,Y[j]? =some u->w.cell? (((dt b 0):Addr).add j)=some u:=by intro j u hu;rw[Addr.add_lit];simp only[World.cell?,J,dn];grind
 have B:=run_append_grow (P:=P) w A ty e i z N O X (dt b 0) k p Y cL y h f c a r g cM cM (growslice_fits cM (du (Nat.mul_le_mul G E) cL));have H:=grownCap_ge w (k+f) p e;refine⟨_,_,B,⟨cL,.inr ⟨w.heap.size,grownCap w (k+f) p e,_,F,rfl,fY w.drew _,?_,H,?_,?_,?_⟩⟩,?_,?_⟩;simp only[x6,im,size_zeroCells,o,s,q,<-Nat.add_mul];grind;grind [grownCap_le_maxLen,maxLen];grind;intro j t v;simp only[lx]at t;rw[DM cL];simp only[x6,im,size_zeroCells,o,s,q]at v;simp only[x6,im,s,q];rw[s,q]at t;rw[qk _ _ _ cM cL,o,C];have I:(j-(k*M.length+f*M.length))%M.length=j%M.length:=by obtain⟨d,rfl⟩:∃d,j=(k*M.length+f*M.length)+d:=⟨j-(k*M.length+f*M.length),cM⟩;rw[Nat.add_sub_cancel_left,<-Nat.add_mul,Nat.add_comm,Nat.add_mul_mod_self_right]
 grind;exact((Ext.drew w).trans (Ext.alloc _ _)).keep _;rintro L ⟨l,c',K⟩;grind
section
variable{P:cU}{ops:Array Oper}{Q:Exit->Act->cJ->Prop}{a:Act}{w w':cJ}{i m:Nat}
end
theorem cO{w:cJ}{b o:Nat}{a:eH}{v:cK}(h:w.heap[b]? =some (.cells a T))(c:a[o]? =some v):w.cell? ⟨b,o,none⟩=some v:=by simp only[World.cell?,h];grind
def Ext.cT{a w w':cJ}{b:Nat}(h:Ext a w)(k:dz (λx=>x=b) w w')(d:a.heap.size<=b):Ext a w':=
 ⟨k.os.trans h.os,k.tape.trans h.tape,k.output.trans h.output,du h.size k.size,du h.drawn k.drawn,λx c=>(k.block x (ew c h.size) cM).trans (h.block x c)⟩
section
variable{P:cU}{ρ:dU->cK}{w:cJ}{v:cK}
end
abbrev L:=List (Nat×cK)
def lk:L->Nat->Option cK
 |[],_=>none
 |p::r,t=>match Nat.beq p.1 t with
  |true=>some p.2
  |false=>lk r t
def nth{a:Type}:List a->Nat->Option a
 |[],_=>none
 |x::_,0=>some x
 |_::r,n+1=>nth r n
def mem:Nat->cN->Bool
 |_,[]=>false
 |n,x::r=>match Nat.beq n x with
  |true=>true
  |false=>mem n r
def ev(l:L):dU->Option cK
 | .tmp t=>lk l t
 | .const v=>some v
 | .func f=>some (.func (.func f) #[] #[])
 | .global _=>none
def evs(l:L):List dU->Option dP
 |[]=>some []
 |x::r=>match ev l x with
  |some v=>match evs l r with
   |some a=>some (v::a)
   |none=>none
  |none=>none
def Vq(l:L):Option dU->Option (Option cK)
 |none=>some none
 |some x=>match ev l x with
  |some v=>some (some v)
  |none=>none
def ins(N:Nat)(d:Option Nat)(v:cK)(l:L):L:=match d with
 |none=>l
 |some d=>match Nat.blt d N with
  |true=>(d,v)::l
  |false=>l
structure Fr(N:Nat)(l:L)(a:Act):Prop where
 size:a.tmps.size=N
 defers:a.defers=[]
 at_:∀t v,lk l t=some v->a.eval (.tmp t)=v
structure wX(N:Nat)(l:L)(a:Act):Prop where
 size:a.tmps.size=N
 at_:∀t v,lk l t=some v->a.eval (.tmp t)=v
def Fr.b{N:Nat}{l:L}{a:Act}(h:Fr N l a):wX N l a:=⟨h.size,h.at_⟩
theorem wX.eval{N:Nat}{l:L}{a:Act}(h:wX N l a){x:dU}{v:cK}(b:ev l x=some v):a.eval x=v:=by
 cases x with
 |tmp t=>exact h.at_ t v b
 |const c=>exact dT b
 |func f=>exact dT b
 |global g=>cases b
theorem Fr.eval{N:Nat}{l:L}{a:Act}(h:Fr N l a){x:dU}{v:cK}(c:ev l x=some v):a.eval x=v:=h.b.eval c
theorem Fr.put{N:Nat}{l:L}{a:Act}(h:Fr N l a)(d:Option Nat)(v:cK)(f:∀t,d=some t->t<N):Fr N (ins N d v l) (a.put d v):=by
 refine⟨(uD _ _ _).trans h.size,(y9 _ _ _).trans h.defers,λt u b=>?_⟩;cases d with
 |none=>exact h.at_ t u b
 |some d=>
  have e:Nat.blt d N=true:=by grind [Nat.blt_eq]
  simp only[ins,e]at b;simp only[lk]at b;cases c:Nat.beq d t with
  |true=>
   rw[c]at b;have:d=t:=nQ c;subst this;rw[xo _ _ _ (by rw[h.size];grind)];grind
  |false=>
   rw[c]at b;have:d≠t:=IF c;rw[tl _ _ _ _ cL];exact h.at_ t u b
def Fr.vi{N:Nat}{l:L}{a:Act}(h:Fr N l a){d:Nat}{v:cK}(e:lk l d=some v):Fr N ((d,v)::l) a:=by
 refine⟨h.size,h.defers,λt u b=>?_⟩;simp only[lk]at b;cases c:Nat.beq d t with
 |true=>
  rw[c]at b;have:d=t:=nQ c;subst this;exact dT b▸h.at_ _ _ e
 |false=>rw[c]at b;exact h.at_ t u b
def Sub:L->L->Prop
 |[],_=>True
 |p::r,l=>lk l p.1=some p.2/\Sub r l
theorem Sub.lk{b l:L}(h:Sub b l){t:Nat}{v:cK}(a:lk b t=some v):lk l t=some v:=by
 induction b with
 |nil=>cases a
 |cons p r d=>
  simp only[W.lk]at a;cases c:Nat.beq p.1 t with
  |true=>
   rw[c]at a;have:p.1=t:=nQ c;subst this;exact dT a▸h.1
  |false=>rw[c]at a;exact d h.2 a
def Fr.sub{N:Nat}{l b:L}{a:Act}(h:Fr N l a)(c:Sub b l):Fr N b a:=⟨h.size,h.defers,λt v d=>h.at_ t v (c.lk d)⟩
structure jO(P:cU)(s:Sem cK)(w:cJ)(k:cK->cJ->Prop):Prop where
 out:∃v w',s.run P w=.ok v w'/\k v w'
structure Eo(P:cU)(s:Sem Unit)(w:cJ)(k:cJ->Prop):Prop where
 out:∃w',s.run P w=.ok () w'/\k w'
structure zd(P:cU)(s:Sem Next)(w:cJ)(k:cK->cJ->Prop):Prop where
 out:∃v w',s.run P w=.ok (.value v) w'/\k v w'
structure SL(P:cU)(f:dZ)(args:List cK)(w:cJ)(k:cK->cJ->Prop)(pan:List PanicEntry->cJ->Prop):Prop where
 go:∀xs w,Sem.run P (callFunc f xs) w=.ok (.enter f xs) w
 out:Calls P f args.toArray w λe w'=>match e with
  | .returned v=>k v w'
  | .panicked c=>pan c w'
  | .outgrown=>False
structure zf where
 off:Nat->Nat->Option Nat
structure mH(P:cU)(T:zf):Prop where
 off:∀S i d,T.off S i=some d->∀b o w,Sem.run P (Instr.fieldAt S (.pointer (some ⟨b,o,none⟩)) i) w=.ok (.pointer (some ⟨b,o+d,none⟩)) w
def Vr(l:L):List (Nat×dU)->Option (List (Nat×cK))
 |[]=>some []
 |p::r=>match ev l p.2 with
  |some v=>match Vr l r with
   |some a=>some ((p.1,v)::a)
   |none=>none
  |none=>none
def Fx(P:cU)(T:zf)(ks:cN)(l:L)(w:cJ)(o:Oper)(k:nu)(s:dC)(pan:List PanicEntry->dC):Prop:=
 match o.op with
 | .move x=>match ev l x with
  |some v=>k v w
  |none=>False
 | .assign x=>match ev l x with
  |some v=>k v w
  |none=>False
 | .pick (.tmp c) x y=>match lk l c with
  |some (.bool b)=>match mem c ks with
   |true=>(match b with
    |true=>match ev l x with
     |some v=>k v w
     |none=>False
    |false=>match ev l y with
     |some v=>k v w
     |none=>False)
   |false=>(b=true->match ev l x with
    |some v=>k v w
    |none=>False)/\(b=false->match ev l y with
    |some v=>k v w
    |none=>False)
  |_=>False
 | .nilCheck x=>match ev l x with
  |some (.pointer (some p))=>k (.pointer (some p)) w
  |some (.func (.func f) a b)=>k (.func (.func f) a b) w
  |_=>False
 | .fieldAddr S x i=>match ev l x with
  |some (.pointer (some ⟨b,o,none⟩))=>(match T.off S i with
   |some d=>k (.pointer (some ⟨b,o+d,none⟩)) w
   |none=>False)
  |_=>False
 | .extract x i=>match ev l x with
  |some (.tuple h)=>(match nth h.toList i with
   |some v=>k v w
   |none=>False)
  |_=>False
 | .field S x i=>match ev l x with
  |some v=>jO P (Instr.field S v i) w k
  |none=>False
 | .load t x=>match ev l x with
  |some v=>jO P (Instr.loadAt t v) w k
  |none=>False
 | .store t x y=>match ev l x with
  |some v=>(match ev l y with
   |some u=>Eo P (Instr.storeAt t v u) w s
   |none=>False)
  |none=>False
 | .alloc t=>jO P (Instr.alloc t true (.tuple #[])) w k
 | .box t x=>match ev l x with
  |some v=>jO P (Instr.box t v) w k
  |none=>False
 | .build t e=>match Vr l e.toList with
  |some h=>jO P (Instr.build t h.toArray) w k
  |none=>False
 | .buildSlice t n e=>match Vr l e.toList with
  |some h=>jO P (Instr.buildSlice t n h.toArray) w k
  |none=>False
 | .binOp b t x y _=>match ev l x with
  |some v=>(match ev l y with
   |some u=>jO P (do eqGuard b t x y v u;binOp b t v u) w k
   |none=>False)
  |none=>False
 | .unOp u _ x=>match ev l x with
  |some v=>jO P (Op.unary u v) w k
  |none=>False
 | .makeFunc q first j=>match evs l first.toList with
  |some A=>(match evs l j.toList with
   |some B=>k (.func q A.toArray B.toArray) w
   |none=>False)
  |none=>False
 | .makeMap t r=>match Vq l r with
  |some v=>jO P (Instr.makeMap t v) w k
  |none=>False
 | .makeSlice t x y=>match ev l x with
  |some v=>(match ev l y with
   |some u=>jO P (Instr.makeSlice t v u) w k
   |none=>False)
  |none=>False
 | .slice t x C D E=>match ev l x with
  |some v=>(match Vq l C with
   |some a=>(match Vq l D with
    |some b=>(match Vq l E with
     |some c=>jO P (Instr.sliceAt t v a b c) w k
     |none=>False)
    |none=>False)
   |none=>False)
  |none=>False
 | .indexAddr t x y=>match ev l x with
  |some v=>(match ev l y with
   |some u=>jO P (Instr.indexAt t v u) w k
   |none=>False)
  |none=>False
 | .index t x y=>match ev l x with
  |some v=>(match ev l y with
   |some u=>jO P (Instr.index t v u) w k
   |none=>False)
  |none=>False
 | .lookup t x y c=>match ev l x with
  |some v=>(match ev l y with
   |some u=>jO P (Instr.lookup t v u c) w k
   |none=>False)
  |none=>False
 | .mapUpdate t m x y=>match ev l m with
  |some z=>(match ev l x with
   |some v=>(match ev l y with
    |some u=>Eo P (Instr.mapUpdate t z v u) w s
    |none=>False)
   |none=>False)
  |none=>False
 | .call c=>(match c.callee with
  | .value f=>(match ev l f with
   |some (.func (.func g) first j)=>(match evs l c.args.toList with
    |some h=>SL P g (first.toList++(h++j.toList)) w k pan
    |none=>False)
   |_=>False)
  | .builtin b=>(match evs l c.args.toList with
   |some h=>zd P (builtin b c.argTypes o.type (c.args.map λ| .const _=>true|_=>false) h.toArray) w k
   |none=>False)
  | .invoke _ _=>False)
 | .convert t u x=>match ev l x with
  |some v=>jO P (convert t u v) w k
  |none=>False
 |_=>False
section
variable{P:cU}{T:zf}{ks:List Nat}{N:Nat}{l:L}{a:Act}{w:cJ}{o:Oper}{k:cK->cJ->Prop}{s:cJ->Prop}{pan:List PanicEntry->cJ->Prop}{next:Act->cJ->Prop}{Q:Exit->Act->cJ->Prop}
theorem zw{a:Type}:∀(l:List a) (i:Nat),nth l i=l[i]?
 |[],_=>rfl
 |_::_,0=>rfl
 |_::r,n+1=>(zw r n).trans dq
theorem wX.Uw(h:wX N l a):∀{d:List dU} {c:dP},evs l d=some c->d.map a.eval=c
 |[],c,b=>by grind [Option.some.injEq,evs]
 |x::r,c,b=>by simp only[evs]at b;split at b;rename_i v e;split at b;rename_i g f;simp only[iN]at b;subst b;simp[h.eval e,wX.Uw h f];cases b;cases b
theorem wX.Ux(h:wX N l a):∀{d:List (Nat×dU)} {c:List (Nat×cK)},Vr l d=some c->d.map (λp=>(p.1,a.eval p.2))=c
 |[],c,b=>by grind [Option.some.injEq,Vr]
 |x::r,c,b=>by simp only[Vr]at b;split at b;rename_i v e;split at b;rename_i g f;simp only[iN]at b;subst b;simp[h.eval e,wX.Ux h f];cases b;cases b
def wX.La(h:wX N l a){x:Option dU}{v:Option cK}(b:Vq l x=some v):x.map a.eval=v:=by
 cases x with
 |none=>grind [Option.some.injEq,Vq]
 |some x=>
  simp only[Vq]at b;split at b;rename_i u c;simp only[iN]at b;subst b;simp[h.eval c];grind
def qS(h:wX N l a){b:Array dU}{c:dP}(d:evs l b.toList=some c):b.map a.eval=c.toArray:=by have:=h.Uw d;grind
theorem CN(h:wX N l a){b:Array (Nat×dU)}{c:List (Nat×cK)}(d:Vr l b.toList=some c):b.map (λp=>(p.1,a.eval p.2))=c.toArray:=by have:=h.Ux d;grind
theorem Fy{s:Sem cK}(h:jO P s w k)(c:∀v b,k v b->next (a.put o.dst v) b):o.upon P a next Q ((do let v<-s;pure (Next.value v):Sem Next).run P w):=by have⟨v,b,d,e⟩:=h.out;simp only[Sem.run_bind,d,Result.andThen_ok,Sem.run_pure];exact c v b e
theorem Zb{c:Sem Unit}(h:Eo P c w s)(d:∀b,s b->next (a.put o.dst undef) b):o.upon P a next Q ((do c;pure Next.skip:Sem Next).run P w):=by have⟨b,e,f⟩:=h.out;simp only[Sem.run_bind,e,Result.andThen_ok,Sem.run_pure];exact d b f
def jl(K:mH P T)(q:wX N l a)(h:Fx P T ks l w o k s pan)(B:∀v C,k v C->next (a.put o.dst v) C)(Z:∀C,s C->next (a.put o.dst undef) C)(hp:∀c C,pan c C->Q (.panic c) a C):o.wp P a w next Q:=by
 unfold Oper.wp;unfold Fx at h;split at h;case h_1 x p=>
  split at h;rename_i v j;simp only[execOp,p,q.eval j,Sem.run_pure];exact B _ _ h;grind
 case h_2 x p=>
  split at h;rename_i v j;simp only[execOp,p,q.eval j,Sem.run_pure];exact B _ _ h;grind
 case h_3 c x y p=>
  split at h;case h_1 b L=>
   have E:a.eval (.tmp c)=.bool b:=q.eval (x:=.tmp c) L;simp only[execOp,p,E,asBool,pure_bind,Sem.run_pure];split at h;cases b with
   |true=>
    simp only at h;split at h;rename_i v j;simp only[em,q.eval j];exact B _ _ h;grind
   |false=>
    simp only at h;split at h;rename_i v j;simp only[iR,fq,q.eval j];exact B _ _ h;grind
   cases b with
   |true=>
    have h:=h.1 rfl;split at h;rename_i v j;simp only[em,q.eval j];exact B _ _ h;grind
   |false=>
    have h:=h.2 rfl;split at h;rename_i v j;simp only[iR,fq,q.eval j];exact B _ _ h;grind
  grind
 case h_4 x p=>
  split at h;rename_i ad j;simp only[execOp,p,q.eval j,Sem.run_pure];exact B _ _ h;rename_i f u v j;simp only[execOp,p,q.eval j,Sem.run_pure];exact B _ _ h;grind
 case h_5 S x i p=>
  split at h;rename_i b G j;split at h;rename_i d M;simp only[execOp,p,q.eval j];exact Fy (k:=k) ⟨_,_,K.off S i d M b G w,h⟩ B;grind;grind
 case h_6 x i p=>
  split at h;rename_i F j;split at h;rename_i v O;rw[zw]at O;have H:F[i]? =some v:=cL;simp only[execOp,p,q.eval j];exact Fy (k:=k) ⟨v,w,by simp only[Instr.extract,H,Sem.run_pure],h⟩ B;grind;grind
 case h_7 S x i p=>
  split at h;rename_i v j;simp only[execOp,p,q.eval j];grind [Fy];grind
 case h_8 t x p=>
  split at h;rename_i v j;simp only[execOp,p,q.eval j];grind [Fy];grind
 case h_9 t x y p=>
  split at h;rename_i v j;split at h;rename_i u A;simp only[execOp,p,q.eval j,q.eval A];grind [Zb];grind;grind
 case h_10 t p=>grind [Fy,execOp]
 case h_11 t x p=>
  split at h;rename_i v j;simp only[execOp,p,q.eval j];grind [Fy];grind
 case h_12 t D p=>
  grind [CN,Fy,execOp]
 case h_13 t n D p=>
  grind [CN,Fy,execOp]
 case h_14 b t x y r p=>
  split at h;rename_i v j;split at h;rename_i u A;simp only[execOp,p,q.eval j,q.eval A];grind [Fy];grind;grind
 case h_15 u t x p=>
  split at h;rename_i v j;simp only[execOp,p,q.eval j];grind [Fy];grind
 case h_16 fn first cap p=>
  split at h;rename_i xs R;split at h;rename_i ys U;simp only[execOp,p,qS q R,qS q U];exact Fy (k:=k) ⟨_,_,by simp only[Instr.makeFunc,Sem.run_pure],h⟩ B;grind;grind
 case h_17 t r p=>
  split at h;rename_i v j;simp only[execOp,p,q.La j];grind [Fy];grind
 case h_18 t x y p=>
  split at h;rename_i v j;split at h;rename_i u A;simp only[execOp,p,q.eval j,q.eval A];grind [Fy];grind;grind
 case h_19 t x lo hi mx p=>
  split at h;rename_i v j;split at h;rename_i u A;split at h;rename_i u2 I;split at h;rename_i u3 J;simp only[execOp,p,q.eval j,q.La A,q.La I,q.La J];grind [Fy];grind;grind;grind;grind
 case h_20 t x y p=>
  split at h;rename_i v j;split at h;rename_i u A;simp only[execOp,p,q.eval j,q.eval A];grind [Fy];grind;grind
 case h_21 t x y p=>
  split at h;rename_i v j;split at h;rename_i u A;simp only[execOp,p,q.eval j,q.eval A];grind [Fy];grind;grind
 case h_22 t x y c p=>
  split at h;rename_i v j;split at h;rename_i u A;simp only[execOp,p,q.eval j,q.eval A];grind [Fy];grind;grind
 case h_23 t m x y p=>
  split at h;rename_i z V;split at h;rename_i v j;split at h;rename_i u A;simp only[execOp,p,q.eval V,q.eval j,q.eval A];grind [Zb];grind;grind;grind
 case h_24 c p=>
  split at h;rename_i f E;split at h;rename_i g first cap hf
  split at h;rename_i F j;have W:first++F.toArray++cap=(first.toList++(F++cap.toList)).toArray:=cL
  simp only[execOp,p,resolve,E,Deferred.ofValue,q.eval hf,qS q j,pure_bind,invoke,W,h.go,Oper.upon_enter];refine h.out.mono λe C he=>?_;grind;grind;grind;rename_i b E;split at h;rename_i F j;have⟨v,C,X,Y⟩:=h.out;simp only[execOp,p,resolve,E,qS q j,pure_bind,invoke];exact Eq.mpr (dH (o.upon P a next Q) X) (B v C Y);grind;grind
 case h_25 t u x p=>
  split at h;rename_i v j;simp only[execOp,p,q.eval j];grind [Fy];grind
 grind
def Av:List Oper->Nat->Option Nat
 |[],_=>none
 |o::_,0=>o.dst
 |_::r,n+1=>Av r n
def Wd(N:Nat)(d:Option Nat)(X:Prop):Prop:=match d with
 |none=>X
 |some d=>match Nat.blt d N with
  |true=>X
  |false=>False
def wd(r:Option Nat):Fence:={Fence.wide with round:=r}
def Pu{r:Option Nat}{n:Nat}{a:eH}{w:cJ}{R:Ending->dC}(h:Calls P K a w R):CallsIn (wd r) n P K a w R:=callsIn_wide.2 h
structure ZQ(P:cU)(lp:Nat)(args:List cK)(w:cJ)(k:cK->cJ->Prop)(pan:List PanicEntry->cJ->Prop):Prop where
 out:∃f tmps assign body,(Instr.yield lp args.toArray).run P w=.ok (.round lp f tmps assign body) w/\RoundIn Fence.wide 0 P lp f tmps assign body w λe w'=>match e with
  | .returned v=>k v w'
  | .panicked c=>pan c w'
  | .outgrown=>False
def vj(P:cU)(T:zf)(ks:cN)(l:L)(w:cJ)(o:Oper)(k:nu)(s:dC)(pan:List PanicEntry->dC):Prop:=
 match o.op with
 | .call c=>(match c.callee with
  | .value f=>(match ev l f with
   |some (.func (.yield a) first _)=>(match evs l c.args.toList with
    |some b=>ZQ P a (first.toList++b) w k pan
    |none=>False)
   |_=>Fx P T ks l w o k s pan)
  |_=>Fx P T ks l w o k s pan)
 |_=>Fx P T ks l w o k s pan
def Aw{r:Option Nat}{n:Nat}{x:Result Next}(h:o.upon P a next Q x):o.uponIn (wd r) n P a next Q x:=by
 have b:((wd r).depth.isSome=true->1<=n):=λh=>by cases h
 cases x with
 |ok v i=>
  cases v with
  |value v=>exact h
  |skip=>exact h
  |defer d=>exact h
  |enter f g=>exact⟨b,(Pu h).mono λe w h=>cL⟩
  |row row g=>exact⟨b,λc j _=>let⟨v,i,r,s⟩:=h c j;⟨v,i,r,stepsIn_wide.2 s⟩⟩
  |_=>exact h.elim
 |halt e i=>
  cases e with
  |panic v=>exact h
  |_=>exact h.elim
def GS(h:Fx P T ks l w o k s pan):∀c,o.op≠ .defer c:=λc e=>by grind [Fx]
def vk{r:Option Nat}(t:mH P T)(m:wX N l a)(h:vj P T ks l w o k s pan)(u:∀v d,k v d->next (a.put o.dst v) d)(x:∀d,s d->next (a.put o.dst undef) d)(y:∀c d,pan c d->Q (.panic c) a d):o.wpIn (wd r) 0 P a w next Q:=by
 have plain:Fx P T ks l w o k s pan->o.wpIn (wd r) 0 P a w next Q:=λh=>by refine⟨λ_ _=>trivial,?_⟩;rw[Oper.semAt_eq _ _ _ (GS h)];exact Aw (jl t m h u x y)
 unfold vj at h;split at h;rename_i c z;split at h;rename_i f A;split at h;rename_i p first cap hf
 split at h;rename_i q B;have⟨g,i,b,j,C,D⟩:=h.out;refine⟨λ_ _=>trivial,?_⟩;rw[Oper.semAt_eq _ _ _ (λc e=>cL)];have E:first++q.toArray=(first.toList++q).toArray:=cL
 have e:Sem.run P (execOp a.eval o) w=.ok (.round p g i b j) w:=by simp only[execOp,z,resolve,A,Deferred.ofValue,m.eval hf,qS m B,pure_bind,invoke,E,C]
 rw[e]
 have n:RoundIn (wd r) (0-1) P p g i b j w λe d=>match e with
  | .returned v=>k v d
  | .panicked c=>pan c d
  | .outgrown=>False:=D
 refine⟨(λh=>by cases h),n.mono ?_⟩;grind;grind;grind;grind;grind
structure pu(ds:List Deferred)(N:Nat)(l:L)(a:Act):Prop where
 b:wX N l a
 d:a.defers=ds
def Fr.Ya{N:Nat}{l:L}{a:Act}(h:Fr N l a):pu [] N l a:=⟨h.b,h.defers⟩
def pu.fr{N:Nat}{l:L}{a:Act}(h:pu [] N l a):Fr N l a:=⟨h.b.size,h.d,h.b.at_⟩
theorem wX.put{N:Nat}{l:L}{a:Act}(h:wX N l a)(d:Option Nat)(v:cK)(b:∀t,d=some t->t<N):wX N (ins N d v l) (a.put d v):=by have c:Fr N l ⟨a.tmps,[]⟩:=⟨h.size,rfl,h.at_⟩;have:=c.put d v b;cases d<;>exact⟨this.size,this.at_⟩
theorem wX.vi{N:Nat}{l:L}{a:Act}(h:wX N l a){d:Nat}{v:cK}(b:lk l d=some v):wX N ((d,v)::l) a:=by have c:Fr N l ⟨a.tmps,[]⟩:=⟨h.size,rfl,h.at_⟩;have:=c.vi b;exact⟨this.size,this.at_⟩
theorem pu.put{c:List Deferred}{N:Nat}{l:L}{a:Act}(h:pu c N l a)(d:Option Nat)(v:cK)(e:∀t,d=some t->t<N):pu c N (ins N d v l) (a.put d v):=⟨h.b.put d v e,(y9 _ _ _).trans h.d⟩
theorem pu.vi{c:List Deferred}{N:Nat}{l:L}{a:Act}(h:pu c N l a){d:Nat}{v:cK}(e:lk l d=some v):pu c N ((d,v)::l) a:=⟨h.b.vi e,h.d⟩
def pu.sub{c:List Deferred}{N:Nat}{l e:L}{a:Act}(h:pu c N l a)(f:Sub e l):pu c N e a:=⟨⟨h.b.size,λt v g=>h.b.at_ t v (f.lk g)⟩,h.d⟩
def nZ(P:cU)(T:zf)(N:Nat)(K:L->dC)(pan:L->List PanicEntry->dC)(a:List Oper):List Oper->cN->L->dC
 |[],_,l,w=>K l w
 |o::r,ks,l,w=>Wd N o.dst (match o.guard with
  |none=>vj P T ks l w o (λv c=>nZ P T N K pan a r ks (ins N o.dst v l) c) (λc=>nZ P T N K pan a r ks (ins N o.dst undef l) c) (pan l)
  |some (g,e)=>match Av a g with
   |none=>False
   |some d=>match lk l d with
    |some (.bool b)=>(match mem d ks with
     |true=>(match b,e with
      |true,true=>vj P T ks l w o (λv c=>nZ P T N K pan a r ks (ins N o.dst v l) c) (λc=>nZ P T N K pan a r ks (ins N o.dst undef l) c) (pan l)
      |false,false=>vj P T ks l w o (λv c=>nZ P T N K pan a r ks (ins N o.dst v l) c) (λc=>nZ P T N K pan a r ks (ins N o.dst undef l) c) (pan l)
      |_,_=>nZ P T N K pan a r ks (ins N o.dst undef l) w)
     |false=>(b=true->match e with
      |true=>vj P T (d::ks) ((d,.bool true)::l) w o (λv c=>nZ P T N K pan a r (d::ks) (ins N o.dst v ((d,.bool true)::l)) c) (λc=>nZ P T N K pan a r (d::ks) (ins N o.dst undef ((d,.bool true)::l)) c) (pan ((d,.bool true)::l))
      |false=>nZ P T N K pan a r (d::ks) (ins N o.dst undef ((d,.bool true)::l)) w)/\
      (b=false->match e with
       |false=>vj P T (d::ks) ((d,.bool false)::l) w o (λv c=>nZ P T N K pan a r (d::ks) (ins N o.dst v ((d,.bool false)::l)) c) (λc=>nZ P T N K pan a r (d::ks) (ins N o.dst undef ((d,.bool false)::l)) c) (pan ((d,.bool false)::l))
       |true=>nZ P T N K pan a r (d::ks) (ins N o.dst undef ((d,.bool false)::l)) w))
    |some (.tuple _)=>nZ P T N K pan a r ks (ins N o.dst undef l) w
    |_=>False)
def wn{X:Prop}{d:Option Nat}(h:Wd N d X):X/\∀t,d=some t->t<N:=by
 cases d with
 |none=>exact⟨h,λ_ e=>cL⟩
 |some d=>
  grind [Nat.blt_eq,Wd]
theorem mO:∀(l:List Oper) (g:Nat),Av l g=(l[g]?).bind (·.dst)
 |[],_=>rfl
 |_::_,0=>rfl
 |_::r,n+1=>(mO r n).trans dq
theorem pI{b:Array Oper}{a:Act}{g d:Nat}{c:eH}(e:(b[g]?).bind (·.dst)=some d)(f:a.eval (.tmp d)=.tuple c):yielded b a.tmps g=none:=by grind [kS,yielded]
theorem oN{r0:Option Nat}{ds:List Deferred}(s:mH P T){K:L->dC}{pan:L->List PanicEntry->dC}{e:Array Oper}(t:∀l a w,pu ds N l a->K l w->Q .normal a w)(u:∀l c a w,pu ds N l a->pan l c w->Q (.panic c) a w):∀(r:List Oper) (i:Nat) (ks:cN) (l:L) (a:Act) (w:cJ),(∀j,r[j]? =e[i+j]?)->pu ds N l a->nZ P T N K pan e.toList r ks l w->wpOpsIn (wd r0) 0 P e Q (List.range' i r.length) a w
 |[],i,ks,l,a,w,_,f,h=>t l a w f h
 |o::r,i,ks,l,a,w,C,f,h=>by
  have D:e[i]? =some o:=(C 0).symm;have n:∀j,r[j]? =e[i+1+j]? :=λj=>by have:=C (j+1);grind
  have⟨h,y⟩:=wn h
  have E:∀ks l,pu ds N l a->Region.wanted o (yielded e a.tmps)=true->vj P T ks l w o (λv k=>nZ P T N K pan e.toList r ks (ins N o.dst v l) k) (λk=>nZ P T N K pan e.toList r ks (ins N o.dst undef l) k) (pan l)->
   wpOpsIn (wd r0) 0 P e Q (List.range' i (o::r).length) a w:=by
   intro ks l f x h;rw[fa,Co];simp only[wpOpsIn,D,x,em];refine(vk s f.b h (λv k p=>?_) (λk p=>?_) λc k p=>u l c a k f p);exact oN s t u r (i+1) ks _ _ k n (f.put o.dst v y) p;exact oN s t u r (i+1) ks _ _ k n (f.put o.dst undef y) p
  have skip:∀ks l,pu ds N l a->Region.wanted o (yielded e a.tmps)=false->nZ P T N K pan e.toList r ks (ins N o.dst undef l) w->wpOpsIn (wd r0) 0 P e Q (List.range' i (o::r).length) a w:=by intro ks l f x h;rw[fa,Co];simp only[wpOpsIn,D,x,iR,fq];refine⟨λ_ _=>trivial,?_⟩;exact oN s t u r (i+1) ks _ _ w n (f.put o.dst undef y) h
  split at h;grind [Region.wanted];rename_i g m F;split at h;grind;rename_i d z;rw[mO]at z;have G:(e[g]?).bind (·.dst)=some d:=cL;split at h;rename_i b q;have A:a.eval (.tmp d)=.bool b:=f.b.at_ d _ q;have H:yielded e a.tmps g=some b:=by grind [kS,yielded,undef]
  have x:Region.wanted o (yielded e a.tmps)=(b==m):=by simp[Region.wanted,F,H]
  split at h;cases b<;>cases m<;>simp only at h;grind;grind;grind;grind;cases b with
  |true=>
   have h:=h.1 rfl;have B:=f.vi q;grind
  |false=>
   have h:=h.2 rfl;have B:=f.vi q;grind
  rename_i I q;have A:a.eval (.tmp d)=.tuple I:=f.b.at_ d _ q;grind [pI,yielded,Region.wanted];grind
end
abbrev QW:=Exit->L->cJ->Prop
def lift(N:Nat)(Q:QW):Exit->Act->dC:=λe a w=>∃l,Fr N l a/\Q e l w
def Pw(K:L->dC)(Q:QW):QW
 | .normal,l,w=>K l w
 | .exit i,l,w=>Q (.exit i) l w
 | .goto i,l,w=>Q (.goto i) l w
 | .ret,l,w=>Q .ret l w
 | .panic c,l,w=>Q (.panic c) l w
 | .outgrown,l,w=>Q .outgrown l w
def jW(id:Nat)(Q:QW):QW
 | .exit i,l,w=>match Nat.beq i id with
  |true=>Q .normal l w
  |false=>Q (.exit i) l w
 | .normal,l,w=>Q .normal l w
 | .goto i,l,w=>Q (.goto i) l w
 | .ret,l,w=>Q .ret l w
 | .panic c,l,w=>Q (.panic c) l w
 | .outgrown,l,w=>Q .outgrown l w
structure dX(P:cU)(N:Nat)(c:Code)(l:L)(w:cJ)(Q:QW):Prop where
 out:∀a,Fr N l a->c.wp P (lift N Q) a w
def WC(P:cU)(T:zf)(N:Nat):Code->QW->L->dC
 | .skip,Q,l,w=>Q .normal l w
 | .label _,Q,l,w=>Q .normal l w
 | .ret,Q,l,w=>Q .ret l w
 | .exit i,Q,l,w=>Q (.exit i) l w
 | .goto i,Q,l,w=>Q (.goto i) l w
 | .region i a d,Q,l,w=>(match d with
  |false=>nZ P T N (Q .normal) (λl c w=>Q (.panic c) l w) a.toList a.toList [] l w
  |true=>dX P N (.region i a true) l w Q)
 | .seq x y,Q,l,w=>WC P T N x (Pw (WC P T N y Q) Q) l w
 | .cond c x y,Q,l,w=>(match ev l c with
  |some (.bool b)=>(b=true->WC P T N x Q l w)/\(b=false->WC P T N y Q l w)
  |_=>False)
 | .block i c,Q,l,w=>(match c with
  | .loop h=>dX P N (.block i (.loop h)) l w Q
  | .rangeFunc f e g b=>dX P N (.block i (.rangeFunc f e g b)) l w Q
  |_=>WC P T N c (jW i Q) l w)
 | .loop c,Q,l,w=>dX P N (.loop c) l w Q
 | .scope c,Q,l,w=>dX P N (.scope c) l w Q
 | .rangeFunc f e g b,Q,l,w=>dX P N (.rangeFunc f e g b) l w Q
 | .refuse _,_,_,_=>False
theorem jr{P:cU}{T:zf}{N:Nat}(o:mH P T):∀(c:Code) (Q:QW) (l:L) (a:Act) (w:cJ),Fr N l a->WC P T N c Q l w->c.wp P (lift N Q) a w
 | .skip,Q,l,a,w,g,h=>wp_skip ⟨l,g,h⟩
 | .label _,Q,l,a,w,g,h=>wp_label ⟨l,g,h⟩
 | .ret,Q,l,a,w,g,h=>wp_ret ⟨l,g,h⟩
 | .exit i,Q,l,a,w,g,h=>wp_exit ⟨l,g,h⟩
 | .goto i,Q,l,a,w,g,h=>wp_goto ⟨l,g,h⟩
 | .region i r d,Q,l,a,w,g,h=>by
  cases d with
  |true=>exact dX.out h a g
  |false=>
   refine wpIn_wide.1 (wpIn_region (n:=0) ?_);have:=oN (r0:=none) (ds:=[]) o (Q:=lift N Q) (λl a w g s=>⟨l,g.fr,s⟩) (λl c a w g s=>⟨l,g.fr,s⟩) r.toList 0 [] l a w (λj=>dq) g.Ya h;rw[Array.length_toList,<-List.range_eq_range']at this;exact this
 | .seq x y,Q,l,a,w,g,h=>by
  refine ll (lL (jr o x _ l a w g h) ?_);rintro e u v ⟨p,k,m⟩;cases e with
  |normal=>exact jr o y Q p u v k m
  |_=>exact⟨p,k,m⟩
 | .cond c x y,Q,l,a,w,g,h=>by simp only[WC]at h;split at h;rename_i b z;refine wp_cond_split (g.eval z) (λA=>?_) λB=>?_;exact jr o x Q l a w g (h.1 A);exact jr o y Q l a w g (h.2 B);exact h.elim
 | .block i c,Q,l,a,w,g,h=>by
  have t:WC P T N c (jW i Q) l w->(Code.block i c).wp P (lift N Q) a w:=λh=>by
   refine wp_block (lL (jr o c _ l a w g h) ?_);rintro e u v ⟨p,k,m⟩;cases e with
   |exit j=>
    simp only[Exit.inBlock];simp only[jW]at m;by_cases q:j=i;subst q;rw[cV rfl];rw[Cp]at m;exact⟨p,k,m⟩;rw[cS q];have:Nat.beq j i=false:=by grind [Nat.eq_of_beq_eq_true]
    rw[this]at m;exact⟨p,k,m⟩
   |_=>exact⟨p,k,m⟩
  cases c with
  |loop E=>exact dX.out h a g
  |rangeFunc f C D b=>exact dX.out h a g
  |_=>exact t h
 | .loop c,Q,l,a,w,g,h=>dX.out h a g
 | .scope c,Q,l,a,w,g,h=>dX.out h a g
 | .rangeFunc f C D b,Q,l,a,w,g,h=>dX.out h a g
 | .refuse _,_,_,_,_,_,h=>h.elim
def flat:Code->Bool
 | .region _ _ d=>!d
 | .seq x y=>flat x&&flat y
 | .cond _ x y=>flat x&&flat y
 | .block _ c=>flat c
 | .loop _=>false
 | .scope _=>false
 | .rangeFunc _ _ _ _=>false
 |_=>true
def Px(b:List Deferred)(N:Nat)(Q:QW):Exit->Act->dC:=λe a w=>∃l,pu b N l a/\Q e l w
theorem lY{P:cU}{T:zf}{N:Nat}{r:Option Nat}{ds:List Deferred}(o:mH P T):∀(c:Code) (Q:QW) (l:L) (a:Act) (w:cJ),flat c=true->pu ds N l a->WC P T N c Q l w->c.wpIn (wd r) 0 P (Px ds N Q) a w
 | .skip,Q,l,a,w,_,g,h=>wpIn_skip ⟨l,g,h⟩
 | .label _,Q,l,a,w,_,g,h=>wpIn_label ⟨l,g,h⟩
 | .ret,Q,l,a,w,_,g,h=>wpIn_ret ⟨l,g,h⟩
 | .exit i,Q,l,a,w,_,g,h=>wpIn_exit ⟨l,g,h⟩
 | .goto i,Q,l,a,w,_,g,h=>wpIn_goto ⟨l,g,h⟩
 | .region i s d,Q,l,a,w,k,g,h=>by
  cases d with
  |true=>cases k
  |false=>
   refine wpIn_region ?_;have:=oN (r0:=r) (ds:=ds) o (Q:=Px ds N Q) (λl a w g t=>⟨l,g,t⟩) (λl c a w g t=>⟨l,g,t⟩) s.toList 0 [] l a w (λj=>dq) g h;rw[Array.length_toList,<-List.range_eq_range']at this;grind
 | .seq x y,Q,l,a,w,k,g,h=>by
  simp only[flat,eW]at k;refine wpIn_seq (wpIn_mono (lY o x _ l a w k.1 g h) ?_);rintro e v z ⟨p,m,n⟩;cases e with
  |normal=>exact lY o y Q p v z k.2 m n
  |_=>exact⟨p,m,n⟩
 | .cond c x y,Q,l,a,w,k,g,h=>by simp only[flat,eW]at k;simp only[WC]at h;split at h;rename_i b A;refine wpIn_cond_split (g.b.eval A) (λB=>?_) λC=>?_;exact lY o x Q l a w k.1 g (h.1 B);exact lY o y Q l a w k.2 g (h.2 C);grind
 | .block i c,Q,l,a,w,k,g,h=>by
  have u:flat c=true->WC P T N c (jW i Q) l w->(Code.block i c).wpIn (wd r) 0 P (Px ds N Q) a w:=λk h=>by
   refine wpIn_block (wpIn_mono (lY o c _ l a w k g h) ?_);rintro e v z ⟨p,m,n⟩;cases e with
   |exit j=>
    simp only[Exit.inBlock];simp only[jW]at n;by_cases q:j=i;subst q;rw[cV rfl];rw[Cp]at n;exact⟨p,m,n⟩;rw[cS q];have:Nat.beq j i=false:=by grind [Nat.eq_of_beq_eq_true]
    rw[this]at n;exact⟨p,m,n⟩
   |_=>exact⟨p,m,n⟩
  cases c with
  |loop F=>cases k
  |rangeFunc f D E b=>cases k
  |_=>exact u k h
 | .loop c,Q,l,a,w,k,g,h=>by cases k
 | .scope c,Q,l,a,w,k,g,h=>by cases k
 | .rangeFunc f D E b,Q,l,a,w,k,g,h=>by cases k
 | .refuse _,_,_,_,_,_,_,h=>h.elim
def GT(P:cU):List ResultVar->L->cJ->(dP->Prop)->Prop
 |[],_,_,k=>k []
 | .tmp t::r,l,w,k=>match lk l t with
  |some v=>GT P r l w λa=>k (v::a)
  |none=>False
 | .cell t b::r,l,w,k=>match lk l t with
  |some (.pointer (some c))=>∃v,Sem.run P (loadVar b c) w=.ok v w/\GT P r l w λa=>k (v::a)
  |_=>False
def one(vs:dP):cK:=match vs with
 |[v]=>v
 |vs=>.tuple vs.toArray
def QR(P:cU)(b:List ResultVar)(R:Ending->dC):QW
 | .normal,l,w=>GT P b l w λa=>R (.returned (one a)) w
 | .ret,l,w=>GT P b l w λa=>R (.returned (one a)) w
 | .panic c,_,w=>R (.panicked c) w
 |_,_,_=>False
def ME(a:eH):ResultVar->Sem cK
 | .tmp t=>pure (a.getD t undef)
 | .cell x t=>do loadVar t (<-asAddr (a.getD x undef))
theorem Ax{P:cU}{N:Nat}{a:Act}{w:cJ}:∀(m:List ResultVar) (l:L) (k:dP->Prop),Fr N l a->GT P m l w k->∃c,Sem.run P (m.mapM (ME a.tmps)) w=.ok c w/\k c
 |[],l,k,d,h=>⟨[],dq,h⟩
 | .tmp t::r,l,k,d,h=>by simp only[GT]at h;split at h;rename_i v e;have⟨c,f,g⟩:=Ax r l _ d h;have b:ME a.tmps (.tmp t)=pure v:=dH pure (d.at_ t v e);refine⟨v::c,?_,g⟩;rw[List.mapM_cons,b];simp only[Sem.run_bind,Sem.run_pure,Result.andThen_ok,f];grind
 | .cell t i::r,l,k,d,h=>by
  simp only[GT]at h;split at h;rename_i n e;have⟨v,o,h⟩:=h;have⟨c,f,g⟩:=Ax r l _ d h;have b:a.tmps.getD t gU=.pointer (some n):=d.at_ t _ e;have j:ME a.tmps (.cell t i)=loadVar i n:=by show(do loadVar i (<-asAddr (a.tmps.getD t gU)))=_;rw[b];rfl
  refine⟨v::c,?_,g⟩;rw[List.mapM_cons,j];simp only[Sem.run_bind,o,Result.andThen_ok,f,Sem.run_pure];grind
def Ay(b:Func)(c:eH):results b c=(do let a<-b.results.mapM (ME c);pure (if h:a.size=1 then a[0]else .tuple a)):=by unfold results;congr 1
def Uy{P:cU}{k:Func}{c:Code}{b:dP}{w:cJ}{R:Ending->dC}(N:Nat)(h:dX P N c (b.zipIdx.map λp=>(p.2,p.1)) w (QR P k.results.toList R))(a:Act)(z:a.tmps.size=N)(d:a.defers=[])(u:∀i v,b.toArray[i]? =some v->a.eval (.tmp i)=v):c.wp P (bodyPost P k R) a w:=by
 have A:Fr N (b.zipIdx.map λp=>(p.2,p.1)) a:=by
  refine⟨z,d,λt v G=>?_⟩;refine u t v ?_
  have B:∀(m:dP) (n:Nat),lk ((m.zipIdx n).map λp=>(p.2,p.1)) t=some v->n<=t/\m[t-n]? =some v:=by
   intro m;induction m with
   |nil=>intro n h;cases h
   |cons x r H=>
    intro n h;simp only[List.zipIdx_cons,kI,lk]at h;cases s:Nat.beq n t with
    |true=>
     rw[s]at h;have:n=t:=nQ s;grind
    |false=>
     grind
  grind
 refine lL (h.out a A) ?_;rintro e q g ⟨C,j,f⟩
 have l:GT P k.results.toList C g (λo=>R (.returned (one o)) g)->q.defers=[]/\∃v,(results k q.tmps).run P g=.ok v g/\R (.returned v) g:=λf=>by
  have⟨o,D,E⟩:=Ax _ _ _ j f;refine⟨j.defers,_,?_,E⟩;rw[Ay,Sem.run_bind];have F:Sem.run P (k.results.mapM (ME q.tmps)) g=.ok o.toArray g:=by rw[Ks,Sem.run_map,D];rfl
  rw[F];simp only[Result.andThen_ok,Sem.run_pure];congr 1;obtain _|⟨x,_|⟨y,r⟩⟩:=o;rfl;rfl;simp[one]
 cases e with
 |normal=>exact l f
 |ret=>exact l f
 |panic c=>exact⟨j.defers,f⟩
 |exit i=>exact f.elim
 |goto i=>exact f.elim
 |outgrown=>exact f.elim
def Uz{P:cU}{a:Func}{c:Code}{args:dP}{w:cJ}{R:Ending->dC}(N:Nat)
 (b:P.funcs[K]? =some a)(d:a.body=some c)(e:a.ntmps=N)(f:args.length<=N)(h:dX P N c (args.zipIdx.map λp=>(p.2,p.1)) w (QR P a.results.toList R)):Calls P K args.toArray w R:=
 Pr N b d e (Uy N h) cL
def WV{P:cU}{T:zf}(e:mH P T){b:Func}{c:Code}{args:dP}{w:cJ}{R:Ending->dC}(N:Nat)
 (f:P.funcs[K]? =some b)(g:b.body=some c)(i:b.ntmps=N)(d:args.length<=N)(h:WC P T N c (QR P b.results.toList R) (args.zipIdx.map λp=>(p.2,p.1)) w):Calls P K args.toArray w R:=
 Uz N f g i d ⟨λa j=>jr e c _ _ a w j h⟩
theorem dX.seq{P:cU}{T:zf}(g:mH P T){N:Nat}{x y:Code}{l:L}{w:cJ}{Q:QW}(h:WC P T N x (Pw (λc d=>dX P N y c d Q) Q) l w):dX P N (.seq x y) l w Q:=⟨λa i=>by
 refine ll (lL (jr g x _ l a w i h) ?_);rintro e j d ⟨c,b,f⟩;cases e with
 |normal=>exact f.out j b
 |_=>exact⟨c,b,f⟩⟩
theorem dX.of{P:cU}{T:zf}(b:mH P T){N:Nat}{c:Code}{l:L}{w:cJ}{Q:QW}(h:WC P T N c Q l w):dX P N c l w Q:=⟨λa d=>jr b c _ l a w d h⟩
def Jn(ops:Array Oper)(o:Oper):cN:=o.after.toList.filterMap λe=>if Region.binds .any e then(ops[e.on]?).bind (·.dst)else none
def jh(ops:Array Oper)(o:Oper)(a:Act):cK:=.tuple ((Jn ops o).map λt=>a.eval (.tmp t)).toArray
def Ep{ops:Array Oper}{o:Oper}{a b:Act}(h:∀t∈Jn ops o,a.eval (.tmp t)=b.eval (.tmp t)):jh ops o a=jh ops o b:=by unfold jh;rw[List.map_congr_left h]
theorem MG{ops:Array Oper}{o:Oper}{a b:Act}(h:jh ops o a=jh ops o b){t:Nat}(c:t∈Jn ops o):a.eval (.tmp t)=b.eval (.tmp t):=by
 unfold jh at h;have d:((Jn ops o).map λt=>a.eval (.tmp t))=(Jn ops o).map λt=>b.eval (.tmp t):=by grind
 exact List.map_inj_left.1 d t c
def ny(ops:Array Oper)(N m:Nat):Bool:=
 (List.range ops.size).all (λi=>match ops[i]? with
  |some o=>(o.after.all λe=>decide (e.on<i)||!Region.binds .any e)&&(match o.dst with|some d=>decide (d<N)&&(List.range ops.size).all (λj=>decide (j=i)||match ops[j]? with|some a=>a.dst !=some d|none=>true)|none=>true)
  |none=>true)&&((decide (m=ops.size)||(List.range m).all λj=>(List.range (m+1)).any λk=>decide (j<k)&&waits ops k j)&&(decide (m=ops.size)||decide (m+1=ops.size)))
section
variable{P:cU}{ops:Array Oper}{Q:Exit->Act->cJ->Prop}{a0:Act}{w0:cJ}{N m sp:Nat}{za:Bool->Nat->cK->cJ->Prop}{E E':cJ->cJ->Prop}{Rch:Bool->cJ->Prop}
structure Er(Rch:Bool->cJ->Prop)(sp:Nat)(ops:Array Oper)(a0:Act)(N m:Nat)(za:Bool->Nat->cK->cJ->Prop)(L:Array Bool)(a:Act)(w:cJ):Prop where
 size:a.tmps.size=N
 defers:a.defers=a0.defers
 keep:∀j,wrote ops j=false->a.eval (.tmp j)=a0.eval (.tmp j)
 val:∀i o d,i<m->L.getD i false=true->ops[i]? =some o->o.dst=some d->za (L.getD sp false) i (a.eval (.tmp d)) w
 ext:Rch (L.getD sp false) w
 tail:∀i,m<=i->L.getD i false=false
 closed:∀i j,L.getD i false=true->waits ops i j=true->L.getD j false=true
 valn:∀i o,i<m->L.getD i false=true->ops[i]? =some o->o.dst=none->za (L.getD sp false) i (jh ops o a) w
 fresh:∀j,(∀k o,L.getD k false=true->ops[k]? =some o->o.dst≠some j)->a.eval (.tmp j)=a0.eval (.tmp j)
def Before(ops:Array Oper)(i j:Nat):Prop:=∀k o,ops[k]? =some o->o.dst=some j->waits ops k i=true
def MH{ops:Array Oper}{i j:Nat}(h:wrote ops j=false):Before ops i j:=λk o a b=>by grind [Array.any_eq_true',Array.mem_of_getElem?,wrote]
def UA(ops:Array Oper)(k i:Nat):Prop:=waits ops k i=true\/∃j,waits ops k j=true/\waits ops j i=true
def ol(E E':cJ->dC)(Rch:Bool->dC)(sp:Nat)(P:cU)(ops:Array Oper)(Q:Exit->Act->dC)(a0:Act)(N:Nat)(za:Bool->Nat->nu)(i:Nat)(o:Oper):Prop:=
 ∀b a w,(i=sp\/UA ops sp i->b=false)->a.tmps.size=N->a.defers=a0.defers->(∀j,Before ops i j->a.eval (.tmp j)=a0.eval (.tmp j))->
  (∀j d,(o.after.any λe=>e.on==j&&Region.binds .any e)=true->((ops[j]?).bind (·.dst))=some d->za b j (a.eval (.tmp d)) w)->Rch b w->
  wpOp P ops Q i (λf c=>∃v,f=a.put o.dst v/\(if i=sp then E' w c else E w c)/\za (b||decide (i=sp)) i v c/\(o.dst=none->v=jh ops o a)) a w
def tp(Rch:Bool->dC)(P:cU)(ops:Array Oper)(Q:Exit->Act->dC)(a0:Act)(N m:Nat)(za:Bool->Nat->nu):Prop:=
 ∀b a w,a.tmps.size=N->a.defers=a0.defers->(∀j,wrote ops j=false->a.eval (.tmp j)=a0.eval (.tmp j))->(∀i d,i<m->((ops[i]?).bind (·.dst))=some d->za b i (a.eval (.tmp d)) w)->(∀i o,i<m->ops[i]? =some o->o.dst=none->za b i (jh ops o a) w)->Rch b w->
  (m=ops.size->Q .normal a w)/\(m+1=ops.size->wpOp P ops Q m (λc e=>Q .normal c e) a w)
structure UB(E E':cJ->cJ->Prop)(Rch:Bool->cJ->Prop)(za:Bool->Nat->cK->cJ->Prop):Prop where
 v:∀b i v w w',za b i v w->E w w'->za b i v w'
 x:∀i v w w',za false i v w->E' w w'->za true i v w'
 r:∀b w w',Rch b w->E w w'->Rch b w'
 rx:∀w w',Rch false w->E' w w'->Rch true w'
def Er.next(I:ny ops N m=true)(C:UB E E' Rch za){L:Array Bool}{a:Act}{w:cJ}(f:Er Rch sp ops a0 N m za L a w)(S:L.size=ops.size){i:Nat}{o:Oper}(z:ops[i]? =some o)(T:i<m)
 {v:cK}{A:cJ}(l:if i=sp then E' w A else E w A)(U:za (L.getD sp false||decide (i=sp)) i v A)(K:o.dst=none->v=jh ops o a)(B:L.getD i false=false)(G:∀j,waits ops i j=true->L.getD j false=true):Er Rch sp ops a0 N m za (L.setIfInBounds i true) (a.put o.dst v) A:=by
 have D:(L.setIfInBounds i true).getD sp false=(L.getD sp false||decide (i=sp)):=by grind [iX,Array.getElem?_eq_some_iff]
 have last:∀k u,za (L.getD sp false) k u w->za (L.getD sp false||decide (i=sp)) k u A:=λk u h=>by by_cases e:i=sp;subst e;rw[cV rfl]at l;rw[B]at h⊢;simpa using C.x _ _ _ _ h l;rw[cS e]at l;simpa[e]using C.v _ _ _ _ _ h l
 have M:i<ops.size:=(iS.1 z).1;simp only[ny,eW]at I;have n:=nj.1 I.1 i (gf.2 M);rw[z]at n;simp only[eW]at n;refine⟨by rw[uD,f.size],by rw[y9,f.defers],λj s=>?_,λk p d g c b y=>?_,?_,λk g=>?_,λk j g s=>?_,λk p g c b y=>?_,λj s=>?_⟩;rw[tl,f.keep j s];grind [Array.any_eq_true',Array.mem_of_getElem?,wrote];rw[D];rw[iX _ _ _ cM]at c;by_cases e:i=k;subst e;rw[z]at b;obtain rfl:=dT b;rw[y,xo];grind;have J:=n.2;rw[y]at J;simp only[eW,kM]at J;rw[f.size];grind;rw[cS e]at c;have O:k<ops.size:=(iS.1 b).1;rw[tl];exact last _ _ (f.val k p d g c b y);grind;rw[D];have F:=f.ext;by_cases e:i=sp;subst e;rw[cV rfl]at l;rw[B]at F⊢;simpa using C.rx _ _ F l;rw[cS e]at l;simpa[e]using C.r _ _ _ F l;rw[iX _ _ _ cM,cS cM];exact f.tail k g;rw[iX _ _ _ cM]at g⊢;split;rfl;by_cases e:i=k;grind;rw[cS e]at g;exact f.closed k j g s;rw[D];rw[iX _ _ _ cM]at c;by_cases e:i=k;subst e;rw[z]at b;obtain rfl:=dT b;have V:jh ops o (a.put o.dst v)=jh ops o a:=by rw[y];rfl
 grind;rw[cS e]at c;have q:jh ops p (a.put o.dst v)=jh ops p a:=by
  refine Ep λt P=>?_;have⟨x,F,H⟩:=List.mem_filterMap.1 P;split at H;rename_i D;refine tl _ _ _ _ λW=>?_;have Q:waits ops k x.on=true:=by grind [Array.any_eq_true',waits]
  have R:=f.closed k x.on c Q;grind;grind
 rw[q];exact last _ _ (f.valn k p g c b y);rw[tl _ _ _ _ λe=>s i o (by rw[iX _ _ _ cM,cV rfl]) z e];refine f.fresh j λk p g b=>s k p ?_ b;rw[iX _ _ _ cM];grind
def zg{id:Nat}(hm:P.follows .mixedOrders=true)(T:ny ops N m=true)(hV:UB E E' Rch za)(h0:Rch false w0.drew)(hN:a0.tmps.size=N) (hs:∀i o,i<m->ops[i]? =some o->ol E E' Rch sp P ops Q a0 N za i o)(W:tp Rch P ops Q a0 N m za):(Code.region id ops true).wp P Q a0 w0:=by
 refine wp_region_any hm ?_;have I:m=ops.size\/m+1=ops.size:=by simp only[ny,eW,Kt,kM]at T;grind
 have ah:m<=ops.size:=cM;have F:m+1=ops.size->∀j,j<m->∃k,j<k/\k<=m/\waits ops k j=true:=λai j t=>by have h:=T;simp only[ny,eW]at h;obtain h|h:=Kt _ _▸h.2.1;grind;have h2:=nj.1 h j (gf.2 t);grind
 have X:∀(i:Nat) (o:Oper),ops[i]? =some o->∀e∈o.after,Region.binds .any e=true->e.on<i:=λi o r e he hb=>by have q:i<ops.size:=(iS.1 r).1;have J:=T;simp only[ny,eW]at J;have K:=nj.1 J.1 i (gf.2 q);rw[r]at K;simp only[eW]at K;grind [Array.all_eq_true_iff_forall_mem]
 have u:∀L:Array Bool,L.size=ops.size->Region.ready .any ops L=[]->∀i,i<ops.size->L.getD i false=true:=by
  intro L U hr i;induction i using Nat.strongRecOn with
  |_ i ih=>
   intro q;refine Ku λaj=>?_;have r:ops[i]? =some ops[i]:=nh q;have y:i∈Region.ready .any ops L:=by unfold Region.ready;refine py.2 ⟨gf.2 q,?_⟩;simp only[eW,sH];grind
   grind
 have Y:∀(f:Nat) (L:Array Bool) (a:Act) (w:cJ),L.size=ops.size->Er Rch sp ops a0 N m za L a w->((List.range ops.size).countP λi=>!L.getD i false)<=f->wpAny P .any ops Q f L a w:=by
  intro f;induction f with
  |zero=>
   intro L a w U b hc;have g:∀i,i<ops.size->L.getD i false=true:=λi q=>by grind [List.countP_eq_zero]
   refine⟨?_,?_⟩;grind [List.filter_eq_nil_iff,Region.ready];have G:m=ops.size:=by obtain h|h:=I;grind;have V:=g m cM;rw[b.tail m (di _)]at V;grind
   exact(W _ a w b.size b.defers b.keep (λi d q n=>by have⟨o,r,n⟩:=jT.1 n;exact b.val i o d q (g i cM) r n) (λi o q r n=>b.valn i o q (g i cM) r n) b.ext).1 G
  |succ f ih=>
   intro L a w U b hc;refine⟨λhr=>?_,λi q=>?_⟩;have g:=u L U hr;have G:m=ops.size:=by obtain h|h:=I;grind;have V:=g m cM;rw[b.tail m (di _)]at V;grind
   exact(W _ a w b.size b.defers b.keep (λi d q n=>by have⟨o,r,n⟩:=jT.1 n;exact b.val i o d q (g i cM) r n) (λi o q r n=>b.valn i o q (g i cM) r n) b.ext).1 G;unfold Region.ready at q;have⟨D,H⟩:=py.1 q;have D:=gf.1 D;simp only[eW,sH]at H;have r:ops[i]? =some ops[i]:=nh D;rw[r]at H;simp only[mg,kK]at H;have p:L.getD i false=false:=by grind
   have z:∀j,(ops[i].after.any λe=>e.on==j&&Region.binds .any e)=true->L.getD j false=true:=λj t=>by grind
   have M:(List.range ops.size).countP (λj=>!(L.setIfInBounds i true).getD j false)<=f:=by
    have ak:(List.range ops.size).countP (λj=>!(L.setIfInBounds i true).getD j false)<(List.range ops.size).countP (λj=>!L.getD j false):=by
     have y:=gf.2 D;generalize List.range ops.size=l at y;have Z:∀l:cN,l.countP (λj=>!(L.setIfInBounds i true).getD j false)<=l.countP (λj=>!L.getD j false):=λl=>List.countP_mono_left λx _ hx=>by grind [iX]
     induction l with
     |nil=>grind
     |cons x l aa=>
      obtain rfl|A:=fi.1 y;grind [List.countP_cons_of_neg,iX,List.countP_cons_of_pos,Nat.lt_succ_of_le];have h2:=aa A;rw[List.countP_cons,List.countP_cons];have V:(if(!(L.setIfInBounds i true).getD x false)=true then 1 else 0)<=(if(!L.getD x false)=true then 1 else 0):=by rw[iX _ _ _ cM];grind
      omega
    omega
   obtain A|A:=gC i m
   have ab:=hs i ops[i] A r (L.getD sp false) a w (λe=>by
    obtain e|e:=e;grind;cases O:L.getD sp false with
    |false=>rfl
    |true=>
     obtain e|⟨j,e1,e2⟩:=e;rw[b.closed sp i O e]at p;grind;rw[b.closed j i (b.closed sp j O e1) e2]at p;grind) b.size b.defers (λj t=>b.fresh j λk o hk r e=>by
    have:=b.closed k i hk (t k o r e);grind) (λj d t n=>by
    have⟨R,B,n⟩:=jT.1 n;have al:j<i:=by grind
    exact b.val j R d cM (z j t) B n) b.ext
   refine wpOp_mono (λa' w' h=>?_) ab;obtain⟨v,rfl,he,hv,ac⟩:=h;exact ih _ _ _ cL (b.next T hV U r A he hv ac p λj t=>z j (by grind [waits])) M;have C:m+1=ops.size:=cM;obtain rfl:i=m:=cM;have s:∀c j,j+c=i->0<c->L.getD j false=true:=by
    intro c;induction c using Nat.strongRecOn with
    |_ c ad=>
     intro j t am;have⟨k,an,ao,ae⟩:=F C j cM;obtain af|af:=gC k i;exact b.closed k j (ad (i-k) cM k cM cM) ae;obtain rfl:k=i:=cM;grind [waits]
   have S:=(W _ a w b.size b.defers b.keep (λj d t n=>by have⟨R,B,n⟩:=jT.1 n;exact b.val j R d t (s (i-j) j cM cM) B n) (λj R t B n=>b.valn j R t (s (i-j) j cM cM) B n) b.ext).2 C;refine wpOp_mono (λa' w' h=>?_) S;have g:∀j,j<ops.size->(L.setIfInBounds i true).getD j false=true:=λj t=>by rw[iX _ _ _ cM];split;rfl;exact s (i-j) j cM cM
   have ag:Region.ready .any ops (L.setIfInBounds i true)=[]:=by grind [List.filter_eq_nil_iff,Array.getD_eq_getD_getElem?,Array.getElem?_eq_getElem,Region.ready]
   cases f with
   |zero=>exact⟨ag,h⟩
   |succ f=>exact⟨λ_=>h,λj t=>cL⟩
 refine Y _ _ _ _ dq ⟨hN,rfl,λ_ _=>rfl,λi o d _ hl _ _=>?_,?_,λi _=>?_,λi j q _=>?_,λi o _ hl _ _=>?_,λ_ _=>rfl⟩ ?_;simp[IE,vP]at hl;grind;have:(Array.replicate ops.size false).getD sp false=false:=by simp only[IE,vP];grind
 rw[this];exact h0;simp only[IE,vP];grind;simp[IE,vP]at q;grind;simp[IE,vP]at hl;grind;exact du List.countP_le_length dq
end
end Go.Proofs.W
