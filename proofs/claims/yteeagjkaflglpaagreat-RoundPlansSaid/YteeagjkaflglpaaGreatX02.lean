/- Laws that the proof needs, part 2. Conditions: none. -/
import Derived.Conc.CompanyDraw
import Derived.Conc.TokenWalk
import Derived.Laws.MakeOwn
import Derived.Conc.AppendWalk
import Derived.Below
import Derived.Outline
import Derived.Lib.Hide
import Derived.Conc.SmallLaws
import Derived.ArgAppend
import Derived.Defers
import Derived.Scope
import Derived.RangeFuncRecord
import Derived.RangeFuncLeaves
import Derived.Test.YteeagjkaflglpaaGreatX01
set_option maxRecDepth 100000
set_option maxHeartbeats 8000000
set_option linter.all false
variable{m k i j o p s d:Nat}{w t e:cI}{x y z:cJ}{A B C:Nat->Prop}{R:Go.dz.dO}{l f:List Nat}{T U:cQ}{a:Option Go.Addr}{W X:Array cJ}{M Y:List cJ}{I J:Int}{h:Go.Addr}{D E:Bool}{F:Go.Frame}{O Q:Go.Obj}{K:dY}{Z:cP}{S:cI->Prop}{P:cU}
namespace Go.Proofs.W
open Go.Conc Go.dz Go.dz.Cr Go.dz.Wg Go.RowKit Go.Conc.Lib Go.ConcR.Gen
open Go.ConcR (KK wgBlock WgAt stA smA mk DC0)
def Cl(d e a b c f:Bool):Prop:=(a=true->e=true)/\(b=true->a=true)/\(c=true->b=true)/\(f=true->c=true/\d=true)
instance (b1 b2 b3 b4 b5 b6:Bool):Decidable (Cl b1 b2 b3 b4 b5 b6):=by unfold Cl;infer_instance
def IM:∀g a b c d e f:Bool,Cl a b c d e f->Region.ready .any fG #[g,a,b,c,d,e,f,false]≠[]:=by decide+kernel
def ct(b:Bool):Nat:=if b then 0 else 1
def Nx(f a b c d e g:Bool)(i:Nat):Prop:=(i=0/\f=false)\/(i=1/\a=false)\/(i=2/\b=false)\/(i=3/\c=false/\b=true)\/(i=4/\d=false/\c=true)\/(i=5/\e=false/\d=true)\/(i=6/\g=false/\e=true/\a=true)\/(i=7/\f=true/\a=true/\b=true/\c=true/\d=true/\e=true/\g=true)
instance (b0 b1 b2 b3 b4 b5 b6:Bool) (i:Nat):Decidable (Nx b0 b1 b2 b3 b4 b5 b6 i):=by unfold Nx;infer_instance
theorem FU:∀g a b c d e f:Bool,Cl a b c d e f->((Region.ready .any fG #[g,a,b,c,d,e,f,false]).all λi=>decide (Nx g a b c d e f i))=true:=by decide+kernel
def IN{a b c d e:Bool}(h:Cl E a b c d e)(i:Nat)(f:i∈Region.ready .any fG #[D,E,a,b,c,d,e,false]):Nx D E a b c d e i:=by grind [List.all_eq_true,FU]
structure K2(pc ic oc Wg Ch T:Nat)(pl:Addr)(i:Int)(Q:cI->Prop)(p0 p1 p2 p3 p4 p5 p6 p7 sa:cJ)(m n:Int)(s:Bool)(Sc:cI->cJ->Prop)(w:cI):Prop where
 kw:KW pc ic oc Wg Ch pl i Q w
 t:∃fz,w.heap[T]? =some (.cells #[p0,p1,p2,p3,p4,p5,p6,p7,sa,.int .i64 m,.int .i64 n,.bool s] 245 fz)
 sc:Sc w (.agg #[sa,.int .i64 m,.int .i64 n,.bool s])
noncomputable def th(c d e f g T:Nat)(h:Addr)(i:Int)(a b:cJ)(j k l m n o p:Bool):Act:=
 kg c d e f T h (.pointer (some ⟨T,0,none⟩)) (.int .i64 i) undef (if j then .chan (some g)else undef) (if k then .int .i64 i else undef) (if l then .pointer (some ⟨T,0,none⟩)else undef)
  (if m then .pointer (some ⟨T,0,none⟩)else undef) (if n then .pointer (some ⟨T,8,none⟩)else undef) (if o then a else undef) (if p then b else undef)
def z8{a:Array Oper}{fuel t:Nat}{l:Array Bool}(c:Region.ready .any a l≠[]):∃i d,i∈Region.ready .any a l/\Region.linearise.go .any a (fuel+1) t l []=i::Region.linearise.go .any a fuel d (l.setIfInBounds i true) []:=by have b:t%(Region.ready .any a l).iN<(Region.ready .any a l).iN:=Nat.mod_lt _ cK;refine⟨(Region.ready .any a l)[t%(Region.ready .any a l).iN],t/(Region.ready .any a l).iN,eB b,?_⟩;grind [List.getElem?_eq_getElem,linearise_go_acc,Region.linearise.go,Region.ready]
def Se{af:iT}{P Q R T U:cJ}{n:Int}{V:cI->cJ->Prop}(h2:A k)(h3:A i)(hT:B p) (f:pu B A (Lv 241 j) (K2 m k i j o p h I S x y z P Q R T U (.slice a s d) J n D V)) (hn:WK PR 241 j false A af B (K2 m k i j o p h I S x y z P Q R T U (.slice a s d) J n D V) (G (FP.at (th m k i j o p h I (.agg #[.slice a s d,.int .i64 J,.int .i64 n,.bool D]) (.agg #[.int .i64 I,.slice a s d,.int .i64 J,.int .i64 n,.bool D]) true true true true true true true) [.inRegion fG [7]]) [bot])):∀(fuel:Nat) (q r u C E F g:Bool) (t:Nat),Cl r u C E F g->fuel=1+ct q+ct r+ct u+ct C+ct E+ct F+ct g->WK PR 241 j false A af B (K2 m k i j o p h I S x y z P Q R T U (.slice a s d) J n D V) (G (FP.at (th m k i j o p h I (.agg #[.slice a s d,.int .i64 J,.int .i64 n,.bool D]) (.agg #[.int .i64 I,.slice a s d,.int .i64 J,.int .i64 n,.bool D]) q r u C E F g) [.inRegion fG (Region.linearise.go .any fG fuel t #[q,r,u,C,E,F,g,false] [])]) [bot]):=by
 intro fuel;induction fuel with
 |zero=>intro q r u C E F g t b hf;omega
 |succ fuel K=>
  intro q r u C E F g t b hf;obtain⟨ag,L,hj,e⟩:=z8 (fuel:=fuel) (t:=t) (IM q r u C E F g b);rw[e];obtain⟨rfl,l⟩|⟨rfl,l⟩|⟨rfl,l⟩|⟨rfl,l,M⟩|⟨rfl,l,M⟩|⟨rfl,l,M⟩|⟨rfl,l,M,W⟩|⟨rfl,X,Y,Z,aa,ab,ac,ad⟩:=IN b ag hj;subst l;refine WK.load (v:=.chan (some o)) f rfl rfl (by k_ne) (λw H=>?_) (λw H e c=>?_) (K true r u C E F g L b (by grind [ct]));have b:=H.kw.o;simp only[fG,th,kg];go_simp;have b:=H.kw.o;simp only[fG,th,kg]at c;simp[go_sem,b]at c;exact .inl ⟨_,_,c,.inr (.inl ⟨rfl,h3⟩)⟩;subst l;refine WK.load (v:=i64 I) f rfl rfl (by k_ne) (λw H=>?_) (λw H e c=>?_) (K q true u C E F g L ⟨b.1,b.2.1,b.2.2.1,λae=>⟨(b.2.2.2 ae).1,rfl⟩⟩ (by grind [ct]));have b:=H.kw.i;simp only[fG,th,kg];go_simp;have b:=H.kw.i;simp only[fG,th,kg]at c;simp[go_sem,b]at c;exact .inl ⟨_,_,c,.inr (.inl ⟨rfl,h2⟩)⟩;subst l;refine WK.val (v:=dR p) f rfl rfl (by k_ne) (λw=>?_) (λw=>?_) (K q r true C E F g L ⟨cK,b.2.1,b.2.2⟩ (by grind [ct]));simp only[fG,th,kg];go_simp;simp only[fG,th,kg];simp[go_sem];subst l M;refine WK.val (v:=dR p) f rfl rfl (by k_ne) (λw=>?_) (λw=>?_) (K q r true true E F g L ⟨cK,cK,b.2.2⟩ (by grind [ct]));simp only[fG,th,kg];go_simp;simp only[fG,th,kg];simp[go_sem];subst l M;refine WK.val (v:=qI p 8) f rfl rfl (by k_ne) (λw=>?_) (λw=>?_) (K q r u true true F g L ⟨b.1,cK,cK,b.2.2.2⟩ (by grind [ct]));simp only[fG,th,kg];go_simp;simp only[fG,th,kg];simp[go_sem];subst l M;refine WK.load (v:=.agg #[.slice a s d,i64 J,i64 n,.bool D]) f rfl rfl (by k_ne) (λw H=>?_) (λw H e c=>?_) (K q r u C true true g L ⟨b.1,b.2.1,cK,λae=>⟨rfl,(b.2.2.2 ae).2⟩⟩ (by grind [ct]));obtain⟨fz,b⟩:=H.t;have c8:w.cell? (dq p 8)=some (.slice a s d):=by simp[World.cell?,b]
  have c9:w.cell? (dq p 9)=some (i64 J):=by simp[World.cell?,b]
  have N:w.cell? (dq p 10)=some (i64 n):=by simp[World.cell?,b]
  have O:w.cell? (dq p 11)=some (.bool D):=by simp[World.cell?,b]
  simp only[fG,th,kg];go_simp;obtain⟨fz,b⟩:=H.t;have c8:w.cell? (dq p 8)=some (.slice a s d):=by simp[World.cell?,b]
  have c9:w.cell? (dq p 9)=some (i64 J):=by simp[World.cell?,b]
  have N:w.cell? (dq p 10)=some (i64 n):=by simp[World.cell?,b]
  have O:w.cell? (dq p 11)=some (.bool D):=by simp[World.cell?,b]
  simp only[fG,th,kg]at c;simp[go_sem,c8,c9,N,O]at c;obtain c|c|c|c:=c<;>exact .inl ⟨_,_,c,.inl hT⟩
  ·subst l M W;refine WK.val (v:=.agg #[i64 I,.slice a s d,i64 J,i64 n,.bool D]) f rfl rfl (by k_ne) (λw=>?_) (λw=>?_) (K q true u C E true true L ⟨b.1,b.2.1,b.2.2.1,cK⟩ (by grind [ct]))
   ·simp only[fG,th,kg];first|(go_simp;done)|(go_simp;have:=OU I J n D a s d w;rw[this];rfl)
   simp only[fG,th,kg];have:=Mf I J n D a s d w;simp[go_sem,this]
  subst X Y Z aa ab ac ad;have:fuel=0:=by grind [ct]
  subst this;simpa[Region.linearise.go]using hn
end Go.Proofs.W
namespace Go.dz.Wg
open Go.Conc Go.ConcN Go.RowKit Go.Conc.Lib Go.ConcR.Gen Go.ConcN.Gen Go.dz
open Go.ConcR (KK wgBlock WgAt stA smA mk Payload DC0)
section
variable{L:WgLink}
def Wv(H:WgLib P L){b qt:Nat}{f:List Frame}(d:F.mode=.returning)(i:QuitsD P qt 0 (G F f))(w:cI)(c:True/\WgLive L.tWg b w):Goes P false (eP Cr.dp Cr.dp (Cr.Lv L.tWg b)) DC0 (Cr.R0 P L.tWg b) 43 (G ((baseD L.done).at ⟨#[.pointer (some ⟨b,0,none⟩),undef,undef,undef],[]⟩ [.code (body_done L)]) (F::f)) w:=by have e:∀{w a:cI},True/\WgLive L.tWg b w->eP Cr.dp Cr.dp (Cr.Lv L.tWg b) w a->True/\WgLive L.tWg b a:=λh r=>⟨trivial,r.live h.2⟩;lib_facts;have g:=@R8 L;simp only[body_done,body_add,doneFn,addFn,kG,Nat.reduceSub,Array.replicate,List.replicate,List.append_toArray,nP,oD]at g⊢;u_reg e c;u_op e c;u_in e c;refine goes_call rfl rfl (by k_ne) rfl H.f_add (nm_add L) rfl ⟨⟨rfl,rfl⟩,?_⟩;walk_nrmf addFn;refine g H (qt:=qt+3) ?_ _ c;q_c cY;q_c stepG_end;exact QuitsD.leaveD rfl rfl H.f_done rfl d i
end
end Go.dz.Wg
namespace Go.Proofs.W
open Go.Conc Go.dz Go.dz.Cr Go.dz.Wg Go.RowKit Go.Conc.Lib Go.ConcR.Gen
open Go.ConcR (KK wgBlock WgAt stA smA mk DC0)
def OV{a:dW->cJ}{o:Oper}{b y:dW}(c:o.op=.send b y)(d:a b=.chan (some m))(e:a y=x)(w:cI):(execOp a o).run PR w=.ok (.comm #[scase m x undef] true .send) w:=by simp only[execOp,c,d,e];simp;rfl
def FV{Ch:Nat}{v:cJ}{a:dW->cJ}{o:Oper}{x y:dW}(b:o.op=.send x y)(c:a x=.chan (some Ch))(d:a y=v)(w:cI):(execOp a o).events PR w #[]=#[]:=by simp only[execOp,b,c,d];simp
def z9{R:cI->dB}{S:cP->dB}{K:dB}(d:∀{w a:cI},K w->R w a->K a){b:cP}(e:Z.status=.running)(f:∀w,stepG PR false Z w=.go b w #[]) (h:∀w,K w->Goes PR false R DC0 S m b w):∀w,K w->Goes PR false R DC0 S (m+1) Z w:=by intro w g;refine .inr ⟨e,λc i=>?_⟩;rw[f c];exact⟨⟨rfl,rfl⟩,h c (d g i)⟩
def Aa{b:Func}(f:dY)(c:PR.funcs[f]? =some b)(a:b.results=#[])(d:eF)(e:List Item):QuitsD PR 2 0 (G {(baseD f).at ⟨d,[]⟩ e with mode:=.returning} [bot]):=by refine .inr ⟨rfl,G bot [],#[],dt,λw=>?_,.inr ⟨rfl,{G bot []with status:=.finished},#[],dt,λw=>?_,⟨rfl,rfl⟩⟩⟩;simp[G,stepG,unwind,doReturn,Frame.at,baseD,c,results,a,bot,goexitEntry,seen,GStep.after,kH];simp[G,stepG,unwind,bot,goexitEntry,Frame.catches];rfl
def IP:∀(w:cI),Lv 241 j w->Goes PR false (eP dp dp (Lv 241 j)) DC0 (R0 PR 241 j) 46 (G (FP.at (th m k i j o p h I x y true true true true true true true) [.inRegion fG []]) [bot]) w:=by have b:∀{w a:cI},Lv 241 j w->eP dp dp (Lv 241 j) w a->Lv 241 j a:=λc r=>r.live c;refine z9 (K:=Lv 241 j) b rfl (λ_=>cY)<|z9 (K:=Lv 241 j) b rfl (λ_=>stepG_end)<|z9 (K:=Lv 241 j) b rfl (λ_=>stepG_unwind_enter rfl Tryz.func189 rfl rfl) ?_;intro w d;exact Wv (L:=Tryz.link) Tryz.yd (qt:=2) rfl (Aa 188 Tryz.func188 rfl _ _) w ⟨trivial,d⟩
def Sf{i d f c Ch T u:Nat}{o p q r s:cJ}{n:Int}{Sc:cI->cJ->Prop}{l:Nat->cJ->(dn)->dB}(E:A d)(F:A f)(H:B T) (g:pu B A (Lv 241 c) (K2 i d f c Ch T h I S x y z o p q r s (.slice a m k) J n D Sc)) (K:∀w,K2 i d f c Ch T h I S x y z o p q r s (.slice a m k) J n D Sc w->l u (.agg #[.int .i64 I,.slice a m k,.int .i64 J,.int .i64 n,.bool D]) B w):WK PR 241 c false A (Sends PR 241 c Ch l u) B (K2 i d f c Ch T h I S x y z o p q r s (.slice a m k) J n D Sc) (G ((FT i d f c T h I).finish undef) [bot]):=by
 have e:(FT i d f c T h I).finish gT=FP.at (kg i d f c T h (dR T) (i64 I) gT gT gT gT gT gT gT gT) [.inRegion FR [],.code (.region 3 fG true)]:=by unfold FT;rw[Frame.finish_at];rfl
 rw[e];refine WK.ctl (g':=G (FP.at (kg i d f c T h (dR T) (i64 I) gT gT gT gT gT gT gT gT) [.code (.region 3 fG true)]) [bot]) g rfl (λ_=>cY) ?_;intro w L;refine mw rfl λC M=>⟨_,_,_,B,stepG_region_draw,⟨rfl,rfl,rfl,dg _,λb=>⟨.inl,λj=>j.elim id λj=>absurd j.2 (Nat.not_lt.2 j.1)⟩,λ_ _ _=>rfl,λe N=>by simp at N⟩,?_⟩;have t:K2 i d f c Ch T h I S x y z o p q r s (.slice a m k) J n D Sc {C with drawn:=C.drawn+1}:=(g w _ (M.trans ⟨rfl,rfl,rfl,dg _,λ_ _ _=>rfl,λj=>j⟩) L);have O:PR.follows .mixedOrders=true:=eE;simp only[Region.schedule,O,Bool.true_or,ej];refine Se E F H g ?_ 8 false false false false false false false _ kA rfl _ t;refine WK.stop g λw t=>⟨.agg #[i64 I,.slice a m k,i64 J,i64 n,.bool D],undef,rfl,λw=>?_,K w t,46,?_⟩;refine(stepG_comm rfl rfl (by k_ne) (OV rfl rfl rfl w)).trans ?_;unfold listed;rw[FV (v:=.agg #[i64 I,.slice a m k,i64 J,i64 n,.bool D]) (Ch:=Ch) rfl rfl rfl w,seen_none];rfl;exact IP w t.kw.live
def iy{w w':cI}{ad:Addr}(h:w'.heap[ad.block]? =w.heap[ad.block]?):w'.cell? ad=w.cell? ad:=by unfold World.cell?;rw[h]
def worker{Q:dB}{rd:dn}{Sc:(dn)->cI->cJ->Prop}{val:Nat->cJ->(dn)->dB}(C:rd m)(r:rd i)(z:rd j)(M:yV rd Q)(N:Ui rd o h I Q Sc) (O:∀u w a l c D n s,Sc u w (.agg #[.slice a l c,.int .i64 D,.int .i64 n,.bool s])->val k (.agg #[.int .i64 I,.slice a l c,.int .i64 D,.int .i64 n,.bool s]) u w):WK PR 241 o false rd (Sends PR 241 o p val k) dp (KW m i j o p h I Q) (born PR (call188 m i j o)):=by refine Sd C r z M λT=>?_;rintro w ⟨f,P,U,V,W,X⟩;have e:=N (λx=>dp x\/x=T) w T (FT m i j o T h I) [bot] f.q (λb=>⟨λd=>d.elim (λd=>d.elim) id,.inr⟩) P;have e:=Wy.keep (B:=λb=>b=m\/b=i\/b=j) (by rintro b (rfl|rfl|rfl);exact⟨C,λd=>d.elim (λd=>d.elim) (λd=>cL),uh f.p⟩;exact⟨r,λd=>d.elim (λd=>d.elim) (λd=>cL),uh f.i⟩;exact⟨z,λd=>d.elim (λd=>d.elim) (λd=>cL),uh f.o⟩) e;have e:=Wy.Wu (λd=>d.elim (λd=>d.elim) (λd=>cL)) f.live e;refine e.bind ?_;rintro u g K ⟨⟨⟨rfl,y,Y,Z,p2,p3,p4,p5,p6,p7,a,l,cc,D,n,s,L,E,F⟩,G⟩,R⟩;have H:KW m i j o p h I (λ_=>True) K:=⟨(iy (G m (.inl rfl))).trans f.p,(iy (G i (.inr (.inl rfl)))).trans f.i,(iy (G j (.inr (.inr rfl)))).trans f.o,R,trivial⟩;refine Sf (T:=T) (Sc:=λw v=>∀A,eP u rd (Lv 241 o) w A->Sc u A v) r z y (λw A J d=>⟨KW.rely C r z (λ_ _ _ _ d=>d) w A J d.kw,d.t.imp λL d=>J.obj (.inl y) d,λS r=>d.sc S (J.trans r)⟩) (λw d=>O _ _ _ _ _ _ _ _ (d.sc w (.refl _ _ _ _))) K ⟨H,⟨L,E⟩,F⟩
end Go.Proofs.W
namespace Go.dz.Cr
open Go.Conc Go.dz Go.dz.Kn Go.dz.Wg
open Go.ConcR (KK wgBlock WgAt stA smA mk DC0)
section
variable{P:cU}{own:Nat->Prop}{ty:cQ}{Wg Ch:Nat}{rc:Nat->Prop}{sY Fin:cP->cI->Prop}
def Ab(q:∀g w,sY g w->∃k,Goes P false (eP own rc (Lv ty Wg)) DC0 (YI P false (eP own rc (Lv ty Wg)) Wg ty sY Fin) k g w)
 (r:∀g w,Fin g w->Wy P ty Wg false rc (VX P Ch) own g w):Anchor P ty Wg Ch rc λo g w=>o=own/\sY g w:=by
 have f:∀{k:Nat} {g:cP} {w:cI},Goes P false (eP own rc (Lv ty Wg)) DC0 (XQ P false (eP own rc (Lv ty Wg)) Wg Fin) k g w->Wy P ty Wg false rc (Xl P ty Wg Ch rc) own g w:=λh=>
  jR h λg w h=>rF (λh=>jR h λg w h=>rF (λh=>vY h r) h) h
 refine⟨λo g w ⟨s,j⟩=>?_⟩;subst s;have⟨k,a⟩:=q g w j;refine jR a λg w ⟨c,d⟩=>⟨c,λv t i=>?_⟩;have⟨b,e,j,u⟩:=d v t i;refine⟨b,e,λl=>?_,λl=>?_⟩;have⟨k,a⟩:=j l;exact f a;have⟨k,a⟩:=u l;refine jR a λg w ⟨c,d⟩=>⟨c,λx m n=>?_⟩;have⟨y,z⟩:=d x m n;refine⟨λe=>?_,λe=>?_⟩;have⟨b,p,k,a⟩:=y e;refine⟨b,p,jR a λg w h=>rF (λh=>jR h λg w ⟨c,d,A,B⟩=>⟨c,d,A,λi=>?_⟩) h⟩;have⟨b,e,k,a⟩:=B i;refine⟨b,e,jR a λg w ⟨c,d⟩=>⟨c,λi=>?_⟩⟩;have⟨b,e,k,a⟩:=d i;exact⟨b,e,f a⟩;have⟨b,p,k,a⟩:=z e;exact⟨b,p,jR a λg w h=>⟨rfl,h⟩⟩
def FW{m:Nat}{g:cP}{w:cI}(h:Goes P false (eP own rc (Lv ty Wg)) DC0 (Ct P false (eP own rc (Lv ty Wg)) .disable sY) m g w):
 Wy P ty Wg false rc (Xm P ty Wg rc λo g w=>o=own/\sY g w) own g w:=
 jR h λg w h=>rF (λh=>jR h λg w h=>⟨rfl,h⟩) h
end
end Go.dz.Cr
namespace Go.Proofs.W
open Go.Conc Go.dz Go.dz.Cr Go.dz.Wg Go.RowKit Go.Conc.Lib Go.ConcR.Gen
open Go.ConcN Go.ConcN.Gen
open Go.ConcR (KK wgBlock WgAt stA smA mk DC0)
noncomputable def FX:Frame:=baseD 191
noncomputable def call191(a b:Nat):Deferred:={target:=.fn (.func 191) #[.pointer (some ⟨b,0,none⟩),.pointer (some ⟨a,0,none⟩)],args:=#[]}
noncomputable def DU:Code:=Tryz.f191.body.getD .skip
def Sh(a b:Nat)(w:cI):stepG PR false (born PR (call191 a b)) w=.go (G (FX.at ⟨#[.pointer (some ⟨b,0,none⟩),.pointer (some ⟨a,0,none⟩),undef,undef],[]⟩ [.code DU]) [bot]) w #[]:=by simp[born,call191,stepG,unwind,callDeferred,invoke,callFunc,Tryz.func191,Tryz.f191,seen,GStep.after,G,Frame.enter,Frame.at,FX,baseD,bot,DU]
structure KC(oc Wg Ch:Nat)(w:cI):Prop where
 o:w.cell? ⟨oc,0,none⟩=some (.chan (some Ch))
 live:Lv 241 Wg w
def KC.rely{own rd:dn}(b:rd m):pu own rd (Lv 241 k) (KC m k i):=λ_ _ a h=>⟨a.cell (.inr b) h.o,a.live h.live⟩
noncomputable def ti:Array Oper:=#[{dst:=some 2,op:=Op.call {callee:=Callee.value (Operand.func 192),args:=#[Operand.tmp 0],argTypes:=#[241]},type:=0,pos:= "plan.go:152",after:=#[],guard:=none}]
noncomputable def oL:Array Oper:=#[{dst:=some 3,op:=Op.load 232 (Operand.tmp 1),type:=232,pos:= "plan.go:153",after:=#[],guard:=none},{dst:=none,op:=Op.call {callee:=Callee.builtin Builtin.close,args:=#[Operand.tmp 3],argTypes:=#[232]},type:=0,pos:= "plan.go:153",after:=#[{on:=0,ground:=Ground.data}],guard:=none}]
noncomputable def oM(a b:Nat)(c d:cJ):Act:=⟨#[.pointer (some ⟨b,0,none⟩),.pointer (some ⟨a,0,none⟩),c,d],[]⟩
def IQ(f:A m):WK PR 241 k false A (VX PR i) dp (KC m k i) (G (FX.at (oM m k (.tuple #[]) undef) [.inRegion ti [],.code (.region 1 oL false)]) [bot]):=by have a:pu dp A (Lv 241 k) (KC m k i):=KC.rely f;refine WK.ctl a rfl (λ_=>cY)<|WK.ctl a rfl (λ_=>ia) ?_;simp only[il,fi,fO,Nat.reduceAdd,dj,List.range,List.range.loop];simp only[oL,oM];refine WK.load (v:=.chan (some i)) a rfl rfl (by k_ne) (λw b=>?_) (λw b e g=>?_) ?_;have d:=(λw b=>b.o) w b;go_simp;have d:=(λw b=>b.o) w b;simp[go_sem,d]at g;exact .inl ⟨_,_,g,.inr (.inl ⟨rfl,f⟩)⟩;walk_nrm;refine WK.stop a λw b=>⟨rfl,?_,G (FX.at (oM m k (.tuple #[]) (.chan (some i))) [.inRegion oL []]) [bot],rfl,λs r d=>?_,5,?_⟩;rfl;rw[stepG_close (c:=i) rfl rfl (by k_ne) rfl rfl d eE];rfl;exact mS (n:=4) cL<| .ctl rfl (λ_=>cY)<| .ctl rfl (λ_=>stepG_end)<|Aa 191 Tryz.func191 rfl _ _
def closer{b Wg d:Nat}{rd:dn}(m:rd b)(n:b≠Wg)(w:cI)(l:KC b Wg d w):OC PR 241 Wg d rd dp (born PR (call191 b Wg)) w:=by
 have i:pu dp rd (Lv 241 Wg) (KC b Wg d):=KC.rely m;have p:∀{w e:cI},(w.cell? (dq b 0)=some (.chan (some d)))/\WgLive Tryz.link.tWg Wg w->eP dp rd (Lv 241 Wg) w e->(e.cell? (dq b 0)=some (.chan (some d)))/\WgLive Tryz.link.tWg Wg e:=λh r=>⟨r.cell (.inr m) h.1,r.live h.2⟩;have j:∀(w:cI) (a:Addr) (x:cJ),a.block=Wg->w.cell? (dq b 0)=some (.chan (some d))->(w.setCell a x).cell? (dq b 0)=some (.chan (some d)):=by intro w a x q h;rw[iy];exact h;exact Below.heap_setCell w a x b (by rw[q];exact n)
 have s:=λ(g:cP) (w:cI)=>IK (L:=Tryz.link) (main:=false) (R:=eP dp rd (Lv 241 Wg)) (Wg:=Wg) (F:=λw=>w.cell? (dq b 0)=some (.chan (some d)))
  (b₀:=FX) (a₀:=oM b Wg gT gT) (ops₀:=ti) (i₀:=0) (rest₀:=[]) (k₀:=[.code (.region 1 oL false)]) (cs:=[bot]) Tryz.yd p (λw x h=>j w _ x rfl h) (λw x h=>j w _ x rfl h) rfl g w
 refine⟨_,Ab s ?_,?_⟩;rintro g w ⟨rfl,t,u⟩;exact IQ m w ⟨t,u⟩;suffices h:WK PR 241 Wg false rd (Xm PR 241 Wg rd λo g w=>o=dp/\AnchWN Tryz.link (λw=>w.cell? (dq b 0)=some (.chan (some d))) Wg (FX.at (oM b Wg gT gT) [.inRegion ti [0],.code (.region 1 oL false)]) [bot] g w) dp (KC b Wg d) (born PR (call191 b Wg))from h w l;refine WK.ctl i rfl (Sh b Wg) ?_;simp only[DU,Tryz.f191,kG];refine WK.ctl i rfl (λ_=>dk)<|WK.ctl i rfl (λ_=>ia) ?_;simp only[il,fi,fO,Nat.reduceAdd,dj,List.range,List.range.loop];refine WK.enter (f:=Tryz.link.wait) (fn:=waitFn Tryz.link) (c:=body_wait Tryz.link) i rfl rfl (by k_ne) rfl Tryz.yd.f_wait (nm_wait Tryz.link) eE ?_;intro w l;rw[enter_at (fn:=waitFn Tryz.link) (c:=body_wait Tryz.link) _ Tryz.yd.f_wait eE]
 have v:=IJ (L:=Tryz.link) (main:=false) (R:=eP dp rd (Lv 241 Wg)) (Wg:=Wg) (F:=λw=>w.cell? (dq b 0)=some (.chan (some d)))
  (b₀:=FX) (a₀:=oM b Wg gT gT) (ops₀:=ti) (i₀:=0) (rest₀:=[]) (k₀:=[.code (.region 1 oL false)]) (cs:=[bot]) Tryz.yd p w ⟨l.o,l.live⟩
 have⟨k,y⟩:=v;have z:=FW y;have A:Array.map (oM b Wg gT gT).eval #[Operand.tmp 0]=#[Value.pointer (pt Wg 0)]:=by simp[oM,Act.eval]
 change Wy PR 241 Wg false rd _ dp (G ((base Tryz.link.wait).at {tmps:=Array.map (oM b Wg gT gT).eval #[Operand.tmp 0]++Array.replicate ((waitFn Tryz.link).ntmps-(Array.map (oM b Wg gT gT).eval #[Operand.tmp 0]).size) gT,defers:=[]} [.code (body_wait Tryz.link)]) (FX.at (oM b Wg gT gT) [.inRegion ti [0],.code (.region 1 oL false)]::[bot])) w;rw[A];exact z
noncomputable def Ac:Array Oper:=(λ(x:Array Oper) (_:gW Tryz.f163 0=.region 0 x false)=>x) _ (by conv=>lhs;whnf)
noncomputable def Ad:Array Oper:=(λ(x:Array Oper) (_:gW Tryz.f163 1=.region 1 x false)=>x) _ (by conv=>lhs;whnf)
noncomputable def FY:Array Oper:=(λ(x:Array Oper) (_:gW Tryz.f163 2=.region 2 x false)=>x) _ (by conv=>lhs;whnf)
noncomputable def FZ:Array Oper:=(λ(x:Array Oper) (_:gW Tryz.f163 3=.region 3 x false)=>x) _ (by conv=>lhs;whnf)
noncomputable def F0:Array Oper:=(λ(x:Array Oper) (_:gW Tryz.f163 4=.region 4 x false)=>x) _ (by conv=>lhs;whnf)
noncomputable def F1:Array Oper:=(λ(x:Array Oper) (_:gW Tryz.f163 5=.region 5 x false)=>x) _ (by conv=>lhs;whnf)
noncomputable def Ae:Array Oper:=(λ(x:Array Oper) (_:gW Tryz.f163 6=.region 6 x false)=>x) _ (by conv=>lhs;whnf)
noncomputable def F2:Array Oper:=(λ(x:Array Oper) (_:gW Tryz.f163 7=.region 7 x false)=>x) _ (by conv=>lhs;whnf)
noncomputable def tj:Array Oper:=(λ(x:Array Oper) (_:gW Tryz.f163 8=.region 8 x false)=>x) _ (by conv=>lhs;whnf)
noncomputable def oN:Array Oper:=(λ(x:Array Oper) (_:gW Tryz.f163 9=.region 9 x false)=>x) _ (by conv=>lhs;whnf)
noncomputable def mT:Array Oper:=(λ(x:Array Oper) (_:gW Tryz.f163 10=.region 10 x false)=>x) _ (by conv=>lhs;whnf)
noncomputable def uk:Array Oper:=(λ(x:Array Oper) (_:gW Tryz.f163 11=.region 11 x false)=>x) _ (by conv=>lhs;whnf)
noncomputable def om:Array Oper:=(λ(x:Array Oper) (_:gW Tryz.f163 12=.region 12 x false)=>x) _ (by conv=>lhs;whnf)
noncomputable def xn:Array Oper:=(λ(x:Array Oper) (_:gW Tryz.f163 13=.region 13 x false)=>x) _ (by conv=>lhs;whnf)
noncomputable def mU:Array Oper:=(λ(x:Array Oper) (_:gW Tryz.f163 14=.region 14 x false)=>x) _ (by conv=>lhs;whnf)
noncomputable def xo:Array Oper:=(λ(x:Array Oper) (_:gW Tryz.f163 15=.region 15 x false)=>x) _ (by conv=>lhs;whnf)
noncomputable def xp:Array Oper:=(λ(x:Array Oper) (_:gW Tryz.f163 16=.region 16 x false)=>x) _ (by conv=>lhs;whnf)
noncomputable def Cu:Array Oper:=(λ(x:Array Oper) (_:gW Tryz.f163 17=.region 17 x false)=>x) _ (by conv=>lhs;whnf)
noncomputable def gH:Code:=(Go.Code.region 6 Ae false).seq ((Go.Code.cond (Go.Operand.tmp 24) Go.Code.skip (Go.Code.exit 0)).seq ((Go.Code.block 1 ((Go.Code.region 7 F2 false).seq ((Go.Code.region 8 tj false).seq (Go.Code.region 9 oN false)))).seq (Go.Code.region 10 mT false)))
noncomputable def pI:Code:=(Go.Code.region 14 mU false).seq ((Go.Code.cond (Go.Operand.tmp 40) Go.Code.skip (Go.Code.exit 2)).seq (Go.Code.block 3 ((Go.Code.region 15 xo false).seq (Go.Code.region 16 xp false))))
noncomputable def my:Code:=(Go.Code.region 17 Cu false).seq Go.Code.ret
noncomputable def jA:Code:=(Go.Code.region 11 uk false).seq ((Go.Code.region 12 om false).seq (((Go.Code.region 13 xn false).seq (Go.Code.block 2 pI.loop)).seq my))
noncomputable def vZ:Code:=(Go.Code.region 0 Ac false).seq (((Go.Code.region 1 Ad false).seq (Go.Code.cond (Go.Operand.tmp 13) ((Go.Code.region 2 FY false).seq Go.Code.ret) Go.Code.skip)).seq ((Go.Code.region 3 FZ false).seq ((Go.Code.region 4 F0 false).seq (((Go.Code.region 5 F1 false).seq (Go.Code.block 0 gH.loop)).seq jA))))
def Af:Tryz.f163.body=some vZ:=eE
noncomputable def lP:Frame:=base 163
structure tk where
 (x0 x2 x8 x9 YJ YK YL YM YN YO YP YQ YR YS YT YU:cJ)
noncomputable def n5(e:tk)(pc oc Wg n i:Nat)(g a b c d f:cJ):Act:=
 ⟨#[e.x0,.pointer (some ⟨pc,0,none⟩),e.x2,.pointer (some ⟨oc,0,none⟩),.pointer (some ⟨Wg,0,none⟩),g,undef,undef,e.x8,e.x9,e.YJ,e.YK,e.YL,e.YM,e.YN,e.YO,e.YP,e.YQ,e.YR,e.YS,e.YT,e.YU,.int .i64 n,.int .i64 i,a,b,c,d,f,undef,undef,undef,undef,undef,undef,undef,undef,undef,undef,undef,undef,undef,undef,undef,undef,undef,undef,undef,undef,undef,undef,undef],[]⟩
structure Si(pc oc Wg Ch:Nat)(pl:Addr)(rd:Nat->Prop)(Q:cI->Prop)(w:cI):Prop where
 p:w.cell? ⟨pc,0,none⟩=some (.pointer (some pl))
 o:w.cell? ⟨oc,0,none⟩=some (.chan (some Ch))
 r:∀b,rd b->b<w.heap.size
 q:Q w
def tl(rd:dn)(Q:dB):Prop:=∀w a:cI,(∀b,rd b->a.heap[b]? =w.heap[b]?)->Q w->Q a
structure KS(pc oc Wg Ch:Nat)(pl:Addr)(rd:Nat->Prop)(Q:cI->Prop)(w:cI):Prop where
 k:Si pc oc Wg Ch pl rd Q w
 live:Lv 241 Wg w
section
variable{pc oc Wg Ch:Nat}{pl:Addr}{Q:cI->Prop}{own rd:Nat->Prop}
def Si.same{w w':cI}(h:Si pc oc Wg Ch pl rd Q w)(c:rd pc)(d:rd oc)(e:tl rd Q)(f:w.heap.size<=w'.heap.size)(a:∀b,rd b->w'.heap[b]? =w.heap[b]?):Si pc oc Wg Ch pl rd Q w':=
 ⟨(iy (a pc c)).trans h.p,(iy (a oc d)).trans h.o,λb g=>ep (h.r b g) f,e w w' a h.q⟩
def Si.rely{L:dB}(d:rd pc)(e:rd oc)(f:tl rd Q):pu own rd L (Si pc oc Wg Ch pl rd Q):=
 λ_ _ a h=>h.same d e f a.size λb c=>a.heap b (h.r b c) (.inr c)
theorem KS.rely(b:rd pc)(c:rd oc)(d:tl rd Q):pu own rd (Lv 241 Wg) (KS pc oc Wg Ch pl rd Q):=
 λw e a h=>⟨Si.rely b c d w e a h.k,a.live h.live⟩
end
def IR{e:tk}{pc oc Wg Ch n:Nat}{pl:Addr}{Q:dB}{rd:dn}{S:iT}{f:List Frame}(g:rd pc)(h:rd oc)(i:tl rd Q){b c d:cJ} (j:∀y,WK PR 241 Wg true rd S dp (KS pc oc Wg Ch pl rd Q) (G (lP.at (n5 e pc oc Wg n n x y z b c d) [.code jA]) f)):WK PR 241 Wg true rd S dp (KS pc oc Wg Ch pl rd Q) (G (lP.at (n5 e pc oc Wg n n x y z b c d) [.code gH,.inLoop gH,.inBlock 0,.code jA]) f):=by have a:pu dp rd (Lv 241 Wg) (KS pc oc Wg Ch pl rd Q):=KS.rely g h i;refine WK.ctl a rfl (λ_=>dk)<|WK.ctl a rfl (λ_=>ia) ?_;simp only[Ae,n5,il,fi,fO,Nat.reduceAdd,dj,List.range,List.range.loop];refine WK.val (v:=.bool false) a rfl rfl (by k_ne) (λw=>?_) (λw=>?_) ?_;go_simp;simp[go_sem];walk_nrm;exact WK.ctl a rfl (λ_=>cY)<|WK.ctl a rfl (λ_=>dk)<|WK.ctl a rfl (λ_=>stepG_cond (t:=false) rfl)<|WK.ctl a rfl (λ_=>stepG_exit rfl)<|j (.bool false)
def u9{w:cI}{a:Addr}{c Wg:Nat}(h:Wg≠a.block)(b:Lv c Wg w):Lv c Wg (w.setCell a x):=by have⟨d,e,b⟩:=b;exact⟨d,e,(fS w a x Wg h).trans b⟩
structure V0(pc oc Wg Ch ic:Nat)(pl:Addr)(rd:Nat->Prop)(Q:cI->Prop)(v:Int)(w:cI):Prop where
 s:Si pc oc Wg Ch pl rd Q w
 i:w.heap[ic]? =some (.cells #[.int .i64 v] 3)
 lr:∀b,rd b->b<ic
 lw:Wg<ic
structure KI(pc oc Wg Ch ic:Nat)(pl:Addr)(rd:Nat->Prop)(Q:cI->Prop)(v:Int)(w:cI):Prop where
 k:V0 pc oc Wg Ch ic pl rd Q v w
 live:Lv 241 Wg w
section
variable{pc oc Wg Ch ic:Nat}{pl:Addr}{Q:cI->Prop}{own rd:Nat->Prop}{v:Int}
theorem V0.rely{L:dB}(b:rd pc)(c:rd oc)(d:own ic)(e:tl rd Q):pu own rd L (V0 pc oc Wg Ch ic pl rd Q v):=
 λw f a h=>⟨Si.rely b c e w f a h.s,a.obj (.inl d) h.i,h.lr,h.lw⟩
theorem KI.rely(b:rd pc)(c:rd oc)(d:own ic)(e:tl rd Q):pu own rd (Lv 241 Wg) (KI pc oc Wg Ch ic pl rd Q v):=
 λw f a h=>⟨V0.rely b c d e w f a h.k,a.live h.live⟩
end
def DV{a:dW->cJ}{o:Oper}{x:dW}{f:dY}{cs:eF}(b:o.op=.go {callee:=.value x,args:=#[],argTypes:=#[]})(c:a x=.func (.func f) #[] cs)(w:cI):(execOp a o).run PR w=.ok (.spawn {target:=.fn (.func f) cs,args:=#[]}) w/\(execOp a o).events PR w #[]=#[]:=by constructor;simp[execOp,b,c,resolve,Deferred.ofValue];simp[execOp,b,c,resolve,Deferred.ofValue]
def IS{e:tk}{pc oc Wg Ch n i:Nat}{pl:Addr}{Q:dB}{rd:dn}{val:Nat->cJ->(dn)->dB}{S:iT}{cs:List Frame}(I:i<n)(O:n<2^62)(l:rd pc)(u:rd oc)(J:¬rd Wg)(y:tl rd Q){x5 x24 x25 x26 x27 x28:cJ}
 (z:∀ic w,KW pc ic oc Wg Ch pl i (λw=>Q w/\∀b,rd b->b<w.heap.size) w->Wy PR 241 Wg false (λb=>rd b\/b=ic) (Sends PR 241 Wg Ch val i) dp (born PR (call188 pc ic oc Wg)) w)
 (A:∀x5 x24 x25 x26 x27 x28,WK PR 241 Wg true rd S dp (KS pc oc Wg Ch pl rd Q) (G (lP.at (n5 e pc oc Wg n (i+1) x5 x24 x25 x26 x27 x28) [.code gH,.inLoop gH,.inBlock 0,.code jA]) cs)):WK PR 241 Wg true rd (Wo PR 241 Wg Ch rd val i (Wy PR 241 Wg true rd S)) dp (KS pc oc Wg Ch pl rd Q) (G (lP.at (n5 e pc oc Wg n i x5 x24 x25 x26 x27 x28) [.code gH,.inLoop gH,.inBlock 0,.code jA]) cs):=by
 have a:pu dp rd (Lv 241 Wg) (KS pc oc Wg Ch pl rd Q):=KS.rely l u y;refine WK.ctl a rfl (λ_=>dk)<|WK.ctl a rfl (λ_=>ia) ?_;simp only[Ae,n5,il,fi,fO,Nat.reduceAdd,dj,List.range,List.range.loop];refine WK.val (v:=.bool true) a rfl rfl (by k_ne) (λw=>?_) (λw=>?_) ?_
 ·go_simp;first|done|simp[I]
 simp[go_sem];walk_nrm;refine WK.ctl a rfl (λ_=>cY)<|WK.ctl a rfl (λ_=>dk)<|WK.ctl a rfl (λ_=>stepG_cond (t:=true) rfl) ?_;simp only[ej];refine WK.ctl a rfl (λ_=>fx)<|WK.ctl a rfl (λ_=>dk)<|WK.ctl a rfl (λ_=>sQ)<|WK.ctl a rfl (λ_=>dk)<|WK.ctl a rfl (λ_=>ia) ?_;simp only[F2,il,fi,fO,Nat.reduceAdd,dj,List.range,List.range.loop];refine WK.val (v:=?_) a rfl rfl (by k_ne) (λw=>?_) (λw=>?_) ?_;rotate_left;go_simp;rfl;go_simp;walk_nrm;refine WK.new (f:=λn=>dR n) (ob:=.cells #[i64 0] 3) a rfl rfl (by k_ne) (λw d=>?_) (λw d e B=>?_) (λic=>?_);go_simp;first|rfl|skip
 simp[go_sem]at B;refine WK.mono (K':=KI pc oc Wg Ch ic pl rd Q 0) ?_ ?_;rotate_left;rintro w ⟨C,d,rfl,K⟩;have⟨Y,Z,U⟩:=d.live;have M:KI pc oc Wg Ch C.lH pl rd Q 0 {C with heap:=C.heap.push (.cells #[i64 0] 3)}:=⟨⟨d.k.same l u y dt λb E=>by have:=d.k.r b E;grind,dt,d.k.r,lt_of_heap U⟩,uj d.live⟩;exact KI.rely l u (.inr rfl) y _ _ K M;have D:pu (λx=>dp x\/x=ic) rd (Lv 241 Wg) (KI pc oc Wg Ch ic pl rd Q 0):=KI.rely l u (.inr rfl) y;walk_nrm;refine WK.store (ad:=(dq ic 0)) (x:=i64 i) D rfl rfl (by k_ne) (.inr rfl) (λw d=>?_) (λw d e B=>?_) ?_;have H:w.cell? (dq ic 0)=some (i64 0):=by simp[World.cell?,d.k.i]
 have P:w.frozen? (dq ic 0)=false:=by simp[World.frozen?,d.k.i]
 go_simp;have H:w.cell? (dq ic 0)=some (i64 0):=by simp[World.cell?,d.k.i]
 have P:w.frozen? (dq ic 0)=false:=by simp[World.frozen?,d.k.i]
 simp[go_sem,H,P]at B;exact .inl ⟨_,_,B,.inl (.inr rfl)⟩;refine WK.mono (K':=KI pc oc Wg Ch ic pl rd Q i) ?_ ?_;rotate_left;rintro w ⟨C,d,K⟩
 have M:KI pc oc Wg Ch ic pl rd Q i (C.setCell (dq ic 0) (i64 i)):=⟨⟨d.k.s.same l u y dt λb E=>fS _ _ _ _ (by have:=d.k.lr b E;grind),
  by simp[World.setCell,nO,d.k.i],d.k.lr,d.k.lw⟩,u9 (by have:=d.k.lw;grind) d.live⟩
 exact KI.rely l u (.inr rfl) y _ _ K M;have j:pu (λx=>dp x\/x=ic) rd (Lv 241 Wg) (KI pc oc Wg Ch ic pl rd Q i):=KI.rely l u (.inr rfl) y;refine WK.ctl j rfl (λ_=>cY)<|WK.ctl j rfl (λ_=>dk)<|WK.ctl j rfl (λ_=>ia) ?_;simp only[tj,il,fi,fO,Nat.reduceAdd,dj,List.range,List.range.loop];refine WK.enter (f:=Tryz.link.add) (fn:=addFn Tryz.link) (c:=body_add Tryz.link) j rfl rfl (by k_ne) rfl Tryz.yd.f_add (nm_add Tryz.link) eE ?_;intro w T;rw[enter_at (fn:=addFn Tryz.link) (c:=body_add Tryz.link) _ Tryz.yd.f_add eE]
 have⟨m,B⟩:=XP (L:=Tryz.link) (main:=true) (R:=eP (λx=>dp x\/x=ic) rd (Lv 241 Wg)) (Wg:=Wg) (F:=V0 pc oc Wg Ch ic pl rd Q i)
  (b₀:=lP) (a₀:=n5 e pc oc Wg n i (dR ic) (.bool true) (i64 i) x26 x27 x28) (ops₀:=tj) (i₀:=0) (rest₀:=[]) (k₀:=[.code (Go.Code.region 9 oN false),.inBlock 1,.code (Go.Code.region 10 mT false),.inLoop gH,.inBlock 0,.code jA]) (cs:=cs) Tryz.yd (λh r=>⟨V0.rely l u (.inr rfl) y _ _ r h.1,r.live h.2⟩) (λw x h=>⟨h.s.same l u y dt λb E=>fS _ _ _ _ (λe=>J (by rw[show Wg=b from e.symm];grind)),(fS _ _ _ _ (by have:=h.lw;grind [stA])).trans h.i,h.lr,h.lw⟩) rfl w ⟨T.k,T.live⟩
 have H:=IL (Ch:=Ch) (val:=val) (i:=i) (Next:=Wy PR 241 Wg true rd S) B ?_;have V:Array.map (n5 e pc oc Wg n i (dR ic) (.bool true) (i64 i) x26 x27 x28).eval #[Operand.tmp 4,Operand.const (Value.int IntKind.i64 1)]=#[Value.pointer (pt Wg 0),i64 1]:=by simp[n5,Act.eval]
 change Wy PR 241 Wg true rd _ (λx=>dp x\/x=ic) (G ((base Tryz.link.add).at {tmps:=Array.map (n5 e pc oc Wg n i (dR ic) (.bool true) (i64 i) x26 x27 x28).eval #[Operand.tmp 4,Operand.const (Value.int IntKind.i64 1)]++Array.replicate ((addFn Tryz.link).ntmps-(Array.map (n5 e pc oc Wg n i (dR ic) (.bool true) (i64 i) x26 x27 x28).eval #[Operand.tmp 4,Operand.const (Value.int IntKind.i64 1)]).size) gT,defers:=[]} [.code (body_add Tryz.link)])
  (lP.at (n5 e pc oc Wg n i (dR ic) (.bool true) (i64 i) x26 x27 x28) [.inRegion tj [0],.code (Go.Code.region 9 oN false),.inBlock 1,.code (Go.Code.region 10 mT false),.inLoop gH,.inBlock 0,.code jA]::cs)) w
 rw[V];exact H
 ·rintro g w ⟨rfl,N,W⟩
  suffices h:WK PR 241 Wg true rd (Xn PR 241 Wg Ch rd val i (Wy PR 241 Wg true rd S)) (λx=>dp x\/x=ic) (KI pc oc Wg Ch ic pl rd Q i)
   (G (lP.at (n5 e pc oc Wg n i (dR ic) (.bool true) (i64 i) (.tuple #[]) x27 x28) [.inRegion tj [],.code (Go.Code.region 9 oN false),.inBlock 1,.code (Go.Code.region 10 mT false),.inLoop gH,.inBlock 0,.code jA]) cs)from h w ⟨N,W⟩
  refine WK.ctl j rfl (λ_=>cY)<|WK.ctl j rfl (λ_=>ia) ?_;simp only[oN,n5,il,fi,fO,Nat.reduceAdd,dj,List.range,List.range.loop];refine WK.val (v:=?_) j rfl rfl (by k_ne) (λw=>?_) (λw=>?_) ?_;rotate_left;go_simp;rfl;rfl;walk_nrm;refine WK.stop j λw d=>⟨rfl,G (lP.at (n5 e pc oc Wg n i (dR ic) (.bool true) (i64 i) (.tuple #[]) (.func (.func 188) #[] (FQ pc ic oc Wg)) x28) [.inRegion oN [],.inBlock 1,.code (Go.Code.region 10 mT false),.inLoop gH,.inBlock 0,.code jA]) cs,born PR (call188 pc ic oc Wg),λx=>x=ic,(stepG_spawn rfl rfl (by k_ne) (DV (f:=188) (cs:=FQ pc ic oc Wg) rfl rfl w).1 rfl).trans ?_,rfl,cK,?_,?_⟩;unfold listed;rw[(DV (f:=188) (cs:=FQ pc ic oc Wg) rfl rfl w).2,seen_none];rfl;exact z ic w ⟨d.k.s.p,by simp[World.cell?,d.k.i],d.k.s.o,d.live,d.k.s.q,d.k.s.r⟩
  ·have X:(λb=>(dp b\/b=ic)/\¬b=ic)=dp:=by
    grind
   rw[X];suffices h:WK PR 241 Wg true rd S dp (KS pc oc Wg Ch pl rd Q) (G (lP.at (n5 e pc oc Wg n i (dR ic) (.bool true) (i64 i) (.tuple #[]) (.func (.func 188) #[] (FQ pc ic oc Wg)) x28) [.inRegion oN [],.inBlock 1,.code (Go.Code.region 10 mT false),.inLoop gH,.inBlock 0,.code jA]) cs)from h w ⟨d.k.s,d.live⟩;refine WK.ctl a rfl (λ_=>cY)<|WK.ctl a rfl (λ_=>stepG_inBlock)<|WK.ctl a rfl (λ_=>ia) ?_;simp only[mT,n5,il,fi,fO,Nat.reduceAdd,dj,List.range,List.range.loop];refine WK.val (v:=i64 ((i+1:Nat):Int)) a rfl rfl (by k_ne) (λw=>?_) (λw=>?_) ?_;go_simp;rw[IntKind.wrap_i64];omega;simp[go_sem];walk_nrm;refine WK.val (v:=?_) a rfl rfl (by k_ne) (λw=>?_) (λw=>?_) ?_;rotate_left;go_simp;rfl;go_simp;walk_nrm;exact WK.ctl a rfl (λ_=>cY)<|WK.ctl a rfl (λ_=>stepG_inLoop)<|A _ _ _ _ _ _
def Sr(c d n:Nat)(e:dn)(a:Nat->cJ->(dn)->dB)(b:iT):Nat->iT
 |0=>OD PR 241 c d n e a b
 |r+1=>Wo PR 241 c d e a (n-(r+1)) (qe PR 241 c d n e a b r)
def Cv(c e n:Nat)(d:dn)(a:Nat->cJ->(dn)->dB)(b:iT):∀r,qe PR 241 c e n d a b r=Wy PR 241 c true d (Sr c e n d a b r)
 |0=>rfl
 |_+1=>rfl
def Vb{e:tk}{pl:Addr}{Q:dB}{val:Nat->cJ->(dn)->dB}{End:iT}{cs:List Frame}(d:p<2^62)(l:A m)(n:A k)(g:¬A j)(q:tl A Q)
 (a:∀i f w,i<p->KW m f k j o pl i (λw=>Q w/\∀b,A b->b<w.heap.size) w->Wy PR 241 j false (λb=>A b\/b=f) (Sends PR 241 j o val i) dp (born PR (call188 m f k j)) w)
 (c:∀x5 x24 x25 x26 x27 x28,WK PR 241 j true A (OD PR 241 j o p A val End) dp (KS m k j o pl A Q) (G (lP.at (n5 e m k j p p x5 x24 x25 x26 x27 x28) [.code jA]) cs)):∀r,r<=p->∀x5 x24 x25 x26 x27 x28,WK PR 241 j true A (Sr j o p A val End r) dp (KS m k j o pl A Q) (G (lP.at (n5 e m k j p (p-r) x5 x24 x25 x26 x27 x28) [.code gH,.inLoop gH,.inBlock 0,.code jA]) cs):=by
 intro r;induction r with
 |zero=>
  intro _ x5 x24 x25 x26 x27 x28;rw[Nat.sub_zero];exact IR l n q λx24=>c _ _ _ _ _ _
 |succ r s=>
  intro u x5 x24 x25 x26 x27 x28;have h:=IS (e:=e) (cs:=cs) (val:=val) (i:=p-(r+1)) (S:=Sr j o p A val End r) cL d l n g q (x5:=x5) (x24:=x24) (x25:=x25) (x26:=x26) (x27:=x27) (x28:=x28) (λf w t=>a _ f w cL t) (λx5 x24 x25 x26 x27 x28=>by have:=s cL x5 x24 x25 x26 x27 x28;rwa[show p-r=p-(r+1)+1 by omega]at this);rw[<-Cv]at h;exact h
noncomputable def Ag(e:tk)(B C D n:Nat)(E F G a b c d f g h i j k l m o p q r s t u v w x y z A:cJ):Act:=
 ⟨#[e.x0,.pointer (some ⟨B,0,none⟩),e.x2,.pointer (some ⟨C,0,none⟩),.pointer (some ⟨D,0,none⟩),E,F,G,e.x8,e.x9,e.YJ,e.YK,e.YL,e.YM,e.YN,e.YO,e.YP,e.YQ,e.YR,e.YS,e.YT,e.YU,.int .i64 n,a,b,c,d,f,g,h,i,j,k,l,m,o,p,q,r,s,t,u,v,w,x,y,z,A,undef,undef,undef,undef],[]⟩
structure OW(pb:Nat)(la:Addr)(L C:Nat)(a0:Option Addr)(n c0:Nat)(w:cI):Prop where
 f2:w.cell? ⟨pb,2,none⟩=some (.slice (some la) L C)
 l0:w.cell? la=some (.slice a0 n c0)
noncomputable def oO:Code:=((Go.Code.region 13 xn false).seq (Go.Code.block 2 pI.loop))
def F3{e:tk}{rd:dn}{q:Nat->cJ->(dn)->dB}{r:iT}{cs:List Frame}(C:rd m)(u:rd k)(x:¬rd i)(D:tl rd S)
 (s:∀t y c d g l n A,WK PR 241 i true rd (pF PR 241 i j o rd q r z o (λ_=>false)) dp (KS m k i j ⟨p,0,none⟩ rd S)
  (G (lP.at (Ag e m k i o t undef undef y c d g l n A undef undef undef undef undef undef undef undef undef undef undef undef undef undef undef undef undef undef) [.code (Go.Code.region 12 om false),.code (oO.seq my)]) cs))
 (t c d g l n:cJ):WK PR 241 i true rd (OD PR 241 i j o rd q r) dp (KS m k i j ⟨p,0,none⟩ rd S) (G (lP.at (n5 e m k i o o t c d g l n) [.code jA]) cs):=by
 have a:pu dp rd (Lv 241 i) (KS m k i j (dq p 0) rd S):=KS.rely C u D;refine WK.ctl a rfl (λ_=>dk)<|WK.ctl a rfl (λ_=>ia) ?_;simp only[uk,n5,il,fi,fO,Nat.reduceAdd,dj,List.range,List.range.loop];refine WK.val (v:=?_) a rfl rfl (by k_ne) (λw=>?_) (λw=>?_) ?_;rotate_left;go_simp;rfl;rfl;walk_nrm
 refine WK.stop a λw B=>⟨rfl,G (lP.at (Ag e m k i o t gT gT (i64 o) c d g l n (.func (.func 191) #[] #[dR i,dR k]) gT gT gT gT gT gT gT gT gT gT gT gT gT gT gT gT gT gT)
  [.inRegion uk [],.code ((Go.Code.region 12 om false).seq (oO.seq my))]) cs,born PR (call191 k i),dp,z,(stepG_spawn rfl rfl (by k_ne) (DV (f:=191) (cs:=#[dR i,dR k]) rfl rfl w).1 rfl).trans ?_,rfl,λb E=>E.elim,?_,?_⟩
 unfold listed;rw[(DV (f:=191) (cs:=#[dR i,dR k]) rfl rfl w).2,seen_none];rfl;refine closer (rd:=λb=>rd b\/dp b) (.inl u) (λe=>x (by rw[<-e];exact u)) w ⟨B.k.o,B.live⟩;have F:(λb=>dp b/\¬dp b)=dp:=by funext b;exact propext ⟨λh=>h.1,λh=>h.elim⟩
 rw[F]
 suffices h:WK PR 241 i true rd (pF PR 241 i j o rd q r z o (λ_=>false)) dp (KS m k i j (dq p 0) rd S) (G (lP.at (Ag e m k i o t gT gT (i64 o) c d g l n (.func (.func 191) #[] #[dR i,dR k]) gT gT gT gT gT gT gT gT gT gT gT gT gT gT gT gT gT gT)
  [.inRegion uk [],.code ((Go.Code.region 12 om false).seq (oO.seq my))]) cs)from h w B
 exact WK.ctl a rfl (λ_=>cY)<|WK.ctl a rfl (λ_=>dk)<|s _ _ _ _ _ _ _ _
end Go.Proofs.W
namespace Go.Proofs.W
open Go.Conc Go.dz Go.dz.Cr Go.dz.Wg Go.RowKit Go.Conc.Lib Go.ConcR.Gen
def nK:cJ:=.agg #[.slice none 0 0,.int .i64 0,.int .i64 0,.bool false]
noncomputable def i199:TypeInfo:=(PR.info? 199).getD default
def Ku:PR.info? 199=some i199:=eE
def Sj:i199.size=4:=eE
def Ah:i199.bytes=48:=eE
def Kv:i199.zero=some nK:=eE
def F4:PR.underlying 248=some (.slice 199):=eE
def Sk(a:m<=65536)(w:cI):(Instr.makeSlice 248 (.int .i64 m) (.int .i64 m)).run PR w=.ok (.slice (some ⟨w.heap.size,0,none⟩) m m) (w.alloc (.cells (madeCells nK.cells (m*4)) 199)):=by have:=run_make (P:=PR) w 248 199 i199 nK F4 Ku Kv .i64 .i64 (m:Int) (m:Int) cL cL (by rw[Ah];omega) cL;simpa[Sj]using this
def OX(a:m<=65536)(w:cI):(Instr.makeSlice 248 (.int .i64 m) (.int .i64 m)).events PR w #[]=#[]:=
 events_make (P:=PR) w 248 199 i199 nK F4 Ku Kv .i64 .i64 (m:Int) (m:Int) cL cL (by rw[Ah];omega) cL (by rw[Ah];omega) #[]
end Go.Proofs.W
namespace Go.Proofs.W
open Go.Conc Go.dz Go.dz.Cr Go.dz.Wg Go.RowKit Go.Conc.Lib Go.ConcR.Gen
open Go.ConcN Go.ConcN.Gen
open Go.ConcR (KK wgBlock WgAt stA smA mk DC0)
structure KA(pc oc Wg Ch A pb:Nat)(rd:Nat->Prop)(Q:cI->Prop)(R:Array cJ->Prop)(w:cI):Prop where
 s:KS pc oc Wg Ch ⟨pb,0,none⟩ rd Q w
 a:∃cs,w.heap[A]? =some (.cells cs 199)/\R cs
 lr:∀b,rd b->b<A
 lw:Wg<A
theorem KA.rely{b c d f A pb:Nat}{Q:dB}{R:eF->Prop}{own rd:dn}(g:rd b)(i:rd c)(j:own A)(k:tl rd Q):pu own rd (Lv 241 d) (KA b c d f A pb rd Q R):=
 λw l e h=>⟨KS.rely g i k w l e h.s,h.a.imp λ_ h=>⟨e.obj (.inl j) h.1,h.2⟩,h.lr,h.lw⟩
def IT{e:tk}{Y:Nat}{Z:iT}{cs:List Frame}(hn:o<=65536)(B:A m)(K:A k)(L:tl A S)(hL:0<s) (z:∀w,S w->OW p h s d a o Y w)(O:A p)(P:A h.block) (x5 C D E F H I J:cJ)
 (y:∀n Q R T U V W X,WK PR 241 i true A Z (λx=>dp x\/x=n) (KA m k i j n p A S (·=madeCells nK.cells (o*4)))
  (G (lP.at (Ag e m k i o x5 (.slice (some ⟨n,0,none⟩) o o) undef C D E F H I J Q R T U V W X (.slice (some ⟨n,0,none⟩) o o) undef undef undef undef undef undef undef undef undef undef) [.code (oO.seq my)]) cs)):
 WK PR 241 i true A Z dp (KS m k i j ⟨p,0,none⟩ A S) (G (lP.at (Ag e m k i o x5 undef undef C D E F H I J undef undef undef undef undef undef undef undef undef undef undef undef undef undef undef undef undef undef) [.code (Go.Code.region 12 om false),.code (oO.seq my)]) cs):=by
 have g:pu dp A (Lv 241 i) (KS m k i j (dq p 0) A S):=KS.rely B K L;refine WK.ctl g rfl (λ_=>ia) ?_;simp only[om,Ag,il,fi,fO,Nat.reduceAdd,dj,List.range,List.range.loop];refine WK.load (v:=dR p) g rfl rfl (by k_ne) (λw c=>?_) (λw c e l=>?_) ?_;have t:=(λw c=>c.k.p) w c;go_simp;have t:=(λw c=>c.k.p) w c;simp[go_sem,t]at l;exact .inl ⟨_,_,l,.inr (.inl ⟨rfl,B⟩)⟩;walk_nrm;refine WK.val (v:=?_) g rfl rfl (by k_ne) (λw=>?_) (λw=>?_) ?_;rotate_left;go_simp;rfl;go_simp;walk_nrm;refine WK.val (v:=?_) g rfl rfl (by k_ne) (λw=>?_) (λw=>?_) ?_;rotate_left;go_simp;rfl;go_simp;walk_nrm;refine WK.load (v:=.slice (some h) s d) g rfl rfl (by k_ne) (λw c=>?_) (λw c e l=>?_) ?_;have t:=(λw c=>(z w c.k.q).f2) w c;go_simp;have t:=(λw c=>(z w c.k.q).f2) w c;simp[go_sem,t]at l;exact .inl ⟨_,_,l,.inr (.inl ⟨rfl,O⟩)⟩;walk_nrm;refine WK.val (v:=.pointer (some h)) g rfl rfl (by k_ne) (λw=>?_) (λw=>?_) ?_;go_simp;simp[go_sem];exact events_indexAt_slice _ _ _ _ _ _ eE ⟨cL,cL⟩;walk_nrm;refine WK.load (v:=.slice a o Y) g rfl rfl (by k_ne) (λw c=>?_) (λw c e l=>?_) ?_;have t:=(λw c=>(z w c.k.q).l0) w c;go_simp;have t:=(λw c=>(z w c.k.q).l0) w c;simp[go_sem,t]at l;exact .inl ⟨_,_,l,.inr (.inl ⟨rfl,P⟩)⟩;walk_nrm;refine WK.val (v:=?_) g rfl rfl (by k_ne) (λw=>?_) (λw=>?_) ?_;rotate_left;go_simp;rfl;go_simp;walk_nrm;refine WK.new (f:=λN=>fa N o o) (ob:=.cells (madeCells nK.cells (o*4)) 199) g rfl rfl (by k_ne) (λw c=>?_) (λw c e l=>?_) (λn=>?_);have:=Sk hn w;go_simp;have:=OX hn w;simp[go_sem,this]at l;refine WK.mono (K':=KA m k i j n p A S (·=madeCells nK.cells (o*4))) ?_ ?_;rotate_left;rintro w ⟨M,c,rfl,hr⟩;have⟨st,sm,z⟩:=c.live;have hk:KA m k i j M.lH p A S (·=madeCells nK.cells (o*4)) {M with heap:=M.heap.push (.cells (madeCells nK.cells (o*4)) 199)}:=⟨⟨c.k.same B K L dt λb hb=>by have:=c.k.r b hb;show(M.heap.push _)[b]? =_;rw[sg];split;omega;rfl,uj c.live⟩,⟨_,dt,rfl⟩,c.k.r,lt_of_heap z⟩;exact KA.rely B K (.inr rfl) L _ _ hr hk;have u:pu (λx=>dp x\/x=n) A (Lv 241 i) (KA m k i j n p A S (·=madeCells nK.cells (o*4))):=KA.rely B K (.inr rfl) L;walk_nrm;refine WK.val (v:=?_) u rfl rfl (by k_ne) (λw=>?_) (λw=>?_) ?_;rotate_left;go_simp;rfl;go_simp;walk_nrm;exact WK.ctl u rfl (λ_=>cY)<|y _ _ _ _ _ _ _ _
end Go.Proofs.W
namespace Go.Proofs.W
open Go.Conc Go.dz Go.dz.Cr Go.dz.Wg Go.RowKit Go.Conc.Lib Go.ConcR.Gen
def tn:cJ:=.agg #[.int .i64 0,.slice none 0 0,.int .i64 0,.int .i64 0,.bool false]
def F5{Ch:Nat}{a:dW->cJ}{o:Oper}{x:dW}(b:o.op=.recv 232 x true)(c:a x=.chan (some Ch))(w:cI):(execOp a o).run PR w=.ok (.comm #[rcase Ch tn] true (.recv true)) w:=by simp only[execOp,b,c];have d:(zeroValue 247).run PR w=.ok tn w:=eE;have e:(underlying 232).run PR w=.ok (.chan .both 247) w:=eE;simp[d,e,rcase]
def yh{Ch:Nat}{c:dW->cJ}{o:Oper}{x:dW}(d:o.op=.recv 232 x true)(e:c x=.chan (some Ch))(w:cI):(execOp c o).events PR w #[]=#[]:=by simp only[execOp,d,e];have f:(zeroValue 247).run PR w=.ok tn w:=eE;have g:(underlying 232).run PR w=.ok (.chan .both 247) w:=eE;have a:(zeroValue 247).events PR w #[]=#[]:=eE;have b:(underlying 232).events PR w #[]=#[]:=eE;simp[f,g,a,b]
end Go.Proofs.W
namespace Go.Proofs.W
open Go.Conc Go.dz Go.dz.Cr Go.dz.Wg Go.RowKit Go.Conc.Lib Go.ConcR.Gen
open Go.ConcN Go.ConcN.Gen
open Go.ConcR (KK wgBlock WgAt stA smA mk DC0)
def Ai(Pv:Nat->(dn)->cI->cJ->Prop):Prop:=∀j o w a v,(∀b,o b->a.heap[b]? =w.heap[b]?)->Pv j o w v->Pv j o a v
def oP(a:dV)(c d:Nat)(m k:Int)(b:Bool):cJ:=.agg #[.slice a c d,.int .i64 m,.int .i64 k,.bool b]
def DX(i:Int)(a:dV)(c d:Nat)(m k:Int)(b:Bool):cJ:=.agg #[.int .i64 i,.slice a c d,.int .i64 m,.int .i64 k,.bool b]
def F6(Pv:Nat->(dn)->cI->cJ->Prop):Nat->cJ->(dn)->dB:=λi v own w=>
 ∃a c d m k b e,v=DX i a c d m k b/\(∀x,e x->own x/\x<w.heap.size)/\Pv i e w (oP a c d m k b)
def OY(Pv:Nat->(dn)->cI->cJ->Prop)(own:dn)(A:Nat)(w:cI)(a:eF)(j:Nat):Prop:=
 ∃c d e m k b f,(∀x,f x->own x/\x≠A/\x<w.heap.size)/\a[4*j]? =some (.slice c d e)/\a[4*j+1]? =some (.int .i64 m)/\a[4*j+2]? =some (.int .i64 k)/\a[4*j+3]? =some (.bool b)/\Pv j f w (oP c d e m k b)
structure KR(pc oc Wg Ch A pb n:Nat)(rd:Nat->Prop)(Q:cI->Prop)(Pv:Nat->(Nat->Prop)->cI->cJ->Prop)(own:Nat->Prop)(S:Nat->Bool)(w:cI):Prop where
 s:KS pc oc Wg Ch ⟨pb,0,none⟩ rd Q w
 a:∃cs,w.heap[A]? =some (.cells cs 199)/\cs.size=n*4/\∀j,j<n->S j=true->OY Pv own A w cs j
 oa:own A
 lr:∀b,rd b->b<A
 lw:Wg<A
section
variable{pc oc Wg Ch A pb n:Nat}{Q:cI->Prop}{Pv:Nat->(Nat->Prop)->cI->cJ->Prop}{S:Nat->Bool}{own own' rd:Nat->Prop}
theorem OY.same(g:Ai Pv){w w':cI}{e:eF}{j:Nat}(h:OY Pv own A w e j)(i:∀b,own b->own' b)(l:w.heap.size<=w'.heap.size)(n:∀b,own b->b≠A->b<w.heap.size->w'.heap[b]? =w.heap[b]?):OY Pv own' A w' e j:=by have⟨o,p,q,m,k,b,f,a,r,s,t,u,v⟩:=h;exact⟨o,p,q,m,k,b,f,λx c=>⟨i x (a x c).1,(a x c).2.1,ep (a x c).2.2 l⟩,r,s,t,u,g j f w w' _ (λb d=>n b (a b d).1 (a b d).2.1 (a b d).2.2) v⟩
theorem KR.rely(f:rd pc)(g:rd oc)(i:tl rd Q)(k:Ai Pv):pu own rd (Lv 241 Wg) (KR pc oc Wg Ch A pb n rd Q Pv own S):=λw l c h=>by have⟨m,o,d,p⟩:=h.a;exact⟨KS.rely f g i w l c h.s,⟨m,c.obj (.inl h.oa) o,d,λj q r=>(p j q r).same k (λ_ h=>h) c.size λb t _ e=>c.heap b e (.inl t)⟩,h.oa,h.lr,h.lw⟩
end
end Go.Proofs.W
namespace Go.Proofs.W
open Go.RowKit
noncomputable abbrev jS:cU:=V.prog
structure SV where
 (sa:Option Addr)(sl sc:Nat)(m k:Int)(b:Bool)
def SV.val(s:SV):cJ:=.agg #[.slice s.sa s.sl s.sc,.int .i64 s.m,.int .i64 s.k,.bool s.b]
def iU(x y:SV):Bool:=if !x.b||!y.b then x.b else if x.m≠y.m then decide (x.m<y.m)else decide (x.k<y.k)
def IU(p:cJ)(x y:SV)(w:cI):Calls V.prog 194 #[p,x.val,y.val] w λe a=>e=.returned (.bool (iU x y))/\Below w.heap.size w a:=by
 have⟨b,c,d,f,g,h⟩:=x;have⟨i,j,k,l,m,n⟩:=y;simp only[SV.val,iU];go_enter V.func194,Tryz.ntmps194;go_wp2;all_goals
  go_ret;exact⟨XC,((Below.refl _ _).alloc (dg _) _).alloc dt _⟩
def DY(p:cJ)(x y:SV)(w:cI):Calls V.prog 194 #[p,x.val,y.val] w λe a=>e=.returned (.bool (iU x y))/\Below w.heap.size w a/\w.drawn<=a.drawn:=by
 have⟨b,c,d,f,g,h⟩:=x;have⟨i,j,k,l,m,n⟩:=y;simp only[SV.val,iU];go_enter V.func194,Tryz.ntmps194;go_wp2;all_goals
  go_ret;exact⟨XC,((Below.refl _ _).alloc (dg _) _).alloc dt _,dg _⟩
def dJ:List SV->SV
 |[]=>⟨none,0,0,0,0,false⟩
 |x::b=>b.foldl (λa y=>if iU y a then y else a) x
def we(l:List SV)(y:SV)(h:l≠[]):dJ (l++[y])=if iU y (dJ l)=true then y else dJ l:=by
 cases l with
 |nil=>grind
 |cons x a=>rw[dJ,nP,dJ,si];rfl
def yW(w:cI)(b o:Nat)(s:SV):Prop:=w.cell? ⟨b,o,none⟩=some (.slice s.sa s.sl s.sc)/\w.cell? ⟨b,o+1,none⟩=some (.int .i64 s.m)/\w.cell? ⟨b,o+2,none⟩=some (.int .i64 s.k)/\w.cell? ⟨b,o+3,none⟩=some (.bool s.b)
def Zp(w:cI)(A:Nat)(a:List SV):Prop:=∀j (h:j<a.length),yW w A (j*4) a[j]
def fp(s:SV):Obj:=.cells #[.slice s.sa s.sl s.sc,.int .i64 s.m,.int .i64 s.k,.bool s.b] 199
def eR{s:SV}(h:w.heap[m]? =some (fp s)):w.cell? ⟨m,0,none⟩=some (.slice s.sa s.sl s.sc)/\w.cell? ⟨m,1,none⟩=some (.int .i64 s.m)/\w.cell? ⟨m,2,none⟩=some (.int .i64 s.k)/\w.cell? ⟨m,3,none⟩=some (.bool s.b)/\w.frozen? ⟨m,0,none⟩=false/\w.frozen? ⟨m,1,none⟩=false/\w.frozen? ⟨m,2,none⟩=false/\w.frozen? ⟨m,3,none⟩=false:=by simp[World.cell?,World.frozen?,h,fp]
theorem OZ(a:Below m w t):(∀b o,b<m->t.cell? ⟨b,o,none⟩=w.cell? ⟨b,o,none⟩)/\(∀b o,b<m->t.frozen? ⟨b,o,none⟩=w.frozen? ⟨b,o,none⟩):=
 ⟨λb o h=>a.cell (p:=(dq b o)) h,λb o h=>a.frozen (p:=(dq b o)) h⟩
def yW.below{s:SV}(h:yW w k o s)(a:Below m w t)(b:k<m):yW t k o s:=by grind [OZ,yW]
theorem fX(w:cI)(o:Obj):(w.alloc o).heap[w.heap.size]? =some o:=by show(w.heap.push o)[w.lH]? =_;simp
theorem alloc_old(w:cI)(o:Obj)(h:m<w.heap.size):(w.alloc o).heap[m]? =w.heap[m]? :=by show(w.heap.push o)[m]? =_;grind
def jO(w:cI)(b:Nat)(s:SV):cI:=(((w.setCell ⟨b,0,none⟩ (.slice s.sa s.sl s.sc)).setCell ⟨b,1,none⟩ (.int .i64 s.m)).setCell ⟨b,2,none⟩ (.int .i64 s.k)).setCell ⟨b,3,none⟩ (.bool s.b)
def lX{s a:SV}(h:w.heap[m]? =some (fp a)):(jO w m s).heap[m]? =some (fp s):=by simp[jO,World.setCell,nO,h,fp]
def qO(w:cI)(b:Nat)(s:SV){c:Nat}(h:c≠b):(jO w b s).heap[c]? =w.heap[c]? :=by grind [dz.Cr.fS,jO]
def rG(w:cI)(b:Nat)(s:SV):(jO w b s).heap.size=w.heap.size:=by simp[jO,World.setCell]
def lY{s:SV}(h:Below m t w)(a:m<=k):Below m t (jO w k s):=
 (((h.setCell a _).setCell a _).setCell a _).setCell a _
def mV{a:Type}(l:List a)(k:Nat)(h:k<l.length):l.take (k+1)=l.take k++[l[k]]:=by simp
def Mg(p:cJ)(A:Nat)(a:List SV)(w:cI)(T:a.length<=65536)(H:A<w.heap.size)(t:Zp w A a):
 Calls V.prog 193 #[.slice (some ⟨A,0,none⟩) a.length a.length,.func (.func 194) #[p] #[]] w λe q=>e=.returned (dJ a).val/\Below w.heap.size w q:=by
 go_enter V.func193,Tryz.ntmps193;go_wp2
 go_loopw [10] (λi wr=>∃k:Nat,k<=a.length/\i=i64 k/\Below w.heap.size w wr/\w.heap.size+2<=wr.heap.size/\wr.heap[w.heap.size+1]? =some (fp (dJ (a.take k)))/\
  wr.heap[w.heap.size]? =some (fp (dJ []))) (λi _=>a.length-(intOf i).toNat)
 case atStart=>
  refine⟨0,gi _,rfl,((Below.refl _ _).alloc (dg _) _).alloc dt _,dt,?_,?_⟩;grind [fX,World.size_alloc,fp,dJ];grind [alloc_old,fX,fp,dJ,trans]
 case round=>
  obtain⟨k,U,rfl,g,I,f,j⟩:=hrel;by_cases d:k<a.length;have⟨W,X,Y,Z⟩:=(t k d).below g H;have⟨J,K,L,M,N,O,P,Q⟩:=eR f;have r:=Go.Lib.hid f;have l:=Go.Lib.hid j;clear f j t;have l1:w.heap.size+1<wr.heap.size:=cL;have l3:w.heap.size<wr.heap.size:=cL;have R:¬(w.heap.size+1=wr.heap.size):=cL;by_cases u:k=0
  ·subst u;go_wp2;go_roundw;case rel=>
    have m:=lX (s:=a[0]) r.out;have n:=(qO wr (w.heap.size+1) a[0] (c:=w.heap.size) dt).trans l.out;have x:=rG wr (w.heap.size+1) a[0];refine⟨1,cL,rfl,(lY g (mN _)).alloc cK _,pY,?_,?_⟩;refine(alloc_old (jO wr (w.heap.size+1) a[0]) _ cK).trans ?_;rw[m,mV _ _ d];rfl;grind [alloc_old,jO,trans]
   case measure=>grind [intOf]
  ·have C:((k:Int)==0)=false:=cK;go_wp2_with (go_at_call 194;refine(IU _ a[k] (dJ (a.take k)) _).mono ?_;rintro e q ⟨rfl,b⟩;have⟨hc,hf⟩:=OZ b);all_goals
    go_roundw
   case rel=>
    have o:iU a[k] (dJ (a.take k))=true:=cK;have y:=(b.block (w.heap.size+1) pY).trans ((alloc_old wr _ cL).trans r.out);have z:=(b.block w.heap.size pY).trans ((alloc_old wr _ cL).trans l.out);have B:=b.size;rw[World.size_alloc]at B;have m:=lX (s:=a[k]) y;have n:=(qO q (w.heap.size+1) a[k] (c:=w.heap.size) dt).trans z;have x:=rG q (w.heap.size+1) a[k];refine⟨k+1,cL,cK,lY ((g.alloc cL _).trans (b.mono pY)) (mN _),(by grind [jO]),?_,n⟩;refine m.trans ?_;rw[mV _ _ d,we _ _ (λh=>by have:=dE List.length h;grind),cT o]
   case measure=>grind [intOf]
   case rel=>
    have o:iU a[k] (dJ (a.take k))=false:=cK;have y:=(b.block (w.heap.size+1) pY).trans ((alloc_old wr _ cL).trans r.out);have z:=(b.block w.heap.size pY).trans ((alloc_old wr _ cL).trans l.out);have B:=b.size;rw[World.size_alloc]at B;refine⟨k+1,cL,cK,(g.alloc cL _).trans (b.mono pY),cL,?_,z⟩;refine y.trans ?_;rw[mV _ _ d,we _ _ (λh=>by have:=dE List.length h;grind),cR cK]
   case measure=>grind [intOf]
  have⟨J,K,L,M,N,O,P,Q⟩:=eR f;have⟨r1,r2,r3,r4,g1,g2,g3,g4⟩:=eR j;have r:=Go.Lib.hid f;have l:=Go.Lib.hid j;clear f j t;have R:¬(w.heap.size+1=w.heap.size):=dt;go_wp2;have S:a.take k=a:=cK;have m:=lX (s:=dJ (a.take k)) l.out;have⟨D,E,F,G,_⟩:=eR m;unfold jO at D E F G;refine bodyPost_ret (v:=(dJ (a.take k)).val) (by simp[results,Tryz.results193,go_sem,D,E,F,G,SV.val]) rfl ⟨cK,lY g (dg _)⟩
end Go.Proofs.W
namespace Go.dz
open Go.Conc
open Go.ConcN (sumTo upd sumTo_upd upd_ne upd_same)
section
variable{P:cU}{X:Nat->Prop}
structure F7(P:cU)(X:Nat->Prop)(gs:Array cP)(a:cP)(w:cI)(t:Trace)(q:Nat->Nat):Prop where
 at0:gs[0]? =some a
 run:a.status=.running
 leavers:Leavers P t gs q
 past:Past (pE X) w.heap.size t
 low:∀b,X b->b<w.heap.size
def IV{f j:dn}{n m:Nat}(l:∀b,f b\/j b->¬X b/\b<m)(o:∀c,X c->c<n){e:Event}(h:EvW f j n m e):EvL (pE X) m e:=by
 obtain⟨a,k,rfl,h⟩|⟨r,k,rfl,h⟩|rfl:=h;have g:¬X a.block/\a.block<m:=by grind
 refine⟨λx d i=>?_,dt,dt,g.2⟩;simp only[MemAct.ofEvent,MemAct.touch?,iO]at d;subst d;exact absurd i g.1;have g:¬X r/\r<m:=by grind
 refine⟨λx d i=>?_,dt,dt,by simpa[MemAct.ofEvent,MemAct.low,Loc.low]using g.2⟩;simp only[MemAct.ofEvent,MemAct.touch?,iO]at d;subst d;exact absurd i g.1;refine⟨λx d i=>?_,dt,dt,trivial⟩;simp[MemAct.ofEvent,MemAct.touch?]at d
def F7.pick{b:Array cP}{t:Trace}{q:Nat->Nat}(h:F7 P X b Z w t q)(sl:Option (Nat×Nat)):(∃d a,stepT P (crowd b w sl)=runT P (crowd b (w.at d) a) 0)\/∃d a l r I,stepT P (crowd b w sl)=(.next (crowd l (w.at d) a),r)/\F7 P X l Z (w.at d) (t++r) I/\sumTo l.size I+1=sumTo b.size q:=by
 have f:=h.run;have M:=h.at0;have u:=h.leavers;have A:∀g∈b,awake g:=by intro g B;obtain⟨i,v,rfl⟩:=Array.mem_iff_getElem.1 B;obtain rfl|c:=mM i;grind [Array.getElem?_eq_getElem,awake_of];exact awake_of ((u.old i _ c (nw v)).status.elim .inl cK)
 have⟨i,g,d,a,v,B,C⟩:=crowd_pick (P:=P) (w:=w) (sl:=sl) A cK;obtain rfl|c:=mM i;grind;have z:=u.old i g c v;have D:(i==0)=false:=cK;have E:i<b.size:=cK;cases m:q i with
 |zero=>rw[m]at z;rw[z.1]at B;grind
 |succ k=>
  rw[m]at z;obtain⟨T,_⟩|⟨_,g',N,O,s,Q⟩:=z;grind;have n:=runT_crowd_go (P:=P) (sl:=a) (i:=i) v (by rw[D];exact s (w.at d));have F:((b.map (woken P g g' (w.at d))).setIfInBounds i g').size=b.size:=dt;have J:sumTo b.size (upd q i k)+(k+1)=sumTo b.size q+k:=by have:=sumTo_upd q k id E;simpa[m]using this
  refine .inr ⟨d,a,_,_,upd q i k,C.trans n,⟨?_,f,⟨λj x K L=>?_,λj K=>?_⟩,h.past.mute cL O,h.low⟩,by rw[F];omega⟩;have G:i≠0:=cL;rw[fZ G,vP,M];simp[woken_run f];by_cases o:i=j;grind [Array.getElem?_setIfInBounds_self_of_lt,Option.some.inj,upd_same,Deaf_own];rw[fZ o,vP]at L;obtain⟨y,R,rfl⟩:=iC.1 L;have H:=u.old j y K R;rw[woken_quitsD H,upd_ne q k (jc o),Deaf_other t o _ (λS p=>by obtain⟨e,_,rfl⟩:=Go.Conc.mem_ofEvents p;rfl)];grind;rw[Deaf_other t (g:=j) (g':=i) cK (MemOp.ofEvents i g.frame.fn g.frame.place N) (λS p=>by obtain⟨e,_,rfl⟩:=Go.Conc.mem_ofEvents p;rfl)];exact u.above j cK
structure Aj(own:Nat->Prop)(w:cI)(own':Nat->Prop)(w':cI):Prop where
 tape:w'.tape=w.tape
 os:w'.os=w.os
 output:w'.output=w.output
 size:w.heap.size<=w'.heap.size
 heap:∀b,b<w.heap.size->¬own b->w'.heap[b]? =w.heap[b]?
 new:∀b,own' b->own b\/(w.heap.size<=b/\b<w'.heap.size)
 keep:∀b,own b->own' b
def Aj.refl(a:dn)(w:cI)(d:Nat):Aj a w a (w.at d):=⟨rfl,rfl,rfl,dg _,λ_ _ _=>rfl,cK,cK⟩
theorem Aj.trans{c d f:dn}(h:Aj c w d t)(k:Aj d t f e):Aj c w f e:=
 ⟨k.tape.trans h.tape,k.os.trans h.os,k.output.trans h.output,dw h.size k.size,λb a g=>(k.heap b (ep a h.size) λi=>(h.new b i).elim g cL).trans (h.heap b a g),
  λb a=>(k.new b a).elim (λx=>(h.new b x).imp id λy=>⟨y.1,ep y.2 k.size⟩) λx=>.inr ⟨dw h.size x.1,x.2⟩,λb a=>k.keep b (h.keep b a)⟩
theorem F7.step{r:Array cP}{a l:cP}{w k:cI}{t:Trace}{q:Nat->Nat}{own rd c:dn}{o:Array Event}{d:Nat}(h:F7 P X r a w t q)(H:∀b,own b\/rd b->¬X b/\b<w.heap.size) (e:stepG P true a (w.at d)=.go l k o)(m:N5 own rd (w.at d) k o c)(B:l.status=.running):F7 P X ((r.map (woken P a l k)).setIfInBounds 0 l) l k (t++MemOp.ofEvents 0 a.frame.fn a.frame.place o) q/\∀b,c b\/rd b->¬X b/\b<k.heap.size:=by have n:w.heap.size<=k.heap.size:=m.size;have C:0<r.size:=(iS.1 h.at0).1;refine⟨⟨cK,B,⟨λj x z p=>?_,λj z=>?_⟩,(h.past.mono n).own λe D=>IV cK h.low (m.evs e D),λb f=>ep (h.low b f) n⟩,λb f=>?_⟩;have s:0≠j:=cL;rw[fZ s,vP]at p;obtain⟨y,E,rfl⟩:=iC.1 p;have F:=h.leavers.old j y z E;rw[woken_quitsD F,Deaf_other t cL _ (λG i=>by obtain⟨e,_,rfl⟩:=Go.Conc.mem_ofEvents i;rfl)];grind;rw[Deaf_other t (g:=j) (g':=0) cK (MemOp.ofEvents 0 a.frame.fn a.frame.place o) (λG i=>by obtain⟨e,_,rfl⟩:=Go.Conc.mem_ofEvents i;rfl)];exact h.leavers.above j cK;obtain f|f:=f;obtain f|⟨u,v⟩:=(m.owns b).1 f;grind;have A:w.heap.size<=b:=u;exact⟨λp=>iD (h.low b p),v⟩;grind
def ve{rd:dn}{L:dB}(E:∀w d,L w->L (w.at d)){k:(dn)->cP->dB}(G:∀o g w,k o g w->g.status=.running):∀{H:WT} {own:dn} {a:cP} {w:cI},Way P true rd L k H own a w->∀(r:Array cP) (sl:Option (Nat×Nat)) (t:Trace) (q:Nat->Nat),F7 P X r a w t q->(∀b,own b\/rd b->¬X b/\b<w.heap.size)->∃(N:Nat) (l:Array cP) (s:cI) (c:Option (Nat×Nat)) (I:Trace) (F:Nat->Nat) (j:dn) (J:cP),runNT P N (crowd r w sl) t=(.next (crowd l s c),I)/\F7 P X l J s I F/\k j J s/\Aj own w j s/\∀b,j b\/rd b->¬X b/\b<s.heap.size:=by
 intro H own a w hw;induction hw with
 | @here H own a w h=>
  intro r sl t q u z;exact⟨0,r,w,sl,t,q,own,a,rfl,u,h w (.refl _ _ _ _),Aj.refl own w w.drawn,z⟩
 | @step f own a w hs h1 h2 ih=>
  have p:∀{own a w} {H},Way P true rd L k H own a w->a.status=.running:=λh=>by
   cases h with
   |here h=>exact G _ _ _ (h _ (.refl _ _ _ _))
   |step hs _ _=>grind
  have K:∀(M:Nat) (r:Array cP) (A:Nat) (sl:Option (Nat×Nat)) (t:Trace) (q:Nat->Nat),sumTo r.size q<=M->F7 P X r a (w.at A) t q->(∀b,own b\/rd b->¬X b/\b<w.lH)->∃(N:Nat) (l:Array cP) (s:cI) (c:Option (Nat×Nat)) (I:Trace) (F:Nat->Nat) (j:dn) (J:cP),runNT P N (crowd r (w.at A) sl) t=(.next (crowd l s c),I)/\F7 P X l J s I F/\k j J s/\Aj own w j s/\∀b,j b\/rd b->¬X b/\b<s.lH:=by
   intro M;induction M with
   |zero=>
    intro r A sl t q hM u z;obtain⟨d,c,v⟩|⟨d,c,l,O,F,_,_,Q⟩:=u.pick sl;have⟨a1,w1,es,R,e,m⟩:=h1 (w.at d) (eP.at own rd E w d);have S:stepG P true a ((w.at A).at d)=.go a1 w1 es:=e;have⟨B,C⟩:=u.step (own:=own) (rd:=rd) z S m (p (h2 _ _ _ _ _ (eP.at own rd E w d) e m));have⟨N,x,T,y,U,V,n,W,Y,Z,r3,r4,r5⟩:=ih _ _ _ _ _ (eP.at own rd E w d) e m _ c _ q B C;have hr:=v.trans (runT_crowd_go (P:=P) (sl:=c) (i:=0) u.at0 (show stepG P (0==0) a ((w.at A).at d)=_ from S));refine⟨1+N,x,T,y,U,V,n,W,runNT_add (lV hr) Y,Z,r3,Aj.trans ⟨m.tape,m.os,m.output,m.size,m.same,λb D=>(m.owns b).1 D,λb D=>(m.owns b).2 (.inl D)⟩ r4,r5⟩;grind
   |succ M aa=>
    intro r A sl t q hM u z;obtain⟨d,c,v⟩|⟨d,c,l,O,F,v,ab,Q⟩:=u.pick sl;have⟨a1,w1,es,R,e,m⟩:=h1 (w.at d) (eP.at own rd E w d);have S:stepG P true a ((w.at A).at d)=.go a1 w1 es:=e;have⟨B,C⟩:=u.step (own:=own) (rd:=rd) z S m (p (h2 _ _ _ _ _ (eP.at own rd E w d) e m));have⟨N,x,T,y,U,V,n,W,Y,Z,r3,r4,r5⟩:=ih _ _ _ _ _ (eP.at own rd E w d) e m _ c _ q B C;have hr:=v.trans (runT_crowd_go (P:=P) (sl:=c) (i:=0) u.at0 (show stepG P (0==0) a ((w.at A).at d)=_ from S));refine⟨1+N,x,T,y,U,V,n,W,runNT_add (lV hr) Y,Z,r3,Aj.trans ⟨m.tape,m.os,m.output,m.size,m.same,λb D=>(m.owns b).1 D,λb D=>(m.owns b).2 (.inl D)⟩ r4,r5⟩;have⟨N,x,T,y,U,V,n,W,Y,Z,r3,r4,r5⟩:=aa l d c (t++O) F cL ab z;exact⟨1+N,x,T,y,U,V,n,W,runNT_add (lV v) Y,Z,r3,r4,r5⟩
  intro r sl t q u z;exact K _ r w.drawn sl t q (dg _) u z
end
end Go.dz
namespace Go.dz
open Go
def kh(z:cJ):Bool:=z.cells.all (fu 2)&&fu 3 z
theorem Cw{g c:Type}(I:c->Prop)(f:g->c->Option (ForInStep c))(i:∀a b s,I b->f a b=some s->I s.value):∀(l:List g) (init:c),I init->∀r,forIn l init f=some r->I r
 |[],init,d,r,h=>by simp at h;exact h▸d
 |a::l,init,d,r,h=>by
  rw[List.forIn_cons]at h;cases e:f a init with
  |none=>rw[e]at h;cases h
  |some s=>
   rw[e]at h;have:=i a init s d e;cases s with
   |done b=>simp at h;exact h▸this
   |yield b=>exact Cw I f i l b this r h
def DZ{info:cQ->Option TypeInfo}(h:∀t i z,info t=some i->i.zero=some z->kh z=true)(d:TypeDesc)(i:TypeInfo)(z:cJ)(a:Made.reckon info d=some i)(q:i.zero=some z):kh z=true:=by
 have m:∀(d:TypeDesc) (s:String) (u:cJ) (b:Bool) (n:Nat),kh u=true->Made.word d s u b n=i->kh z=true:=λd s u b n D e=>by subst e;have:some u=some z:=q;cases this;exact D
 cases d with
 |pointer e=>
  simp only[Made.reckon,rn,jD]at a;have⟨j,_,a⟩:=a;split at a;cases a;split at a;cases a;simp only[jD]at a;have⟨s,_,a⟩:=a;exact m _ _ _ _ _ (by simp[kh,fu,Value.cells]) (dQ a);simp only[jD]at a;have⟨s,_,a⟩:=a;exact m _ _ _ _ _ (by simp[kh,fu,Value.cells]) (dQ a)
 |slice e=>
  simp only[Made.reckon,rn,jD]at a;have⟨j,_,s,_,a⟩:=a;exact m _ _ _ _ _ (by simp[kh,fu,Value.cells]) (dQ a)
 |map k e=>
  simp only[Made.reckon,rn,jD]at a;have⟨j,_,s,_,M,_,N,_,a⟩:=a;exact m _ _ _ _ _ (by simp[kh,fu,Value.cells]) (dQ a)
 |chan d e=>
  simp only[Made.reckon,rn,jD]at a;have⟨j,_,s,_,a⟩:=a;cases d<;>exact m _ _ _ _ _ (by simp[kh,fu,Value.cells]) (dQ a)
 |func O P v=>
  simp only[Made.reckon,rn,jD]at a;have⟨s,_,a⟩:=a;exact m _ _ _ _ _ (by simp[kh,fu,Value.cells]) (dQ a)
 |array n e=>
  simp only[Made.reckon,rn,jD]at a;have⟨j,E,s,_,a⟩:=a;have a:=dQ a;subst a;simp only at q;split at q;cases q;split at q;cases q;simp[kh,fu,Value.cells];obtain⟨y,A,rfl⟩:=iC.1 q;have:=h e j y E A;simp only[kh,eU,yR]at this;have p:((Array.replicate n y.cells).flatten).all (fu 2)=true:=by simp only[yR,Array.mem_flatten];rintro x ⟨o,g,w⟩;rw[Array.eq_of_mem_replicate g]at w;exact this.1 x w
  have F:fu 3 (.agg (Array.replicate n y.cells).flatten)=(Array.replicate n y.cells).flatten.all (fu 2):=rfl;show((Array.replicate n y.cells).flatten.all (fu 2)&&fu 3 (.agg (Array.replicate n y.cells).flatten))=true;rw[F,p];rfl
 |struct G=>
  simp only[Made.reckon,Made.reckonStruct]at a;have⟨H,r,a⟩:=jD.1 a;rw[<-Od]at r;have I:=Cw (λb:Array Field×Nat×Nat×Nat×Nat×Bool×Bool×Option eF×String=>∀o,b.2.2.2.2.2.2.2.1=some o->o.all (fu 2)=true) _ ?_ G.toList _ ?_ H r
  ·split at a;all_goals
    simp only[rn,Option.pure_def,iO,xe]at a;subst a;simp only at q;obtain⟨o,g,rfl⟩:=iC.1 q;have p:=I o g;show(o.all (fu 2)&&o.all (fu 2))=true;rw[p];rfl
  rintro f b s J l;simp only[rn,jD]at l;have⟨i,a,l⟩:=l;have B:∀(c:Nat) o,(if c>Made.mostCells then none else do pure ((<-b.2.2.2.2.2.2.2.1)++(<-i.zero).cells))=some o->o.all (fu 2)=true:=by intro c o g;split at g;cases g;simp only[rn,jD]at g;have⟨x,w,y,A,g⟩:=g;have g:=dQ g;subst g;have K:=J x w;have C:=h f.type i y a A;simp only[kh,eU]at C;rw[Array.all_append,K,C.1];rfl
  split at l;simp only[jD]at l;have⟨_,l,_⟩:=l;cases l;split at l;simp only[jD]at l;have⟨_,l,_⟩:=l;cases l
  ·split at l;all_goals
    simp only[jD]at l;have⟨L,_,l⟩:=l;split at l;all_goals
     have l:=dQ l;subst l;exact B _
  intro o g;cases g;simp
 |_=>cases a
def IW{T:Tables}(h:∀(t:Nat) (i:TypeInfo) (z:cJ),T.types[t]? =some i->i.zero=some z->kh z=true):∀(t:cQ) (i:TypeInfo) (z:cJ),T.info? t=some i->i.zero=some z->fu 3 z=true:=by
 have c:∀(f:Nat) (t:cQ) (i:TypeInfo) (z:cJ),Made.infoAt T f t=some i->i.zero=some z->kh z=true:=by
  intro f;induction f with
  |zero=>intro t i z a _;cases a
  |succ f e=>
   intro t i z a b;simp only[Made.infoAt]at a;split at a;exact h t i z a b;have⟨d,_,a⟩:=jD.1 a;exact DZ e d i z a b
 intro t i z a b;have:kh z=true:=by unfold Tables.info? at a;split at a;exact h t i z a b;exact c _ t i z a b
 simp only[kh,eU]at this;exact this.2
end Go.dz
namespace Go.Proofs.W
open Go Go.dz
noncomputable def okF(L:cM)(a:Bool)(d:Nat->Bool)(f:Nat):Bool:=match V.prog.funcs[f]? with
 |some b=>match b.body with
  |some c=>iE V.prog (λg=>L.contains g) a (d f) c&&!(b.name== "runtime.NumGoroutine")
  |none=>false
 |none=>false
def wh{b:Nat->Bool}(h:l.all (okF l D b)=true)(f:Nat)(d:l.contains f=true):
 ∃a c,V.prog.funcs[f]? =some a/\a.body=some c/\iE V.prog (λg=>l.contains g) D (b f) c=true/\(a.name== "runtime.NumGoroutine")=false:=by
 have:=nz.1 h f (eV d);unfold okF at this;split at this;rename_i a e;split at this;rename_i c i;simp only[eU,sM]at this;exact⟨a,c,e,i,this.1,this.2⟩;cases this;cases this
def V.O0(P:cU)(f:Nat)(x:Func)(n:Nat)(h:f≠n):(V.sub P (P.funcs.setIfInBounds n x)).funcs[f]? =P.funcs[f]? :=by show(P.funcs.setIfInBounds n x)[f]? =P.funcs[f]?;rw[fZ (jc h)]
def V.zr(f:Nat)(h:f≠163):V.prog.funcs[f]? =PR.funcs[f]? :=V.O0 Tryz.prog f V.f163 163 h
noncomputable def YV(t:Nat):Bool:=match Tryz.prog.types[t]? with
 |some i=>match i.zero with
  |some a=>kh a
  |none=>true
 |none=>true
def Ww:(List.range 291).all YV=true:=eE
theorem V.zero(t:cQ)(i:TypeInfo)(z:cJ)(a:V.prog.info? t=some i)(c:i.zero=some z):fu 3 z=true:=by rw[V.Kh]at a;refine IW (T:=Tryz.prog.toTables) (λt i z a c=>?_) t i z a c;have b:t<Tryz.prog.types.size:=(iS.1 a).1;rw[Tryz.types_size]at b;have:=nz.1 Ww t (fP.2 b);unfold YV at this;rw[a]at this;simp only[c]at this;exact this
def V.F8:V.prog.globals.size=0:=by rw[show V.prog.globals=Tryz.prog.globals from dE Tables.globals V.Ck,Tryz.globals_size]
def Cx(P:cU):5<=P.depth:=by have h:P.depth=2*(P.types.size+100)+2:=rfl;omega
def _root_.Go.dz.Kf.obj{m:Option Nat}(h:Kf R m O Q)(a:m=none):kJ R O Q:=by obtain⟨_,h⟩|⟨n,e,_⟩:=h;exact h;rw[a]at e;cases e
def V.bad:V.prog.info? uZ=none:=eE
def V.fit{a:Nat->Bool}(h:l.all (okF l D a)=true):Fit V.prog (λg=>l.contains g) D:=
 ⟨V.zero,λf b=>by have⟨d,c,e,i,_,j⟩:=wh h f b;exact⟨d,c,e,j,i⟩,V.F8,Cx _,V.bad⟩
noncomputable def qP(L:cM)(df:Nat->Bool)(B:dn):dO where
 S:=λg=>L.contains g
 dim:=true
 ok:=λf=>iE V.prog (λg=>L.contains g) true (df f)
 df:=df
 fs:=PR.funcs
 hole:=λ_=>false
 r:=λb c=>b=c/\B b
 nJ:=λ_ _ _ h a=>h.1.symm.trans a.1
 pZ:=λ_ _ _ h a=>.inl (h.1.trans a.1.symm)
def Cy{k:Nat->Bool}(h:l.all (okF l true k)=true)(d:¬l.contains 163=true):Go.dz.Good V.prog (qP l k B):=by refine⟨V.fit h,rfl,λf a _=>?_,⟨λf a=>?_⟩,λ_ _=>rfl⟩;have⟨g,c,b,i,m,_⟩:=wh h f a;exact⟨g,c,b,i,m⟩;have⟨g,c,b,i,_,n⟩:=wh h f a;have j:f≠163:=λe=>d (by subst e;exact a);exact⟨g,c,(V.zr f j).symm.trans b,n,i,λ_=>b⟩
def Sm(P Q:cU)(h:Q.toTables=P.toTables):Q.jg P.funcs=P:=by cases P;cases Q;simp only at h;subst h;rfl
def Sn:V.prog.jg PR.funcs=PR:=Sm Tryz.prog V.prog V.Ck
end Go.Proofs.W
namespace Go.Proofs.W
open Go.Conc Go.dz Go.dz.Cr Go.dz.Wg Go.RowKit Go.Conc.Lib Go.ConcR.Gen
open Go.ConcR (KK wgBlock WgAt stA smA mk DC0)
structure KO(bl:List (Nat×Obj))(Q:cI->Prop)(m0:Nat)(w:cI):Prop where
 at_:∀x∈bl,w.heap[x.1]? =some x.2
 inc:(bl.map (·.1)).Pairwise (·>·)
 lo:∀x∈bl,m0<=x.1
 sz:m0<=w.heap.size
 q:Q w
section
variable{P:cU}{ty:cQ}{Wg:Nat}{main:Bool}{own rd:Nat->Prop}{S:iT}{Q:cI->Prop}{m0:Nat}{bl:List (Nat×Obj)}{g:cP} {b:Frame}{a:Act}{k:List Item}{cs:List Frame}{ops:Array Oper}{i:Nat}{rest:List Nat}{o:Oper}{v:cJ}
theorem KO.rely{L:dB}(a:∀x∈bl,own x.1)(d:yV rd Q):pu own rd L (KO bl Q m0):=λ_ _ b h=>
 ⟨λx c=>b.obj (.inl (a x c)) (h.at_ x c),h.inc,h.lo,dw h.sz b.size,d.rely b h.q⟩
theorem WK.IX{ob:Obj}{f:Nat->cJ}(g:∀x∈bl,own x.1)(r:yV rd Q)(v:ops[i]? =some o)(z:Region.wanted o (yielded ops a.tmps)=true)(A:b.kind≠ .early) (B:∀w,KO bl Q m0 w->(execOp a.eval o).run P w=.ok (.value (f w.heap.size)) {w with heap:=w.heap.push ob})
 (C:∀w,KO bl Q m0 w->∀e∈(execOp a.eval o).events P w #[],EvW own rd w.heap.size (w.heap.size+1) e) (D:∀c,(∀x∈bl,x.1<c)->m0<=c->WK P ty Wg main rd S (λx=>own x\/x=c) (KO ((c,ob)::bl) Q m0) (G (b.at (a.put o.dst (f c)) (.inRegion ops rest::k)) cs)):
 WK P ty Wg main rd S own (KO bl Q m0) (G (b.at a (.inRegion ops (i::rest)::k)) cs):=by
 refine WK.new (f:=f) (ob:=ob) (KO.rely g r) v z A B C λc=>?_;rintro w ⟨l,m,rfl,n⟩;have p:∀x∈bl,x.1<l.lH:=λx d=>lt_of_heap (m.at_ x d)
 have j:eP (λx=>own x\/x=l.lH) rd (Lv ty Wg) l {l with heap:=l.heap.push ob}:=⟨rfl,rfl,rfl,dt,λb F _=>by
  show(l.heap.push ob)[b]? =_;rw[sg];split;omega;rfl,λh=>by
  have⟨s,t,h⟩:=h;refine⟨s,t,?_⟩;have u:l.heap[Wg]? =some (wgBlock ty s t):=h;show(l.heap.push ob)[Wg]? =_;rw[sg];split;have:=lt_of_heap u;omega;exact u⟩
 refine D l.lH p m.sz w (KO.rely (λx d=>?_) r _ _ n ⟨λx d=>?_,?_,λx d=>?_,?_,r.rely j m.q⟩);obtain rfl|d:=eW.1 d;exact .inr rfl;exact .inl (g x d);obtain rfl|d:=eW.1 d;simp;exact j.obj (.inl (.inl (g x d))) (m.at_ x d);simp only[kY,List.pairwise_cons];exact⟨λy E=>by obtain⟨x,d,rfl⟩:=kF.1 E;exact p x d,m.inc⟩;obtain rfl|d:=eW.1 d;exact m.sz;exact m.lo x d;have:=m.sz;simp;omega
theorem WK.O1{pre:List (Nat×Obj)}{c:Nat}{ob ob':Obj}(g:∀x∈pre++(c,ob)::bl,own x.1)(r:yV rd Q)(s:∀b,own b->¬rd b)(u:ops[i]? =some o)(v:Region.wanted o (yielded ops a.tmps)=true)(y:b.kind≠ .early) (z:∀w,KO (pre++(c,ob)::bl) Q m0 w->∃j,(execOp a.eval o).run P w=.ok .skip j/\j.tape=w.tape/\j.os=w.os/\j.output=w.output/\j.heap.size=w.heap.size/\(∀d,d≠c->j.heap[d]? =w.heap[d]?)/\j.heap[c]? =some ob') (A:∀w,KO (pre++(c,ob)::bl) Q m0 w->∀e∈(execOp a.eval o).events P w #[],EvW own rd w.heap.size w.heap.size e) (B:WK P ty Wg main rd S own (KO (pre++(c,ob')::bl) Q m0) (G (b.at (a.put o.dst undef) (.inRegion ops rest::k)) cs)):WK P ty Wg main rd S own (KO (pre++(c,ob)::bl) Q m0) (G (b.at a (.inRegion ops (i::rest)::k)) cs):=by
 refine WK.write (bl:=c) (W:=λ_ j=>j.heap[c]? =some ob') (KO.rely g r) u v y (g (c,ob) dt) (λw m=>?_) A ?_;have⟨j,C,D,E,F,H,I,J⟩:=z w m;exact⟨j,C,D,E,F,H,I,J⟩;refine WK.mono B ?_;rintro w ⟨K,L,m,M,t,l,p⟩;have n:∀x∈pre++(c,ob')::bl,own x.1:=λx f=>by obtain f|f:=jy.1 f;exact g x (jy.2 (.inl f));obtain rfl|f:=eW.1 f;exact g (c,ob) dt;exact g x (by simp[f])
 have h:=m.inc;simp only[oC,kY,List.pairwise_append,List.pairwise_cons]at h;refine KO.rely n r _ _ p ⟨λx f=>?_,?_,λx f=>?_,?_,?_⟩;obtain f|f:=jy.1 f;have:x.1>c:=h.2.2 x.1 (kF.2 ⟨x,f,rfl⟩) c dt;rw[l _ cL];exact m.at_ x (jy.2 (.inl f));obtain rfl|f:=eW.1 f;exact M;have:c>x.1:=h.2.1.1 x.1 (kF.2 ⟨x,f,rfl⟩);rw[l _ cL];exact m.at_ x (by simp[f]);simp only[oC,kY,List.pairwise_append,List.pairwise_cons];exact h;obtain f|f:=jy.1 f;exact m.lo x (jy.2 (.inl f));obtain rfl|f:=eW.1 f;exact m.lo (c,ob) dt;exact m.lo x (by simp[f]);rw[t];exact m.sz;refine r K L (by rw[t];exact dg _) (λb _ N=>l b λe=>?_) m.q;subst e;exact s b (g (b,ob) dt) N
end
end Go.Proofs.W
namespace Go.Proofs.W
open Go.Conc Go.dz Go.dz.Cr Go.dz.Wg Go.RowKit Go.Conc.Lib Go.ConcR.Gen
open Go.ConcN Go.ConcN.Gen
open Go.ConcR (KK wgBlock WgAt stA smA mk DC0)
noncomputable def F9:Code:=(Go.Code.cond (Go.Operand.tmp 40) Go.Code.skip (Go.Code.exit 2)).seq (Go.Code.block 3 ((Go.Code.region 15 xo false).seq (Go.Code.region 16 xp false)))
structure Mh where
 (x5 Zq x24 x25 x26 x27 x28 Zr Zs Zt Zu Zv Zw Zx Zy Zz:cJ)
noncomputable def Cz(e:tk)(m:Mh)(k l o p n A:Nat)(q a b c d f g h i j:cJ):Act:=
 Ag e k l o n m.x5 (.slice (some ⟨A,0,none⟩) n n) q m.Zq m.x24 m.x25 m.x26 m.x27 m.x28 m.Zr m.Zs m.Zt m.Zu m.Zv m.Zw m.Zx m.Zy m.Zz (.chan (some p)) a b c d f g h i j
structure KB(Wg lc:Nat)(rd own:Nat->Prop)(K0:cI->Prop)(lv:Array cJ)(w:cI):Prop where
 was:∃w0,K0 w0/\lc=w0.heap.size/\w0.heap.size<=w.heap.size/\∀x,x<w0.heap.size->own x\/rd x->w.heap[x]? =w0.heap[x]?
 live:Lv 241 Wg w
 l:w.heap[lc]? =some (.cells lv 247)
def KB.rely{rd own:dn}:pu (λx=>own x\/x=k) rd (Lv 241 m) (KB m k rd own S W):=λw f a h=>by have⟨b,c,d,e,g⟩:=h.was;exact⟨⟨b,c,d,dw e a.size,λx i j=>(a.heap x cL cK).trans cK⟩,a.live h.live,a.obj cK h.l⟩
def Mi{e:tk}{m:Mh}{M N Wg Ch n pb A i:Nat}{Q:dB}{D own:dn}{J:Nat->(dn)->cI->cJ->Prop}{S:iT}{Sb:Nat->Bool}{cs:List Frame}(hn:n<=65536)(hi:i<n)(ai:own A)(h1:D M)(h3:D N)(hQ:tl D Q)(hP:Ai J) {sa:dV}{sl sc:Nat}{mm k:Int}{b:Bool} (x7 Y Z aa ab ac ad ae af:cJ) (ag:∀own' x7 am Y Z aa ab ac ad ae af,WK PR 241 Wg true D S own' (KR M N Wg Ch A pb n D Q J own' (upd Sb i true)) (G (lP.at (Cz e m M N Wg Ch n A x7 am Y Z aa ab ac ad ae af) [.code pI,.inLoop pI,.inBlock 2,.code my]) cs)):
 WK PR 241 Wg true D S own (λw=>KR M N Wg Ch A pb n D Q J own Sb w/\∃H,(∀x,H x->own x/\x≠A/\x<w.heap.size)/\J i H w (oP sa sl sc mm k b))
  (G (lP.at (Cz e m M N Wg Ch n A x7 (.tuple #[DX i sa sl sc mm k b,.bool true]) Y Z aa ab ac ad ae af) [.inRegion mU [1],.code F9,.inLoop pI,.inBlock 2,.code my]) cs):=by
 have C:pu own D (Lv 241 Wg) (λw=>KR M N Wg Ch A pb n D Q J own Sb w/\∃H,(∀x,H x->own x/\x≠A/\x<w.heap.size)/\J i H w (oP sa sl sc mm k b)):=λw w1 I h=>⟨KR.rely h1 h3 hQ hP w w1 I h.1,h.2.imp λH h=>⟨λx z=>⟨(h.1 x z).1,(h.1 x z).2.1,ep (h.1 x z).2.2 I.size⟩,hP _ _ _ _ _ (λx z=>I.heap x (h.1 x z).2.2 (.inl (h.1 x z).1)) h.2⟩⟩;have K:∀d lv,pu (λx=>own x\/x=d) D (Lv 241 Wg) (KB Wg d D own (λw=>KR M N Wg Ch A pb n D Q J own Sb w/\∃H,(∀x,H x->own x/\x≠A/\x<w.heap.size)/\J i H w (oP sa sl sc mm k b)) lv):=λ_ _=>KB.rely;simp only[mU,Cz,Ag];refine WK.val (v:=?_) C rfl rfl (by k_ne) (λw=>?_) (λw=>?_) ?_;rotate_left;go_simp;rfl;go_simp;walk_nrm;refine WK.ctl C rfl (λ_=>cY)<|WK.ctl C rfl (λ_=>dk)<|WK.ctl C rfl (λ_=>stepG_cond (t:=true) rfl) ?_;simp only[ej];refine WK.ctl C rfl (λ_=>fx)<|WK.ctl C rfl (λ_=>sQ)<|WK.ctl C rfl (λ_=>dk)<|WK.ctl C rfl (λ_=>ia) ?_;simp only[xo,il,fi,fO,Nat.reduceAdd,dj,List.range,List.range.loop];refine WK.val (v:=?_) C rfl rfl (by k_ne) (λw=>?_) (λw=>?_) ?_;rotate_left;go_simp;rfl;go_simp;walk_nrm;refine WK.new (f:=λn=>dR n) (ob:=.cells #[i64 0,fl,i64 0,i64 0,.bool false] 247) C rfl rfl (by k_ne) (λw q=>?_) (λw q e o=>?_) (λd=>?_)
 ·go_simp;first|done|rfl
 simp[go_sem]at o;refine WK.mono (K':=KB Wg d D own (λw=>KR M N Wg Ch A pb n D Q J own Sb w/\∃H,(∀x,H x->own x/\x≠A/\x<w.heap.size)/\J i H w (oP sa sl sc mm k b)) #[i64 0,fl,i64 0,i64 0,.bool false]) ?_ ?_;rotate_left;rintro w ⟨P,q,rfl,I⟩;refine K _ _ _ _ I ⟨⟨P,q,rfl,dt,λx z _=>?_⟩,uj q.1.s.live,dt⟩;show(P.heap.push _)[x]? =_;rw[sg];split;omega;rfl;walk_nrm;refine WK.write (bl:=d) (W:=λ_ w'=>w'.heap[d]? =some (.cells #[i64 i,.slice sa sl sc,i64 mm,i64 k,.bool b] 247)) (K _ _) rfl rfl (by k_ne) (.inr rfl) (λw q=>?_) (λw q e o=>?_) ?_;have g:=q.l;have c0:w.cell? (dq d 0)=some (i64 0):=by simp[World.cell?,g]
 have f0:w.frozen? (dq d 0)=false:=by simp[World.frozen?,g]
 have R:w.cell? (dq d 1)=some fl:=by simp[World.cell?,g]
 have f1:w.frozen? (dq d 1)=false:=by simp[World.frozen?,g]
 have T:w.cell? (dq d 2)=some (i64 0):=by simp[World.cell?,g]
 have f2:w.frozen? (dq d 2)=false:=by simp[World.frozen?,g]
 have U:w.cell? (dq d 3)=some (i64 0):=by simp[World.cell?,g]
 have f3:w.frozen? (dq d 3)=false:=by simp[World.frozen?,g]
 have c4:w.cell? (dq d 4)=some (.bool false):=by simp[World.cell?,g]
 have f4:w.frozen? (dq d 4)=false:=by simp[World.frozen?,g]
 simp only[DX];go_simp;refine⟨by simp[World.setCell],by simp[World.setCell],λc ah=>?_,?_⟩;simp[World.setCell,nO,jc ah];simp[World.setCell,nO,g];have g:=q.l;have c0:w.cell? (dq d 0)=some (i64 0):=by simp[World.cell?,g]
 have f0:w.frozen? (dq d 0)=false:=by simp[World.frozen?,g]
 have R:w.cell? (dq d 1)=some fl:=by simp[World.cell?,g]
 have f1:w.frozen? (dq d 1)=false:=by simp[World.frozen?,g]
 have T:w.cell? (dq d 2)=some (i64 0):=by simp[World.cell?,g]
 have f2:w.frozen? (dq d 2)=false:=by simp[World.frozen?,g]
 have U:w.cell? (dq d 3)=some (i64 0):=by simp[World.cell?,g]
 have f3:w.frozen? (dq d 3)=false:=by simp[World.frozen?,g]
 have c4:w.cell? (dq d 4)=some (.bool false):=by simp[World.cell?,g]
 have f4:w.frozen? (dq d 4)=false:=by simp[World.frozen?,g]
 simp only[DX]at o;have B:∀(w:cI) (B:Array Event) (a:Addr) (m:Mode) (x:dV) (l c:Nat),(store a (.slice x l c) m).events PR w B=storedEv PR w B a (.slice x l c) m:=λw B a m x l c=>events_store PR w B a _ m rfl;have eb:∀(w:cI) (B:Array Event) (a:Addr) (m:Mode) (x:Bool),(store a (.bool x) m).events PR w B=storedEv PR w B a (.bool x) m:=λw B a m x=>events_store PR w B a _ m rfl;simp[go_sem,B,eb,c0,R,T,U,c4,f0,f1,f2,f3,f4]at o;obtain o|o|o|o|o:=o<;>exact .inl ⟨_,_,o,.inl (.inr rfl)⟩;refine WK.mono (K':=KB Wg d D own (λw=>KR M N Wg Ch A pb n D Q J own Sb w/\∃H,(∀x,H x->own x/\x≠A/\x<w.heap.size)/\J i H w (oP sa sl sc mm k b)) #[i64 i,.slice sa sl sc,i64 mm,i64 k,.bool b]) ?_ ?_;rotate_left;rintro w ⟨P,w1,q,hW,hs,ho,I⟩;have⟨an,k1,k2,k3,k4⟩:=q.was;have⟨st,sm,hl⟩:=q.live;refine K _ _ _ _ I ⟨⟨an,k1,k2,cL,λx z ao=>(ho x cL).trans (k4 x z ao)⟩,⟨st,sm,(ho Wg ?_).trans hl⟩,hW⟩;have:=k1.1.lw;have⟨aB,aC,ap⟩:=k1.1.s.live;have:=lt_of_heap ap;omega;walk_nrm;have u:=K d #[i64 i,.slice sa sl sc,i64 mm,i64 k,.bool b];refine WK.ctl u rfl (λ_=>cY)<|WK.ctl u rfl (λ_=>ia) ?_;simp only[xp,il,fi,fO,Nat.reduceAdd,dj,List.range,List.range.loop];refine WK.val (v:=?_) u rfl rfl (by k_ne) (λw=>?_) (λw=>?_) ?_;rotate_left;go_simp;rfl;go_simp;walk_nrm;refine WK.val (v:=?_) u rfl rfl (by k_ne) (λw=>?_) (λw=>?_) ?_;rotate_left;go_simp;rfl;go_simp;walk_nrm;refine WK.load (v:=i64 i) u rfl rfl (by k_ne) (λw q=>?_) (λw q e o=>?_) ?_;have g:=(λw q=>(show w.cell? (dq d 0)=some (i64 i) by simp[World.cell?,q.l])) w q;go_simp;have g:=(λw q=>(show w.cell? (dq d 0)=some (i64 i) by simp[World.cell?,q.l])) w q;simp[go_sem,g]at o;exact .inl ⟨_,_,o,.inl (.inr rfl)⟩;walk_nrm;refine WK.val (v:=?_) u rfl rfl (by k_ne) (λw=>?_) (λw=>?_) ?_;rotate_left;go_simp;rfl;go_simp;walk_nrm;refine WK.load (v:=oP sa sl sc mm k b) u rfl rfl (by k_ne) (λw q=>?_) (λw q e o=>?_) ?_
 ·have g:=q.l;have R:w.cell? (dq d 1)=some (.slice sa sl sc):=by simp[World.cell?,g]
  have T:w.cell? (dq d 2)=some (i64 mm):=by simp[World.cell?,g]
  have U:w.cell? (dq d 3)=some (i64 k):=by simp[World.cell?,g]
  have c4:w.cell? (dq d 4)=some (.bool b):=by simp[World.cell?,g]
  go_simp;first|done|rfl
 have g:=q.l;have R:w.cell? (dq d 1)=some (.slice sa sl sc):=by simp[World.cell?,g]
 have T:w.cell? (dq d 2)=some (i64 mm):=by simp[World.cell?,g]
 have U:w.cell? (dq d 3)=some (i64 k):=by simp[World.cell?,g]
 have c4:w.cell? (dq d 4)=some (.bool b):=by simp[World.cell?,g]
 simp[go_sem,R,T,U,c4]at o;obtain o|o|o|o:=o<;>exact .inl ⟨_,_,o,.inl (.inr rfl)⟩;walk_nrm;refine WK.val (v:=qI A (4*i)) u rfl rfl (by k_ne) (λw=>?_) (λw=>?_) ?_;go_simp<;>omega;simp[go_sem];exact events_indexAt_slice _ _ _ _ _ _ eE ⟨cL,cL⟩;walk_nrm;refine WK.write (bl:=A) (W:=λw w'=>∀cs:eF,w.heap[A]? =some (.cells cs 199)->w'.heap[A]? =some (.cells ((((cs.setIfInBounds (4*i) (.slice sa sl sc)).setIfInBounds (4*i+1) (i64 mm)).setIfInBounds (4*i+2) (i64 k)).setIfInBounds (4*i+3) (.bool b)) 199)) u rfl rfl (by k_ne) (.inl ai) (λw q=>?_) (λw q e o=>?_) ?_;have⟨P,⟨I,_⟩,_,_,p⟩:=q.was;have⟨y,V,aj,_⟩:=I.a;have F:w.heap[A]? =some (.cells y 199):=(p A (lt_of_heap V) (.inl I.oa)).trans V;have c0:w.cell? (dq A (4*i))=some (y[4*i]'cL):=by simp[World.cell?,F]
 have R:w.cell? (dq A (4*i+1))=some (y[4*i+1]'cL):=by simp[World.cell?,F]
 have T:w.cell? (dq A (4*i+2))=some (y[4*i+2]'cL):=by simp[World.cell?,F]
 have U:w.cell? (dq A (4*i+3))=some (y[4*i+3]'cL):=by simp[World.cell?,F]
 have f0:w.frozen? (dq A (4*i))=false:=by simp[World.frozen?,F]
 have f1:w.frozen? (dq A (4*i+1))=false:=by simp[World.frozen?,F]
 have f2:w.frozen? (dq A (4*i+2))=false:=by simp[World.frozen?,F]
 have f3:w.frozen? (dq A (4*i+3))=false:=by simp[World.frozen?,F]
 simp only[oP];go_simp;refine⟨by simp[World.setCell],by simp[World.setCell],λc ah=>?_,?_⟩;simp[World.setCell,nO,jc ah];simp[World.setCell,nO,F];have⟨P,⟨I,_⟩,_,_,p⟩:=q.was;have⟨y,V,aj,_⟩:=I.a;have F:w.heap[A]? =some (.cells y 199):=(p A (lt_of_heap V) (.inl I.oa)).trans V;have c0:w.cell? (dq A (4*i))=some (y[4*i]'cL):=by simp[World.cell?,F]
 have R:w.cell? (dq A (4*i+1))=some (y[4*i+1]'cL):=by simp[World.cell?,F]
 have T:w.cell? (dq A (4*i+2))=some (y[4*i+2]'cL):=by simp[World.cell?,F]
 have U:w.cell? (dq A (4*i+3))=some (y[4*i+3]'cL):=by simp[World.cell?,F]
 have f0:w.frozen? (dq A (4*i))=false:=by simp[World.frozen?,F]
 have f1:w.frozen? (dq A (4*i+1))=false:=by simp[World.frozen?,F]
 have f2:w.frozen? (dq A (4*i+2))=false:=by simp[World.frozen?,F]
 have f3:w.frozen? (dq A (4*i+3))=false:=by simp[World.frozen?,F]
 have B:∀(w:cI) (B:Array Event) (a:Addr) (m:Mode) (x:dV) (l c:Nat),(store a (.slice x l c) m).events PR w B=storedEv PR w B a (.slice x l c) m:=λw B a m x l c=>events_store PR w B a _ m rfl;have eb:∀(w:cI) (B:Array Event) (a:Addr) (m:Mode) (x:Bool),(store a (.bool x) m).events PR w B=storedEv PR w B a (.bool x) m:=λw B a m x=>events_store PR w B a _ m rfl;simp only[oP]at o;simp[go_sem,B,eb,c0,R,T,U,f0,f1,f2,f3]at o;obtain o|o|o|o:=o<;>exact .inl ⟨_,_,o,.inl (.inl ai)⟩;refine WK.mono (K':=KR M N Wg Ch A pb n D Q J (λx=>own x\/x=d) (upd Sb i true)) ?_ ?_;rotate_left;rintro w ⟨w1,w2,q,hW,hs,ho,I⟩;refine KR.rely h1 h3 hQ hP _ _ I ?_;have⟨P,⟨E,H,L,aq⟩,aD,aj,p⟩:=q.was;have⟨y,V,ak,al⟩:=E.a;have ar:w1.heap[A]? =some (.cells y 199):=(p A (lt_of_heap V) (.inl E.oa)).trans V;have X:∀x,own x->x≠A->x<P.heap.size->w2.heap[x]? =P.heap[x]? :=λx z au av=>(ho x au).trans (p x av (.inl z));have⟨st,sm,hl⟩:=q.live;refine⟨⟨E.s.k.same h1 h3 hQ cL λx z=>(ho x (iD (E.lr x z))).trans (p x (E.s.k.r x z) (.inr z)),⟨st,sm,(ho Wg (iD E.lw)).trans hl⟩⟩,⟨_,hW y ar,by simp[ak],λj hj hS=>?_⟩,.inl E.oa,E.lr,E.lw⟩;by_cases e:j=i;subst e
 refine⟨sa,sl,sc,mm,k,b,H,λx z=>⟨.inl (L x z).1,(L x z).2.1,iD ((L x z).2.2)⟩,?_,?_,?_,?_,hP _ _ _ _ _ (λx z=>X x (L x z).1 (L x z).2.1 (L x z).2.2) aq⟩<;>
  simp[Array.getElem?_setIfInBounds,ak]<;>omega
 have aw:Sb j=true:=by rwa[upd_ne _ _ e]at hS
 have⟨ax,ay,az,m',k',b',aA,g1,g2,g3,g4,g5,g6⟩:=OY.same (own':=λx=>own x\/x=d) hP (al j hj aw) (λ_ h=>.inl h) (by omega:P.heap.size<=w2.heap.size) X;refine⟨ax,ay,az,m',k',b',aA,g1,?_,?_,?_,?_,g6⟩;rw[fZ cL,fZ cL,fZ cL,fZ cL];exact g2;rw[fZ cL,fZ cL,fZ cL,fZ cL];exact g3;rw[fZ cL,fZ cL,fZ cL,fZ cL];exact g4;rw[fZ cL,fZ cL,fZ cL,fZ cL];exact g5;have O:pu (λx=>own x\/x=d) D (Lv 241 Wg) (KR M N Wg Ch A pb n D Q J (λx=>own x\/x=d) (upd Sb i true)):=KR.rely h1 h3 hQ hP;exact WK.ctl O rfl (λ_=>cY)<|WK.ctl O rfl (λ_=>stepG_inBlock)<|WK.ctl O rfl (λ_=>stepG_inLoop)<|ag _ _ _ _ _ _ _ _ _ _ _
def tp(S:Nat->Bool)(n:Nat):Nat:=sumTo n λj=>if S j=true then 1 else 0
theorem Kw(S:Nat->Bool):∀n,tp S n<=n
 |0=>by simp[tp,sumTo]
 |n+1=>by have:=Kw S n;simp only[tp,sumTo]at*;split<;>omega
theorem Ga(S:Nat->Bool):∀n,tp S n=n->∀j,j<n->S j=true
 |0,_,j,c=>cL
 |n+1,h,j,c=>by have a:=Kw S n;simp only[tp,sumTo]at h a;by_cases e:S n=true;rw[cT e]at h;obtain b|b:=gu j n;exact Ga S n (by simp only[tp];omega) j b;obtain rfl:j=n:=cL;exact e;rw[cR e]at h;omega
theorem Gb(S:Nat->Bool)(i:Nat)(a:S i=false):∀n,i<n->tp (upd S i true) n=tp S n+1
 |0,h=>cL
 |n+1,h=>by
  by_cases e:i=n;subst e;have b:tp (upd S i true) i=tp S i:=sumTo_congr λj d=>by rw[upd_ne _ _ cL]
  simp only[tp,sumTo]at b⊢;rw[b,upd_same,a];simp;have c:=Gb S i a n cL;simp only[tp,sumTo]at c⊢;rw[c,upd_ne _ _ cL];omega
noncomputable def Kx(e:tk)(m:Mh)(j k l o n A:Nat)(p a b c d f g h i:cJ)(q:List Frame):cP:=
 G (lP.at (Cz e m j k l o n A p (.tuple #[tn,.bool false]) a b c d f g h i) [.inRegion mU [1],.code F9,.inLoop pI,.inBlock 2,.code my]) q
def Wx(e:tk)(m:Mh)(l o p q A r n:Nat)(s:dn)(Q:dB)(t:Nat->(dn)->cI->cJ->Prop)(u:List Frame):iT:=λa g w=>
 ∃v b c d f h i j k,g=Kx e m l o p q n A v b c d f h i j k u/\KR l o p q A r n s Q t a (λ_=>true) w
def KR.all{e:Nat->(dn)->cI->cJ->Prop}{f g:Nat->Bool}(h:KR m k i j o p s B S e A f w)(n:∀b,b<s->g b=true->f b=true):KR m k i j o p s B S e A g w:=by have⟨q,r,c,t⟩:=h.a;exact⟨h.s,⟨q,r,c,λb l d=>t b l (n b l d)⟩,h.oa,h.lr,h.lw⟩
def hears{e:tk}{m:Mh}{F H Wg Ch n pb A:Nat}{Q:dB}{C:Nat->(dn)->cI->cJ->Prop}{cs:List Frame}{D:iT}(J:∀own g w,Wx e m F H Wg Ch A pb n B Q C cs own g w->D own g w)(hn:n<=65536)(P:B F)(R:B H)(T:tl B Q)(O:Ai C):∀(r:Nat) (S:Nat->Bool) (own:dn) (I y d f l o p q t u:cJ),tp S n+r=n->WK PR 241 Wg true B (pF PR 241 Wg Ch n B (F6 C) D tn r S) own (KR F H Wg Ch A pb n B Q C own S) (G (lP.at (Cz e m F H Wg Ch n A I y d f l o p q t u) [.code pI,.inLoop pI,.inBlock 2,.code my]) cs):=by
 intro r;induction r with
 |zero=>
  intro S own I y d f l o p q t u hc;have c:pu own B (Lv 241 Wg) (KR F H Wg Ch A pb n B Q C own S):=KR.rely P R T O;refine WK.ctl c rfl (λ_=>dk)<|WK.ctl c rfl (λ_=>ia) ?_;rw[show List.range mU.size=[0,1]from rfl];refine WK.stop c λw z=>⟨rfl,λw=>?_,?_⟩;refine(stepG_comm rfl rfl (by k_ne) (F5 (Ch:=Ch) rfl rfl w)).trans ?_;unfold listed;rw[yh (Ch:=Ch) rfl rfl w,seen_none];rw[served_G];exact J _ _ _ ⟨I,d,f,l,o,p,q,t,u,rfl,z.all λj U _=>Ga S n cL j U⟩
 |succ r ih=>
  intro S own I y d f l o p q t u hc;have c:pu own B (Lv 241 Wg) (KR F H Wg Ch A pb n B Q C own S):=KR.rely P R T O;refine WK.ctl c rfl (λ_=>dk)<|WK.ctl c rfl (λ_=>ia) ?_;rw[show List.range mU.size=[0,1]from rfl];refine WK.stop c λw z=>⟨rfl,λw=>?_,λi v K Z V L M=>?_⟩;refine(stepG_comm rfl rfl (by k_ne) (F5 (Ch:=Ch) rfl rfl w)).trans ?_;unfold listed;rw[yh (Ch:=Ch) rfl rfl w,seen_none];rw[served_G];obtain⟨sa,sl,sc,mm,k,b,oj,rfl,E,W⟩:=L
  have hl:=Mi (e:=e) (m:=m) (Wg:=Wg) (Ch:=Ch) (n:=n) (pb:=pb) (A:=A) (i:=i) (own:=λb=>own b\/K b) (S:=pF PR 241 Wg Ch n B (F6 C) D tn r (upd S i true)) (Sb:=S) (cs:=cs) hn Z (.inl z.oa) P R T O (sa:=sa) (sl:=sl) (sc:=sc) (mm:=mm) (k:=k) (b:=b)
   I d f l o p q t u λaa I y d f l o p q t u=>ih _ _ _ _ _ _ _ _ _ _ _ _ (by rw[Gb S i V n Z];omega)
  have⟨ca,ha,X,N⟩:=z.a;refine hl w ⟨⟨z.s,⟨ca,ha,X,λj U V=>(N j U V).same O (λ_ h=>.inl h) (dg _) λ_ _ _ _=>rfl⟩,.inl z.oa,z.lr,z.lw⟩,oj,λx Y=>⟨.inr (E x Y).1,λe=>M x (E x Y).1 (e▸z.oa),(E x Y).2⟩,W⟩
structure Gc(pb:Nat)(oa:Option Addr)(on oc:Nat)(la:Addr)(L C:Nat)(a0:Option Addr)(n c0:Nat)(w:cI):Prop where
 f1:w.cell? ⟨pb,1,none⟩=some (.slice oa on oc)
 ls:OW pb la L C a0 n c0 w
noncomputable def So(o p q r s t u a b c d e f g h i j k l m n:cJ):Act:=
 ⟨#[o,p,q,r,s,undef,undef,undef,t,u,a,b,c,d,e,f,g,h,i,j,k,l,m,n,undef,undef,undef,undef,undef,undef,undef,undef,undef,undef,undef,undef,undef,undef,undef,undef,undef,undef,undef,undef,undef,undef,undef,undef,undef,undef,undef,undef],[]⟩
def Ge(x:cJ)(a:List Frame):G (Frame.enter PR 163 #[x] .normal) a=G (lP.at (So x undef undef undef undef undef undef undef undef undef undef undef undef undef undef undef undef undef undef undef undef) [.code vZ]) a:=by rw[enter_at (fn:=Tryz.f163) (c:=vZ) _ Tryz.func163 Af,Tryz.ntmps163];simp only[So,il,fi,fO,Nat.reduceAdd,Nat.reduceSub,Array.replicate,List.replicate,List.append_toArray,nP,oD,lP]
noncomputable def i247:TypeInfo:=(PR.info? 247).getD default
def Ky:PR.info? 247=some i247:=eE
def Vd(k:Nat)(n:Nat)(Q:dB)(l:Nat)(m:List Frame):iT:=λa g w=>
 ∃(e:tk) (d f h i j c:Nat),g=G (lP.at (n5 e d h i n 0 undef undef undef undef undef undef) [.code gH,.inLoop gH,.inBlock 0,.code jA]) m/\e.x2=.pointer (some ⟨f,0,none⟩)/\KO [(i,wgBlock 241 0 0),(h,.cells #[.chan (some j)] 232),(j,.chan 0 #[] false c c false),(f,.cells #[.slice none 0 0,.int .i64 0,.int .i64 0,.bool false] 199),(d,.cells #[.pointer (some ⟨k,0,none⟩)] 200)] Q l w/\∀b,a b↔b=i\/b=h\/b=j\/b=f\/b=d
def O2{u U J L C n K m0:Nat}{a0:dV}{Q:dB}{rd:dn}{cs:List Frame}(D:yV rd Q)(aa:0<U)(hL:0<L) (H:∀w,Q w->Gc u a U J h L C a0 n K w)(M:rd u)(V:rd h.block)(W:∀b,rd b->b<m0):WK PR 241 0 true rd (Vd u n Q m0 cs) dp (KO [] Q m0) (G (Frame.enter PR 163 #[.pointer (some ⟨u,0,none⟩)] .normal) cs):=by
 rw[Ge];have h0:∀x∈([]:List (Nat×Obj)),dp x.1:=λx s=>by cases s
 have N:=KO.rely (Q:=Q) (m0:=m0) (rd:=rd) (own:=dp) (L:=Lv 241 0) h0 D;simp only[vZ,So];refine WK.ctl N rfl (λ_=>dk)<|WK.ctl N rfl (λ_=>ia) ?_;simp only[Ac,il,fi,fO,Nat.reduceAdd,dj,List.range,List.range.loop];refine WK.IX (f:=λn=>dR n) (ob:=.cells #[dR u] 200) h0 D rfl rfl (by k_ne) (λw c=>?_) (λw c e l=>?_) λr _ _=>?_
 ·go_simp;first|done|rfl
 simp[go_sem]at l;walk_nrm;have h1:∀x∈[(r,Obj.cells #[dR u] 200)],(λx=>dp x\/x=r) x.1:=λx s=>by rw[iv.1 s];exact .inr rfl
 refine WK.IX (f:=λn=>dR n) (ob:=.cells #[fl,i64 0,i64 0,.bool false] 199) h1 D rfl rfl (by k_ne) (λw c=>?_) (λw c e l=>?_) λz _ _=>?_
 ·go_simp;first|done|rfl
 simp[go_sem]at l;walk_nrm;have X:∀x∈[(z,Obj.cells #[fl,i64 0,i64 0,.bool false] 199),(r,Obj.cells #[dR u] 200)],(λx=>(dp x\/x=r)\/x=z) x.1:=λx s=>by obtain rfl|s:=eW.1 s;exact .inr rfl;rw[iv.1 s];exact .inl (.inr rfl)
 have j:=KO.rely (m0:=m0) (L:=Lv 241 0) (own:=λx=>(dp x\/x=r)\/x=z) X D;have O:∀w,KO [(z,Obj.cells #[fl,i64 0,i64 0,.bool false] 199),(r,Obj.cells #[dR u] 200)] Q m0 w->w.cell? (dq r 0)=some (dR u):=λw c=>by have:=c.at_ (r,Obj.cells #[dR u] 200) dt;simp[World.cell?,this]
 refine WK.ctl j rfl (λ_=>cY)<|WK.ctl j rfl (λ_=>dk)<|WK.ctl j rfl (λ_=>dk)<|WK.ctl j rfl (λ_=>ia) ?_;simp only[Ad,il,fi,fO,Nat.reduceAdd,dj,List.range,List.range.loop];refine WK.load (v:=dR u) j rfl rfl (by k_ne) (λw c=>?_) (λw c e l=>?_) ?_;have p:=(O) w c;go_simp;have p:=(O) w c;simp[go_sem,p]at l;exact .inl ⟨_,_,l,.inl (.inl (.inr rfl))⟩;walk_nrm;refine WK.val (v:=?_) j rfl rfl (by k_ne) (λw=>?_) (λw=>?_) ?_;rotate_left;go_simp;rfl;go_simp;walk_nrm;refine WK.val (v:=?_) j rfl rfl (by k_ne) (λw=>?_) (λw=>?_) ?_;rotate_left;go_simp;rfl;go_simp;walk_nrm;refine WK.load (v:=.slice a U J) j rfl rfl (by k_ne) (λw c=>?_) (λw c e l=>?_) ?_;have p:=(λw c=>(H w c.q).f1) w c;go_simp;have p:=(λw c=>(H w c.q).f1) w c;simp[go_sem,p]at l;exact .inl ⟨_,_,l,.inr (.inl ⟨rfl,M⟩)⟩;walk_nrm;refine WK.val (v:=?_) j rfl rfl (by k_ne) (λw=>?_) (λw=>?_) ?_;rotate_left;go_simp;rfl;go_simp;walk_nrm;refine WK.val (v:=.bool false) j rfl rfl (by k_ne) (λw=>?_) (λw=>?_) ?_;go_simp;omega;simp[go_sem];walk_nrm;refine WK.ctl j rfl (λ_=>cY)<|WK.ctl j rfl (λ_=>stepG_cond (t:=false) rfl) ?_;simp only[iH,fj];refine WK.ctl j rfl (λ_=>fx)<|WK.ctl j rfl (λ_=>dk)<|WK.ctl j rfl (λ_=>ia) ?_;simp only[FZ,il,fi,fO,Nat.reduceAdd,dj,List.range,List.range.loop];refine WK.IX (f:=λn=>.chan (some n)) (ob:=.chan 0 #[] false 0 0 false) X D rfl rfl (by k_ne) (λw c=>?_) (λw c e l=>?_) λA _ _=>?_
 ·have:=run_makeChan (P:=PR) (w:=w) (t:=232) (e:=247) (dir:=.both) (i:=i247) eE Ky .i64 0 cL cL;go_simp;first|done|rfl|(rw[this];rfl)
 have Y:(Instr.makeChan 232 (i64 0)).events PR w #[]=#[]:=by have Y:=events_makeChan (P:=PR) (w:=w) (t:=232) (e:=247) (dir:=.both) (i:=i247) eE Ky .i64 0 cL cL #[];simpa using Y
 have F:e∈(do Pure.pure (Next.value (<-Instr.makeChan 232 (i64 0))):Sem Next).events PR w #[]:=l;simp at F;rw[Y]at F;simp at F;walk_nrm;have h3:∀x∈[(A,Obj.chan 0 #[] false 0 0 false),(z,Obj.cells #[fl,i64 0,i64 0,.bool false] 199),(r,Obj.cells #[dR u] 200)],(λx=>((dp x\/x=r)\/x=z)\/x=A) x.1:=λx s=>by obtain rfl|s:=eW.1 s;exact .inr rfl;exact .inl (X x s)
 refine WK.IX (f:=λn=>dR n) (ob:=.cells #[.chan none] 232) h3 D rfl rfl (by k_ne) (λw c=>?_) (λw c e l=>?_) λy _ _=>?_
 ·go_simp;first|done|rfl
 simp[go_sem]at l;walk_nrm;have S:∀o,∀x∈[(y,o),(A,Obj.chan 0 #[] false 0 0 false),(z,Obj.cells #[fl,i64 0,i64 0,.bool false] 199),(r,Obj.cells #[dR u] 200)],(λx=>(((dp x\/x=r)\/x=z)\/x=A)\/x=y) x.1:=λo x s=>by obtain rfl|s:=eW.1 s;exact .inr rfl;exact .inl (h3 x s)
 refine WK.O1 (pre:=[]) (ob':=.cells #[.chan (some A)] 232) (S _) D (λb k Z=>?_) rfl rfl (by k_ne) (λw c=>?_) (λw c e l=>?_) ?_
 ·have:=W b Z;obtain(((k|k)|k)|k)|k:=k;exact k;all_goals omega
 have p:=c.at_ (y,Obj.cells #[.chan none] 232) dt;have K:w.cell? (dq y 0)=some (.chan none):=by simp[World.cell?,p]
 have f0:w.frozen? (dq y 0)=false:=by simp[World.frozen?,p]
 go_simp;refine⟨by simp[World.setCell],by simp[World.setCell],λd hd=>fS w (dq y 0) _ d hd,?_⟩;simp[World.setCell,nO,p];have p:=c.at_ (y,Obj.cells #[.chan none] 232) dt;have K:w.cell? (dq y 0)=some (.chan none):=by simp[World.cell?,p]
 have f0:w.frozen? (dq y 0)=false:=by simp[World.frozen?,p]
 have I:∀(w:cI) (I:Array Event) (T:Addr) (m:Mode) (x:Option Nat),(store T (.chan x) m).events PR w I=storedEv PR w I T (.chan x) m:=λw I T m x=>events_store PR w I T _ m rfl;simp[go_sem,I,K,f0]at l;exact .inl ⟨_,_,l,.inl (.inr rfl)⟩;walk_nrm;have B:=KO.rely (m0:=m0) (L:=Lv 241 0) (own:=λx=>(((dp x\/x=r)\/x=z)\/x=A)\/x=y) (S (Obj.cells #[.chan (some A)] 232)) D;refine WK.ctl B rfl (λ_=>cY)<|WK.ctl B rfl (λ_=>dk)<|WK.ctl B rfl (λ_=>ia) ?_;simp only[F0,il,fi,fO,Nat.reduceAdd,dj,List.range,List.range.loop];refine WK.IX (f:=λn=>dR n) (ob:=wgBlock 241 0 0) (S _) D rfl rfl (by k_ne) (λw c=>?_) (λw c e l=>?_) λR _ _=>?_
 ·go_simp;first|done|rfl
 simp[go_sem]at l;walk_nrm;have h5:∀x∈[(R,wgBlock 241 0 0),(y,Obj.cells #[.chan (some A)] 232),(A,Obj.chan 0 #[] false 0 0 false),(z,Obj.cells #[fl,i64 0,i64 0,.bool false] 199),(r,Obj.cells #[dR u] 200)],(λx=>((((dp x\/x=r)\/x=z)\/x=A)\/x=y)\/x=R) x.1:=λx s=>by obtain rfl|s:=eW.1 s;exact .inr rfl;exact .inl (S _ x s)
 have g:=KO.rely (m0:=m0) (L:=Lv 241 0) (own:=λx=>((((dp x\/x=r)\/x=z)\/x=A)\/x=y)\/x=R) h5 D;refine WK.ctl g rfl (λ_=>cY)<|WK.ctl g rfl (λ_=>dk)<|WK.ctl g rfl (λ_=>dk)<|WK.ctl g rfl (λ_=>ia) ?_;simp only[F1,il,fi,fO,Nat.reduceAdd,dj,List.range,List.range.loop];have E:∀w,KO [(R,wgBlock 241 0 0),(y,Obj.cells #[.chan (some A)] 232),(A,Obj.chan 0 #[] false 0 0 false),(z,Obj.cells #[fl,i64 0,i64 0,.bool false] 199),(r,Obj.cells #[dR u] 200)] Q m0 w->w.cell? (dq r 0)=some (dR u):=λw c=>by have:=c.at_ (r,Obj.cells #[dR u] 200) dt;simp[World.cell?,this]
 refine WK.load (v:=dR u) g rfl rfl (by k_ne) (λw c=>?_) (λw c e l=>?_) ?_;have p:=(E) w c;go_simp;have p:=(E) w c;simp[go_sem,p]at l;exact .inl ⟨_,_,l,.inl (.inl (.inl (.inl (.inl (.inr rfl)))))⟩;walk_nrm;refine WK.val (v:=?_) g rfl rfl (by k_ne) (λw=>?_) (λw=>?_) ?_;rotate_left;go_simp;rfl;go_simp;walk_nrm;refine WK.val (v:=?_) g rfl rfl (by k_ne) (λw=>?_) (λw=>?_) ?_;rotate_left;go_simp;rfl;go_simp;walk_nrm;refine WK.load (v:=.slice (some h) L C) g rfl rfl (by k_ne) (λw c=>?_) (λw c e l=>?_) ?_;have p:=(λw c=>(H w c.q).ls.f2) w c;go_simp;have p:=(λw c=>(H w c.q).ls.f2) w c;simp[go_sem,p]at l;exact .inl ⟨_,_,l,.inr (.inl ⟨rfl,M⟩)⟩;walk_nrm;refine WK.val (v:=.pointer (some h)) g rfl rfl (by k_ne) (λw=>?_) (λw=>?_) ?_;go_simp;simp[go_sem];exact events_indexAt_slice _ _ _ _ _ _ eE ⟨cL,cL⟩;walk_nrm;refine WK.load (v:=.slice a0 n K) g rfl rfl (by k_ne) (λw c=>?_) (λw c e l=>?_) ?_;have p:=(λw c=>(H w c.q).ls.l0) w c;go_simp;have p:=(λw c=>(H w c.q).ls.l0) w c;simp[go_sem,p]at l;exact .inl ⟨_,_,l,.inr (.inl ⟨rfl,V⟩)⟩;walk_nrm;refine WK.val (v:=?_) g rfl rfl (by k_ne) (λw=>?_) (λw=>?_) ?_;rotate_left;go_simp;rfl;go_simp;walk_nrm;refine WK.val (v:=?_) g rfl rfl (by k_ne) (λw=>?_) (λw=>?_) ?_;rotate_left;go_simp;rfl;go_simp;walk_nrm;refine WK.ctl g rfl (λ_=>cY)<|WK.ctl g rfl (λ_=>sQ)<|WK.ctl g rfl (λ_=>stepG_loop)<|WK.stop g λw c=>⟨⟨_,_,_,_,_,_,_,_,_,_,_,_,_,_,_,_⟩,r,z,y,R,A,0,rfl,rfl,c,λb=>⟨?_,?_⟩⟩;rintro(((((k|k)|k)|k)|k)|k);exact k.elim;exact .inr (.inr (.inr (.inr k)));exact .inr (.inr (.inr (.inl k)));exact .inr (.inr (.inl k));exact .inr (.inl k);exact .inl k;rintro(k|k|k|k|k);exact .inr k;exact .inl (.inr k);exact .inl (.inl (.inr k));exact .inl (.inl (.inl (.inr k)));exact .inl (.inl (.inl (.inl (.inr k))))
def Ak{rc:Nat}{f:eF}{a b c d:cJ}{w:cI}(g:f[2]? =some (.pointer (some ⟨rc,0,none⟩)))(e:w.heap[rc]? =some (.cells #[a,b,c,d] 199)):(results Tryz.f163 f).run PR w=.ok (.agg #[a,b,c,d]) w:=by
 have h:w.cell? (dq rc 0)=some a:=by simp[World.cell?,e]
 have i:w.cell? (dq rc 1)=some b:=by simp[World.cell?,e]
 have j:w.cell? (dq rc 2)=some c:=by simp[World.cell?,e]
 have k:w.cell? (dq rc 3)=some d:=by simp[World.cell?,e]
 simp[results,Tryz.results163,go_sem,g,h,i,j,k]
def wi{rc:Nat}{h:eF}{a b c d:cJ}{w:cI}(j:h[2]? =some (.pointer (some ⟨rc,0,none⟩)))(g:w.heap[rc]? =some (.cells #[a,b,c,d] 199)):∀e∈(results Tryz.f163 h).events PR w #[],∃i k,e=⟨.cell i,k,false⟩/\i.block=rc:=by
 have l:w.cell? (dq rc 0)=some a:=by simp[World.cell?,g]
 have m:w.cell? (dq rc 1)=some b:=by simp[World.cell?,g]
 have n:w.cell? (dq rc 2)=some c:=by simp[World.cell?,g]
 have o:w.cell? (dq rc 3)=some d:=by simp[World.cell?,g]
 intro e f;simp[results,Tryz.results163,go_sem,j,l,m,n,o]at f;obtain f|f|f|f:=f<;>exact⟨_,_,f,rfl⟩
section
variable{Wg:Nat}{own rd:Nat->Prop}{S:iT}{Q:cI->Prop}{m0 rc:Nat}{bl pre:List (Nat×Obj)}{caller:Frame}{cs:List Frame}{va vb vc vd:cJ}{act:Act}
theorem O3{k:List Item}{K:dB}(a:pu own rd (Lv 241 Wg) K)(f:∀w,K w->w.heap[rc]? =some (.cells #[va,vb,vc,vd] 199))(c:own rc)(g:act.tmps[2]? =some (.pointer (some ⟨rc,0,none⟩)))(i:act.defers=[]) (j:WK PR 241 Wg true rd S own K (G (caller.finish (.agg #[va,vb,vc,vd])) cs)):WK PR 241 Wg true rd S own K (G (lP.at act (.code .ret::k)) (caller::cs)):=by refine WK.ctl (g':=G {lP.at act (.code .ret::k)with mode:=.returning} (caller::cs)) a rfl (λw=>?_) ?_;simp[stepG,stepG.exec,G,Frame.at,lP,base];refine WK.step a rfl λw d=>?_;have l:=Ak g (f w d);refine⟨G (caller.finish (.agg #[va,vb,vc,vd])) cs,w,seen PR 163 ((results Tryz.f163 act.tmps).events PR w #[]),own,?_,⟨rfl,rfl,rfl,dg _,λb=>⟨.inl,λh=>h.elim id λh=>absurd h.2 (Nat.not_lt.2 h.1)⟩,λ_ _ _=>rfl,λe m=>?_⟩,j w d⟩;simp[stepG,unwind,doReturn,G,Frame.at,lP,base,i,Tryz.func163,kH,l,GStep.after];have:=lx m;obtain⟨n,o,rfl,p⟩:=wi g (f w d) e this;exact .inl ⟨n,o,rfl,.inl (by rw[p];exact c)⟩
end
abbrev Sp:=Option (List Int×Int×Int)
def nq(x y:Sp):Bool:=match x,y with
 |none,_=>false
 |some _,none=>true
 |some (_,m,k),some (_,a,b)=>if m≠a then decide (m<a)else decide (k<b)
def qi:List Sp->Sp
 |[]=>none
 |x::b=>b.foldl (λa y=>if nq y a then y else a) x
def ie(l:eY)(c:Nat):eF:=(l.map (Value.int .i64)++List.replicate (c-l.length) (Value.int .i64 0)).toArray
def O4(b:Nat×Nat):Prop:=∀a,¬Fx b a
def dT(o:dn)(w:cI)(s:Sp)(y:SV):Prop:=match s with
 |none=>y=⟨none,0,0,0,0,false⟩
 |some (l,m,k)=>y.m=m/\y.k=k/\y.b=true/\y.sl=l.length/\((l=[]/\y.sa=none/\y.sc=0)\/
  (l≠[]/\∃a,o a/\y.sa=some ⟨a,0,none⟩/\l.length<=y.sc/\y.sc<2^63/\∃c,O4 c/\w.heap[a]? =some (.cells (ie l y.sc) 3 c)))
def dT.better{s a:Sp}{x y:SV}(h:dT A w s x)(k:dT B t a y):iU x y=nq s a:=by
 cases s with
 |none=>
  have:x=⟨none,0,0,0,0,false⟩:=h;subst this;cases a with
  |none=>rfl
  |some a=>rfl
 |some s=>
  have⟨l,m,n⟩:=s;have⟨c,d,b,_⟩:=h;cases a with
  |none=>
   have:y=⟨none,0,0,0,0,false⟩:=k;subst this;simp[iU,nq,b]
  |some a=>
   have⟨i,j,o⟩:=a;have⟨e,f,g,_⟩:=k;simp[iU,nq,c,d,b,e,f,g]
theorem yi:∀(b:List SV) (c:List Sp) (x:SV) (s:Sp),dT A w s x->b.length=c.length->(∀j (h:j<b.length) (k:j<c.length),dT A w c[j] b[j])->
 dT A w (c.foldl (λa y=>if nq y a then y else a) s) (b.foldl (λa y=>if iU y a then y else a) x)
 |[],[],x,s,h,_,_=>h
 |y::b,t::c,x,s,h,d,g=>by simp only[mj];have e:=g 0 dt dt;simp only[nQ]at e;rw[e.better h];refine yi b c _ _ ?_ (eV d) λj i f=>g (j+1) (eV i) (eV f);split;exact e;exact h
 |[],_::_,_,_,_,d,_=>by simp at d
 |_::_,[],_,_,_,d,_=>by simp at d
def Gf(b:List SV)(a:List Sp)(c:b.length=a.length)(e:∀j (h:j<b.length) (g:j<a.length),dT A w a[j] b[j]):dT A w (qi a) (dJ b):=by
 cases b with
 |nil=>cases a with
  |nil=>rfl
  |cons _ _=>simp at c
 |cons y b=>cases a with
  |nil=>simp at c
  |cons s a=>
   exact yi b a y s (e 0 dt dt) (eV c) λj f d=>e (j+1) (eV f) (eV d)
def Wy.Uj{S:iT}(h:Wy P T m D A S B Z w):Wy P T m D A (λo Z c=>S o Z c/\∀b,B b->o b) B Z w:=by
 obtain⟨t,h⟩:=h
 have g:∀i:dn,(∀b,i b->B b)->Wy P T m D A (λo Z c=>S o Z c/\∀b,i b->o b) B Z w:=by
  intro i k;induction h with
  |here h=>exact pH λd f=>⟨h d f,k⟩
  |step p q u r=>
   refine mw p λd f=>?_;obtain⟨l,c,n,a,e,j⟩:=q d f;exact⟨l,c,n,a,e,j,r d l c n a f e j λb s=>(j.owns b).2 (.inl (k b s))⟩
 exact g B λ_ h=>h
end Go.Proofs.W
namespace Go.Proofs.W
open Go.RowKit
def V.x6:V.prog.underlying 27=some (.slice 3):=by rw[V.uP,Tryz.underlying27]
def wj:Tryz.t3.bytes=8:=eE
def Mj(w:cI):Calls V.prog 128 #[.slice none 0 0] w λe a=>e=.returned (.slice none 0 0)/\a=w:=by have b:=λ(w:cI)=>Go.Lib.run_eql_slice_nil (P:=jS) w 27 3 none 0 0 0 0 V.x6;go_enter V.func128,Tryz.ntmps128;go_wp2;go_ret;exact⟨rfl,rfl⟩
def yj(w:cI)(a b:Nat):Nat:=(Question.appendCap a b 3).cut (w.tape w.drawn (.appendCap a b 3))
def O5(w:cI)(a b:Nat):a<=yj w a b:=by simp[yj,Question.cut]
def O6(w:cI)(a b:Nat)(h:a<=65536):yj w a b<2^63:=by have:0<2^63-a:=cL;have:=Nat.mod_lt (w.tape w.drawn (.appendCap a b 3)) this;simp only[yj,Question.cut];omega
def BX(n:Nat):Builtin.zeroCells #[.int .i64 0] n=(List.replicate n (Value.int .i64 0)).toArray:=by apply RA;simp[Builtin.zeroCells];exact List.ext_getElem dt λi a b=>by simp[Nat.mod_one]
def D5(l:eY)(c:Nat):(l.map (Value.int .i64)).toArray++Builtin.zeroCells #[.int .i64 0] (c-l.length)=ie l c:=by rw[BX];simp[ie]
def IY(b c:Nat)(l:eY)(w:cI)(g:0<l.length)(m:l.length<=65536)(n:b<w.heap.size)(d:∀k (h:k<l.length),w.cell? ⟨b,k,none⟩=some (.int .i64 l[k])):
 Calls V.prog 128 #[.slice (some ⟨b,0,none⟩) l.length c] w λe w'=>e=.returned (.slice (some ⟨w.heap.size+1,0,none⟩) l.length (yj w l.length 0))/\
  w'=((w.alloc (.cells #[] 3)).alloc (.cells (ie l (yj w l.length 0)) 3)).drew:=by
 have s:=λ(w:cI)=>Go.Lib.run_eql_slice_nil (P:=V.prog) w 27 3 (pt b 0) l.length c 0 0 V.x6;have o:Sem.run V.prog (loadCellsFrom (dq b 0) 0 l.length #[]) (w.alloc (.cells #[] 3)).drew=.ok (l.map (Value.int .i64)).toArray (w.alloc (.cells #[] 3)).drew:=by
  have:=run_loadCellsFrom (P:=V.prog) (w.alloc (.cells #[] 3)).drew (dq b 0) (λj=>i64 (l.getD j 0)) l.length 0 #[] λj f=>by
   have h:=d j f;have e:(w.alloc (.cells #[] 3)).drew.cell? (dq b j)=w.cell? (dq b j):=iy (w:=w) (w':=(w.alloc (.cells #[] 3)).drew) (ad:=(dq b j)) (alloc_old w _ n);have p:((dq b 0):Addr).add j=(dq b j):=by unfold Addr.add;split;rename_i h;subst h;rfl;simp
   simp only[dj];rw[p,e,h,gD,eZ f];rfl
  rw[this];congr 1;apply RA;simp;exact List.ext_getElem dt λi a q=>by simp at a;simp[a]
 have a:¬(9223372036854775807<(l.length:Int)/\Tryz.t3.bytes=0):=by rw[wj];omega
 have q:¬(281474976710656<Builtin.nextslicecap l.length 0*Tryz.t3.bytes):=by rw[wj,nextslicecap_zero g];omega
 have t:¬l.length=0:=cL;have r:=Go.Lib.hid (D5 l (yj w l.length 0));clear d m;go_enter V.func128,Tryz.ntmps128;go_wp2;go_ret;exact⟨rfl,by rw[<-r.out];rfl⟩
def ot(x d:Nat):Nat:=x|||(1<<<d)
def tq(x d:Nat):Nat:=x-(x&&&(1<<<d))
theorem Sq:∀x:Nat,x<32->∀d:Nat,d<5->bits .or .u8 (x:Int) ((2:Int)^d%256)=(ot x d:Int):=by decide+kernel
def Gg:∀x:Nat,x<32->∀d:Nat,d<5->bits .andNot .u8 (x:Int) ((2:Int)^d%256)=(tq x d:Int):=by decide+kernel
def D8:∀x,x<32->∀d,d<5->ot x d<32:=by decide+kernel
def Ss:∀x,x<32->∀d,d<5->tq x d<32:=by decide+kernel
def Gi(x d:Nat)(w:cI)(a:x<32)(b:d<5):Calls V.prog 164 #[.int .u8 x,.int .i64 d] w λe c=>e=.returned (.int .u8 (ot x d))/\c=w:=by have h:=Go.Lib.hid (Sq x a d b);go_enter V.func164,Tryz.ntmps164;go_wp2;go_ret;exact⟨by rw[h.out];rfl,rfl⟩
def Gj(x d:Nat)(w:cI)(a:x<32)(b:d<5):Calls V.prog 228 #[.int .u8 x,.int .i64 d] w λe c=>e=.returned (.int .u8 (tq x d))/\c=w:=by have h:=Go.Lib.hid (Gg x a d b);go_enter V.func228,Tryz.ntmps228;go_wp2;go_ret;exact⟨by rw[h.out];rfl,rfl⟩
def jY{d:Type}(e:dn)(E:cI->cJ->d->Prop)(z:cJ)(t:cQ)(w:cI)(v:cJ)(l:List d):Prop:=
 (l=[]/\v=.slice none 0 0)\/∃b c a f,e b/\v=.slice (some ⟨b,0,none⟩) l.length c/\w.heap[b]? =some (.cells a t f)/\a.size=c/\l.length<=c/\(∀k (h:k<l.length),∃u,a[k]? =some u/\E w u l[k])/\∀k,l.length<=k->k<c->a[k]? =some z
def Wz(_:cI)(u:cJ)(n:Nat):Prop:=u=.int .i64 n
abbrev xq(a:Nat->Prop):=jY a Wz (.int .i64 0) 3
abbrev Al(a:Nat->Prop):=jY a (xq a) (.slice none 0 0) 27
abbrev wl(a:Nat->Prop):=jY a (Al a) (.slice none 0 0) 66
def jY.same{a:Type}{E:cI->cJ->a->Prop}{w w':cI}{l:List a}(f:∀b,A b->w'.heap[b]? =w.heap[b]?)(q:∀u d,E w u d->E w' u d)(h:jY A E z T w x l):jY A E z T w' x l:=by obtain h|⟨b,c,g,i,e,j,m,n,o,r,p⟩:=h;exact .inl h;refine .inr ⟨b,c,g,i,e,j,(f b e).trans m,n,o,λk s=>?_,p⟩;grind
def XR(b:cJ):Prop:=b=undef\/∃a,b=.pointer (some a)
structure eJ where
 opn:List Nat
 lists:List (List (List Nat))
 counts:List Int
structure eJ.Ok(D:eJ):Prop where
 len:D.lists.length=D.opn.length
 five:D.opn.length<=5
 nodup:D.opn.Nodup
 door:∀d∈D.opn,d<5
 many:∀ls∈D.lists,ls.length<=65536
 long:∀ls∈D.lists,∀l∈ls,l.length<=65536
 shift:∀ls∈D.lists,∀l∈ls,∀s∈l,s<6
 cnt:D.counts.length=32
 cval:∀c∈D.counts,-1<=c/\c<=5
 zero:D.counts.getD 0 0=0
def dX(b c d:cJ)(a:eY):eF:=([b,c,d]++a.map (Value.int .i64)).toArray
structure fY(n0:Nat->Prop)(pb:Nat)(D:eJ)(w:cI):Prop where
 ok:D.Ok
 lt:n0 pb
 at_:∃wk u1 u2 fz,XR wk/\w.heap[pb]? =some (.cells (dX wk u1 u2 D.counts) 207 fz)/\xq n0 w u1 D.opn/\wl n0 w u2 D.lists
theorem fY.same{D:eJ}{w w':cI}(a:∀b,A b->w'.heap[b]? =w.heap[b]?)(h:fY A m D w):fY A m D w':=by have⟨c,d,e,f,g,i,j,k⟩:=h.at_;refine⟨h.ok,h.lt,c,d,e,f,g,(a _ h.lt).trans i,j.same a λ_ _ h=>h,k.same a λ_ _ h=>h.same a λ_ _ h=>h.same a λ_ _ h=>h⟩
def Kz(T:Nat)(w:cI)(e:dV)(b:Nat)(a:cM):Prop:=(e=none/\a=[]/\b=0)\/∃c d,e=some ⟨c,0,none⟩/\T<c/\w.heap[c]? =some (.cells d 3)/\d.size=b/\a.length<=b/\∀k (h:k<a.length),d[k]? =some (.int .i64 a[k])
def KD(L:Nat->Nat):cM:=[L 0,L 1,L 2,L 3,L 4,L 5]
def O7(L:Nat->Nat):cJ:=.agg #[.int .u8 (L 0),.int .u8 (L 1),.int .u8 (L 2),.int .u8 (L 3),.int .u8 (L 4),.int .u8 (L 5)]
def iQ(D:eJ)(L:Nat->Nat):eY:=(KD L).map λx=>D.counts.getD x 0
def eT(D:eJ)(L:Nat->Nat)(a:cM):Sp:=if(iQ D L).any (·<0)then none else some (a.map Int.ofNat,(iQ D L).foldl max 0,(iQ D L).sum)
def yn(a:Nat)(w:cI)(s:Sp)(y:SV):Prop:=∀l m k,s=some (l,m,k)->l≠[]->∃j,a<=j/\y.sc=(Question.appendCap l.length 0 3).cut (w.tape j (.appendCap l.length 0 3))
def IZ{D:eJ}(h:fY A m D w)(x:Nat)(f:x<32):w.cell? ⟨m,3+x,none⟩=some (.int .i64 (D.counts.getD x 0)):=by
 have⟨a,b,c,g,_,d,_,_⟩:=h.at_;have i:=h.ok.cnt;have e:(dX a b c D.counts)[3+x]? =some (i64 (D.counts.getD x 0)):=by grind [List.getElem?_cons_succ,List.getElem?_eq_getElem,dX]
 simp only[World.cell?,d];grind
def I0(D:eJ)(L:Nat->Nat):(iQ D L).length=6:=rfl
def Am(D:eJ)(L:Nat->Nat)(k:Nat)(h:k<(iQ D L).length):(iQ D L)[k]=D.counts.getD (L k) 0:=by have a:k<6:=h;have:k=0\/k=1\/k=2\/k=3\/k=4\/k=5:=cL;obtain rfl|rfl|rfl|rfl|rfl|rfl:=this<;>rfl
theorem O8:∀(l:eY),(∀c∈l,c<=5)->l.any (·<0)=false->0<=l.sum/\l.sum<=5*l.length
 |[],_,_=>dt
 |x::l,h,a=>by simp only[List.any_cons,Bool.or_eq_false_iff,decide_eq_false_iff_not]at a;have:=O8 l cK a.2;have b:=h x (fF ..);grind
theorem O9:∀(l:eY) (a:Int),(∀c∈l,c<=5)->0<=a->a<=5->0<=l.foldl max a/\l.foldl max a<=5
 |[],a,_,b,d=>⟨b,d⟩
 |x::l,a,h,b,d=>by have e:=h x (fF ..);exact O9 l (max a x) cK cL cL
def CB{D:eJ}(h:D.Ok)(x:Nat)(b:x<32): -1<=D.counts.getD x 0/\D.counts.getD x 0<=5:=by
 have a:x<D.counts.length:=by rw[h.cnt];grind
 rw[gD,eZ a];exact h.cval _ (eB a)
def KE{D:eJ}(h:D.Ok){L:Nat->Nat}(d:∀s,s<6->L s<32):∀c∈iQ D L,c<=5:=by
 intro c a;obtain⟨x,b,rfl⟩:=kF.1 a;have:x<32:=by simp only[KD,eW,pB,mo]at b;grind
 exact(CB h x this).2
theorem Gk(a b c d e f:cJ)(w:cI):(Instr.index 204 (.agg #[a,b,c,d,e,f]) (.int .i64 0)).run V.prog w=.ok a w:=eE
theorem Gl(b a c d e f:cJ)(w:cI):(Instr.index 204 (.agg #[b,a,c,d,e,f]) (.int .i64 1)).run V.prog w=.ok a w:=eE
theorem Gm(b c a d e f:cJ)(w:cI):(Instr.index 204 (.agg #[b,c,a,d,e,f]) (.int .i64 2)).run V.prog w=.ok a w:=eE
theorem Gn(b c d a e f:cJ)(w:cI):(Instr.index 204 (.agg #[b,c,d,a,e,f]) (.int .i64 3)).run V.prog w=.ok a w:=eE
theorem Gp(b c d e a f:cJ)(w:cI):(Instr.index 204 (.agg #[b,c,d,e,a,f]) (.int .i64 4)).run V.prog w=.ok a w:=eE
theorem Gq(b c d e f a:cJ)(w:cI):(Instr.index 204 (.agg #[b,c,d,e,f,a]) (.int .i64 5)).run V.prog w=.ok a w:=eE
def Mk(w:cI):(Instr.build 199 #[(3,.bool true)]).run V.prog w=.ok (.agg #[.slice none 0 0,.int .i64 0,.int .i64 0,.bool true]) w:=eE
def I1(w:cI):(Instr.build 199 #[]).run V.prog w=.ok (.agg #[.slice none 0 0,.int .i64 0,.int .i64 0,.bool false]) w:=eE
def KF(D:eJ)(L:Nat->Nat)(c:cM)(d:Nat)(w:cI)(e:Ending)(a:cI):Prop:=
 ∃y:SV,e=.returned y.val/\dT (λb=>w.heap.size<=b) a (eT D L c) y/\yn d a (eT D L c) y/\Below w.heap.size w a/\w.drawn<=a.drawn
def I2(n0:dn)(pb T:Nat)(D:eJ)(L:Nat->Nat)(d:cM)(pa:dV)(pc R:Nat)(w:cI)(O:fY n0 pb D w)(ao:∀b,n0 b->b<w.heap.size)(hL:∀s,s<6->L s<32)(S:Kz T w pa pc d)(aB:d=[]->pa=none)(aC:d.length<=65536)(hj:R<=w.drawn):Calls V.prog 229 #[.pointer (some ⟨pb,0,none⟩),.slice pa d.length pc,O7 L] w (KF D L d R w):=by
 have aD:=Mk;have aE:=I1;have ap:pb<w.heap.size:=ao _ O.lt;unfold O7;go_enter V.func229,Tryz.ntmps229;go_wp2
 go_loopw [13] (λi wr=>∃k:Nat,k<=6/\i=i64 k/\Below w.heap.size w wr/\w.heap.size+3<=wr.heap.size/\wr.heap[w.heap.size+1+1]? =some (fp ⟨none,0,0,((iQ D L).take k).foldl max 0,((iQ D L).take k).sum,true⟩)/\
  wr.heap[w.heap.size+1]? =some (fp (dJ []))/\((iQ D L).take k).any (·<0)=false/\wr.drawn=w.drawn) (λi _=>6-(intOf i).toNat)
 case atStart=>
  refine⟨0,dt,rfl,(((Below.refl _ _).alloc (dg _) _).alloc dt _).alloc pY _,dt,?_,?_,rfl,rfl⟩;grind [fX,World.size_alloc,fp,dJ];have h2:=fX (w.alloc (.cells #[.int .u8 (L 0),.int .u8 (L 1),.int .u8 (L 2),.int .u8 (L 3),.int .u8 (L 4),.int .u8 (L 5)] 204)) (fp (dJ []));grind [World.size_alloc,alloc_old,fp,dJ]
 case round=>
  obtain⟨k,hk,rfl,P,aF,ho,hr,q,U⟩:=hrel;have W:=O9 ((iQ D L).take k) 0 (λc hc=>KE O.ok hL c (List.mem_of_mem_take hc)) dt dt;have F:=O8 ((iQ D L).take k) (λc hc=>KE O.ok hL c (List.mem_of_mem_take hc)) q;rw[Kd,I0]at F;have⟨f,t⟩:=jQ (((iQ D L).take k).foldl max 0);have⟨j,u⟩:=jQ (((iQ D L).take k).sum);rw[<-t,<-u]at ho;rw[<-t]at W;rw[<-u]at F;have⟨o1,o2,o3,o4,f1,f2,f3,f4⟩:=eR ho;have⟨r1,r2,r3,r4,g1,g2,g3,g4⟩:=eR hr;have HO:=Go.Lib.hid ho;have HR:=Go.Lib.hid hr;have HA:=Go.Lib.hid q;have X:=Go.Lib.hid U;have HM:=Go.Lib.hid t;have HS:=Go.Lib.hid u;clear ho hr q U t u;have⟨m0,m5⟩:=W;have⟨s0,s5⟩:=F;have aG:j<=30:=cL;clear s5;by_cases x:k<6;have hx:=hL k x;have Y:=CB O.ok (L k) hx;have G:wr.cell? (dq pb (3+L k))=some (i64 (D.counts.getD (L k) 0)):=((OZ P).1 _ _ ap).trans (IZ O _ hx);have⟨p,H⟩:=jQ (D.counts.getD (L k) 0);rw[<-H]at G Y;have⟨c0,c5⟩:=Y;have ay:∀w,(Instr.index 204 (.agg #[.int .u8 (L 0),.int .u8 (L 1),.int .u8 (L 2),.int .u8 (L 3),.int .u8 (L 4),.int .u8 (L 5)]) (i64 k)).run V.prog w=.ok (.int .u8 (L k)) w:=by intro w;have:k=0\/k=1\/k=2\/k=3\/k=4\/k=5:=cL;grind [Gk,Gl,Gm,Gn,Gp,Gq]
  have HC:=Go.Lib.hid H;clear H O S;by_cases Z:p<0;go_wp2;have I:=lX (s:=dJ []) HR.out;have hB:Below w.heap.size w (jO wr (w.heap.size+1) (dJ [])):=lY P (mN _);have⟨A,B,C,E,_⟩:=eR I;simp only[jO,dJ]at A B C E;have a:eT D L d=none:=by
   have aa:p∈iQ D L:=by have h:=Am D L k x;rw[<-HC.out]at h;exact cK
   unfold eT;rw[cT (List.any_eq_true.2 ⟨p,aa,eV Z⟩)]
  refine bodyPost_ret (v:=(dJ []).val) (by simp[results,Tryz.results229,go_sem,A,B,C,E,SV.val,dJ]) rfl<|(show KF D L d R w (.returned (dJ []).val) (jO wr (w.heap.size+1) (dJ []))from⟨dJ [],rfl,?_,?_,hB,?_⟩);rw[a];rfl;rw[a];intro l m k h;cases h;show w.drawn<=wr.drawn;rw[X.out];omega
  ·go_wp2;go_roundw;case rel=>
    have ab:(if f<p then p else f)=max f p:=by grind
    have I:((wr.setCell (dq (w.heap.size+1+1) 1) (i64 (if f<p then p else f))).setCell (dq (w.heap.size+1+1) 2) (i64 (j+p))).heap[w.heap.size+1+1]? =some (fp ⟨none,0,0,if f<p then p else f,j+p,true⟩):=by have:=HO.out;simp[World.setCell,nO,this,fp]
    have ac:(iQ D L).take (k+1)=(iQ D L).take k++[p]:=by have h:=Am D L k x;rw[mV _ _ x,h,HC.out]
    refine⟨k+1,cL,cK,(P.setCell (Ft (mN _)) _).setCell (Ft (mN _)) _,cK,I.trans ?_,?_,?_,X.out⟩;rw[ac,si,List.sum_append,<-HM.out,<-HS.out,ab];simp;rw[dz.Cr.fS _ _ _ _ dt,dz.Cr.fS _ _ _ _ dt];exact HR.out;rw[ac,List.any_append,HA.out];grind
   case measure=>grind [intOf]
  obtain rfl:k=6:=cL;obtain⟨rfl,rfl,rfl⟩|⟨Q,cs,rfl,aH,J,az,aI,ad⟩:=S;go_wp2_with (go_at_call 128;refine(Mj _).mono ?_;rintro e g ⟨rfl,rfl⟩);have h6:(iQ D L).take 6=iQ D L:=uM (dg _);have y:(g.setCell (dq (w.heap.size+1+1) 0) (fl)).heap[w.heap.size+1]? =some (fp (dJ [])):=(dz.Cr.fS _ _ _ _ dt).trans HR.out;have I:=lX (s:=⟨none,0,0,f,j,true⟩) y;have hB:Below w.heap.size w (jO (g.setCell (dq (w.heap.size+1+1) 0) (fl)) (w.heap.size+1) ⟨none,0,0,f,j,true⟩):=lY (P.setCell (Ft (mN _)) _) (mN _);have⟨A,B,C,E,_⟩:=eR I;simp only[jO]at A B C E;have a:eT D L []=some ([],f,j):=by have ha:=HA.out;have hm:=HM.out;have hs:=HS.out;rw[h6]at ha hm hs;unfold eT;rw[cR (by rw[ha];simp),<-hm,<-hs];rfl
  refine bodyPost_ret (v:=(SV.mk none 0 0 f j true).val) (by simp[results,Tryz.results229,go_sem,A,B,C,E,SV.val]) rfl<|(show KF D L [] R w (.returned (SV.mk none 0 0 f j true).val) (jO (g.setCell (dq (w.heap.size+1+1) 0) (fl)) (w.heap.size+1) ⟨none,0,0,f,j,true⟩)from⟨_,rfl,?_,?_,hB,?_⟩);rw[a];exact⟨rfl,rfl,rfl,rfl,.inl ⟨rfl,rfl,rfl⟩⟩;rw[a];intro l m k h hl;cases h;exact absurd rfl hl;show w.drawn<=g.drawn;rw[X.out];omega;have aA:0<d.length:=by grind
  have⟨l,hl⟩:=jQ (d.map Int.ofNat);have K:l.length=d.length:=cK;have aq:Q<w.heap.size:=dz.lt_of_heap J;have ae:Q<wr.heap.size:=cL;have af:∀k (h:k<l.length),wr.cell? (dq Q k)=some (i64 l[k]):=λk h=>by have h':k<d.length:=cL;have e:fC wr Q cs 3:=(P.block Q aq).trans J;simp only[World.cell?,e];grind
  have HL:=Go.Lib.hid hl;have ar:=Go.Lib.hid af;clear hl af ad J;have o:=IY Q pc l wr cL cL ae ar.out;have r:=O5 wr l.length 0;have⟨n,M⟩:=jQ (yj wr l.length 0);rw[<-M]at o r;rw[K]at o r;have ag:=Go.Lib.hid M;have z:=Go.Lib.hid K;clear M K;have ah:∀g,g=((wr.alloc (.cells #[] 3)).alloc (.cells (ie l n) 3)).drew->(g.heap[w.heap.size+1+1]? =some (fp ⟨none,0,0,f,j,true⟩)/\g.heap[w.heap.size+1]? =some (fp (dJ []))/\Below w.heap.size w g/\fC g (wr.heap.size+1) (ie l n) 3/\g.drawn=wr.drawn+1/\g.tape=wr.tape):=by rintro g rfl;refine⟨(alloc_old _ _ pY).trans ((alloc_old _ _ cL).trans HO.out),(alloc_old _ _ pY).trans ((alloc_old _ _ cL).trans HR.out),((P.alloc cL _).alloc pY _).drew,?_,rfl,rfl⟩;have:=fX (wr.alloc (.cells #[] 3)) (.cells (ie l n) 3);rw[World.size_alloc]at this;exact this
  go_wp2_with (go_at_call 128;refine o.mono ?_;clear o;rintro e g ⟨rfl,ai⟩;have⟨au,y,av,aj,ak,al⟩:=ah g ai;clear ah ai;have⟨aJ,aK,aL,aM,aN,aO,aP,aQ⟩:=eR au;have⟨aR,aS,aT,aU,aV,aW,aX,aY⟩:=eR y);have aw:(g.setCell (dq (w.heap.size+1+1) 0) (fa (wr.heap.size+1) d.length n)).heap[w.heap.size+1]? =some (fp (dJ [])):=(dz.Cr.fS _ _ _ _ dt).trans y;have I:=lX (s:=⟨some (dq (wr.heap.size+1) 0),d.length,n,f,j,true⟩) aw;have hB:Below w.heap.size w (jO (g.setCell (dq (w.heap.size+1+1) 0) (fa (wr.heap.size+1) d.length n)) (w.heap.size+1) ⟨some (dq (wr.heap.size+1) 0),d.length,n,f,j,true⟩):=lY (av.setCell (Ft (mN _)) _) (mN _);have ax:(jO (g.setCell (dq (w.heap.size+1+1) 0) (fa (wr.heap.size+1) d.length n)) (w.heap.size+1) ⟨some (dq (wr.heap.size+1) 0),d.length,n,f,j,true⟩).heap[wr.heap.size+1]? =some (.cells (ie l n) 3):=
   (qO _ _ _ cL).trans ((dz.Cr.fS _ _ _ _ pY).trans aj)
  have⟨A,B,C,E,_⟩:=eR I;simp only[jO]at A B C E;have N:l≠[]:=by intro h;have:=z.out;rw[h]at this;simp at this;omega
  have a:eT D L d=some (l,f,j):=by have h6:(iQ D L).take 6=iQ D L:=uM (dg _);have ha:=HA.out;have hm:=HM.out;have hs:=HS.out;rw[h6]at ha hm hs;unfold eT;rw[cR (by rw[ha];simp),<-hm,<-hs,HL.out]
  have am:n<2^63:=by rw[ag.out];exact O6 wr _ _ (by rw[z.out];omega)
  refine bodyPost_ret (v:=(SV.mk (pt (wr.heap.size+1) 0) d.length n f j true).val) (by simp[results,Tryz.results229,go_sem,A,B,C,E,SV.val]) rfl<|(show KF D L d R w (.returned (SV.mk (pt (wr.heap.size+1) 0) d.length n f j true).val) (jO (g.setCell (dq (w.heap.size+1+1) 0) (fa (wr.heap.size+1) d.length n)) (w.heap.size+1) ⟨some (dq (wr.heap.size+1) 0),d.length,n,f,j,true⟩)from⟨_,rfl,?_,?_,hB,?_⟩);rw[a];exact⟨rfl,rfl,rfl,z.out.symm,.inr ⟨N,wr.heap.size+1,cL,rfl,z.out▸r,am,(0,0),λaZ h=>absurd h.2 (Nat.not_lt_zero _),ax⟩⟩;rw[a];intro l' m' k' h hl;cases h;refine⟨wr.drawn,by rw[X.out];omega,?_⟩;show n=_;have an:(jO (g.setCell (dq (w.heap.size+1+1) 0) (fa (wr.heap.size+1) d.length n)) (w.heap.size+1) ⟨some (dq (wr.heap.size+1) 0),d.length,n,f,j,true⟩).tape=wr.tape:=al;rw[an,ag.out];rfl;show w.drawn<=g.drawn;rw[ak,X.out];omega
def qQ(T:Nat)(w:cI)(e:dV)(a:Nat)(b:cM):Prop:=(e=none/\b=[]/\a=0)\/∃c d,e=some ⟨c,0,none⟩/\T<c/\w.heap[c]? =some (.cells d 3)/\d.size=a/\b.length<=a/\a<2^63/\(∀k (h:k<b.length),d[k]? =some (.int .i64 b[k]))
def qQ.WA(h:qQ m w a k l):Kz m w a k l:=by obtain h|⟨b,c,d,e,f,g,i,_,j⟩:=h;exact .inl h;exact .inr ⟨b,c,d,e,f,g,i,j⟩
structure Ea(T:Nat)(w:cI)(ps:List Nat)(i:Nat)(pa:Option Addr)(pc:Nat)(v:cJ)(w':cI):Prop where
 val:∃St WB,v=.slice St (ps.length+1) WB/\qQ T w' St WB (ps++[i])/\(St=pa\/∃b,w.heap.size<=b/\St=some ⟨b,0,none⟩)
 os:w'.os=w.os
 tape:w'.tape=w.tape
 output:w'.output=w.output
 size:w.heap.size<=w'.heap.size
 block:∀b,b<w.heap.size->pa≠some ⟨b,0,none⟩->w'.heap[b]? =w.heap[b]?
 drawn:w.drawn<=w'.drawn
 old:qQ T w' pa pc ps
 stay:∀b,pa=some ⟨b,0,none⟩->w.cell? ⟨b,ps.length,none⟩=some (.int .i64 i)->w'.heap[b]? =w.heap[b]?
def V.Pa:V.prog.info? 3=some Tryz.t3:=eE
def KG:Tryz.t3.zero=some (.int .i64 0):=eE
def um:Tryz.t3.size=1:=eE
def Gr(T:Nat)(w:cI)(a:cM)(i:Nat)(F:dV)(q:Nat)(E:cQ)(B:Nat)(K:qQ T w F q a)(I:T<w.heap.size)(L:w.cell? ⟨B,0,none⟩=some (.int .i64 i))(S:a.length<65536):∃v J,(Builtin.append_ #[27,27] E #[.slice F a.length q,.slice (some ⟨B,0,none⟩) 1 1]).run V.prog w=.ok v J/\Ea T w a i F q v J:=by
 have d:∀j v,[Value.int .i64 i][j]? =some v->w.cell? (((dq B 0):Addr).add j)=some v:=by
  intro j v h;cases j with
  |zero=>cases h;exact L
  |succ j=>simp at h
 obtain⟨rfl,rfl,rfl⟩|⟨g,o,rfl,r,c,s,C,t,f⟩:=K;have A:=run_append_nil (P:=V.prog) w 27 E 3 _ _ V.x6 V.Pa KG (dq B 0) 1 1 [i64 i] (by rw[um];rfl) d kA kA (by rw[wj];decide);refine⟨_,_,A,⟨_,_,rfl,.inr ⟨w.heap.size,_,rfl,I,fX w.drew _,?_,grownCap_ge ..,?_,?_⟩,.inr ⟨_,dg _,rfl⟩⟩,rfl,rfl,rfl,?_,?_,?_,?_,?_⟩;have:=grownCap_ge w 1 0 3;simp[size_zeroCells,Value.cells];omega;have:=grownCap_le_maxLen w 1 0 3 kA;simp only[maxLen]at this;omega;intro k u;obtain rfl:k=0:=eV u;rw[Dy dt];rfl;rw[World.size_alloc];exact mN _;intro b p _;exact alloc_old w.drew _ p;exact mN _;exact .inl ⟨rfl,rfl,rfl⟩;intro b p;cases p;have D:=dz.lt_of_heap c;by_cases l:a.length+1<=q;have x:∀j,j<[Value.int .i64 i].length->fC w g o 3/\j=0:=λj y=>⟨c,eV y⟩
 have A:=run_append_room_cells (P:=V.prog) w 27 E 3 _ V.x6 V.Pa g 0 a.length q (dq B 0) 1 1 [i64 i] (by rw[um];rfl) d (by simp[Value.oneCell']) l
  (λj y=>by obtain⟨_,rfl⟩:=x j y;have:a.length<o.size:=cL;simp[World.cell?,c,um,this])
  (λj y=>by simp[World.frozen?,c])
 have M:w.setCells g (0+a.length*Tryz.t3.size) [i64 i]=w.setCell (dq g a.length) (i64 i):=by rw[um];simp[World.setCells]
 rw[M]at A;refine⟨_,_,A,⟨_,_,rfl,.inr ⟨g,o.set! a.length (i64 i),rfl,r,?_,?_,?_,t,?_⟩,.inl rfl⟩,rfl,rfl,rfl,?_,?_,dg _,?_,?_⟩;simp[World.setCell,nO,c];simpa using s;simpa using l;intro k u;have:a.length<o.size:=cL;by_cases h:k<a.length;have G:=f k h;have m:a.length≠k:=cL;simp only[Array.set!_eq_setIfInBounds];rw[fZ m,G,ml h];obtain rfl:k=a.length:=by simp at u;omega
 simp[this];simp[World.setCell];intro b p m;exact dz.Cr.fS _ _ _ _ (by rintro rfl;exact m rfl);refine .inr ⟨g,o.set! a.length (i64 i),rfl,r,?_,eV s,C,t,λk u=>?_⟩;simp[World.setCell,nO,c];have m:a.length≠k:=cL;simp only[Array.set!_eq_setIfInBounds];rw[fZ m];exact f k u;intro b p N;obtain rfl:g=b:=dE Addr.block (dQ p);have H:a.length<o.size:=cL;have O:o[a.length]? =some (i64 i):=by simpa[World.cell?,c]using N
 have Q:o.setIfInBounds a.length (i64 i)=o:=Ob λj=>by by_cases e:a.length=j;subst e;rw[oz H,O];rw[fZ e]
 simp[World.setCell,nO,c,Q]
 have z:∀j v,(a.map λn=>Value.int .i64 (n:Nat))[j]? =some v->w.cell? (((dq g 0):Addr).add j)=some v:=by
  intro j v h;have y:j<a.length:=by have:=(kX.1 h).1;simpa using this
  have G:=f j y;rw[sN,eZ y]at h;rw[Addr.add_lit];simp only[World.cell?,c,dj];rw[G];exact h
 have A:=run_append_grow (P:=V.prog) w 27 E 3 _ _ V.x6 V.Pa KG (dq g 0) a.length q (a.map λn=>Value.int .i64 (n:Nat)) (by rw[um];simp) z (dq B 0) 1 1 [i64 i] (by rw[um];rfl) d cL cL (growslice_fits cL (by rw[wj];omega));refine⟨_,_,A,⟨_,_,rfl,.inr ⟨w.heap.size,_,rfl,I,fX w.drew _,?_,?_,?_,?_⟩,.inr ⟨_,dg _,rfl⟩⟩,rfl,rfl,rfl,?_,?_,?_,?_,?_⟩;have:=grownCap_ge w (a.length+1) q 3;simp[size_zeroCells,Value.cells];omega;have:=grownCap_ge w (a.length+1) q 3;simpa using this;have:=grownCap_le_maxLen w (a.length+1) q 3 (by simp only[maxLen];omega);simp only[maxLen]at this;omega;intro k u;have R:k<a.length+1:=eV u;by_cases h:k<a.length;rw[Dy pY,Dy (eV h)];simp[h];obtain rfl:k=a.length:=cL;rw[Dy dt,Dz dt];simp;rw[World.size_alloc];exact mN _;intro b p _;exact alloc_old w.drew _ p;exact mN _;exact .inr ⟨g,o,rfl,r,(alloc_old w.drew _ D).trans c,s,C,t,f⟩;intro b p _;obtain rfl:g=b:=dE Addr.block (dQ p);exact alloc_old w.drew _ D
structure dA(F:Nat->Prop)(w w':cI):Prop where
 os:w'.os=w.os
 tape:w'.tape=w.tape
 output:w'.output=w.output
 size:w.heap.size<=w'.heap.size
 drawn:w.drawn<=w'.drawn
 block:∀b,b<w.heap.size->¬F b->w'.heap[b]? =w.heap[b]?
def dA.refl(F:dn)(w:cI):dA F w w:=⟨rfl,rfl,rfl,dg _,dg _,λ_ _ _=>rfl⟩
theorem dA.trans{F G H:dn}(h:dA F w t)(k:dA G t e)(c:∀x,x<w.heap.size->F x->H x)(d:∀x,x<w.heap.size->G x->H x):dA H w e:=
 ⟨k.os.trans h.os,k.tape.trans h.tape,k.output.trans h.output,dw h.size k.size,dw h.drawn k.drawn,λx a b=>(k.block x (ep a h.size) λg=>b (d x a g)).trans (h.block x a λf=>b (c x a f))⟩
theorem dA.alloc(h:dA A w t)(o:Obj):dA A w (t.alloc o):=
 ⟨h.os,h.tape,h.output,by rw[World.size_alloc];exact Ft h.size,h.drawn,λx a b=>(alloc_old t o (ep a h.size)).trans (h.block x a b)⟩
theorem dA.setCell(h:dA A w t)(a:Addr)(v:cJ)(d:a.block<w.heap.size->A a.block):dA A w (t.setCell a v):=
 ⟨h.os,h.tape,h.output,by simpa[World.setCell]using h.size,h.drawn,λx b c=>(dz.Cr.fS _ _ _ _ (by rintro rfl;exact c (d b))).trans (h.block x b c)⟩
def Ea.keep(h:Ea m w l i a k x t):dA (λb=>a=some ⟨b,0,none⟩) w t:=
 ⟨h.os,h.tape,h.output,h.size,h.drawn,h.block⟩
def dA.cell(h:dA A w t){x o:Nat}(a:x<w.heap.size)(b:¬A x):t.cell? ⟨x,o,none⟩=w.cell? ⟨x,o,none⟩:=by simp only[World.cell?,h.block x a b]
def jY.len{d:Type}{E:cI->cJ->d->Prop}{l:List d}(h:jY A E z T w x l):∃a c,x=.slice a l.length c:=by obtain⟨rfl,rfl⟩|⟨b,c,f,g,i,e,j,k,m,n,o⟩:=h;exact⟨_,_,rfl⟩;exact⟨_,_,e⟩
def jY.at_{a:Type}{E:cI->cJ->a->Prop}{l:List a}(h:jY A E z T w x l)(k:Nat)(d:k<l.length):∃b c u,x=.slice (some ⟨b,0,none⟩) l.length c/\A b/\w.cell? ⟨b,k,none⟩=some u/\E w u l[k]:=by obtain⟨rfl,rfl⟩|⟨b,c,n,o,e,f,g,p,q,i,r⟩:=h;cases d;have⟨u,j,m⟩:=i k d;exact⟨b,c,u,f,e,by simp only[World.cell?,g];exact j,m⟩
def fo(a:Nat)(c:dV)(d e:Nat)(L:Nat->Nat)(y:SV):Obj:=
 .cells #[.pointer (some ⟨a,0,none⟩),.slice c d e,.int .u8 (L 0),.int .u8 (L 1),.int .u8 (L 2),.int .u8 (L 3),.int .u8 (L 4),.int .u8 (L 5),.slice y.sa y.sl y.sc,.int .i64 y.m,.int .i64 y.k,.bool y.b] 245
def jm{L:Nat->Nat}{y:SV}(h:w.heap[m]? =some (fo k a i j L y)):w.cell? ⟨m,0,none⟩=some (.pointer (some ⟨k,0,none⟩))/\w.cell? ⟨m,1,none⟩=some (.slice a i j)/\(∀s,s<6->w.cell? ⟨m,2+s,none⟩=some (.int .u8 (L s)))/\yW w m 8 y/\∀o,w.frozen? ⟨m,o,none⟩=false:=by refine⟨by simp[World.cell?,h,fo],by simp[World.cell?,h,fo],?_,?_,λo=>by simp[World.frozen?,h,fo]⟩;intro s b;have:s=0\/s=1\/s=2\/s=3\/s=4\/s=5:=cL;obtain rfl|rfl|rfl|rfl|rfl|rfl:=this<;>simp[World.cell?,h,fo];simp[yW,World.cell?,h,fo]
def I3(L:Nat->Nat)(s v:Nat):Nat->Nat:=λx=>if x=s then v else L x
def jM(d:Nat)(l:cM)(L:Nat->Nat):Nat->Nat:=λs=>if s∈l then ot (L s) d else L s
def Su:∀x,x<32->∀d,d<5->ot (ot x d) d=ot x d:=by decide+kernel
def Eb{L:Nat->Nat}(c:d<5)(a:∀s,s<6->L s<32):∀s,s<6->jM d l L s<32:=by intro s b;unfold jM;split;exact D8 _ (a s b) _ c;exact a s b
theorem CC{L:Nat->Nat}(c:d<5)(e:∀s,s<6->L s<32)(k:Nat)(f:k<l.length)(g:l[k]<6):I3 (jM d (l.take k) L) l[k] (ot (jM d (l.take k) L l[k]) d)=jM d (l.take (k+1)) L:=by
 funext s;have a:∀s,s∈l.take (k+1)↔s∈l.take k\/s=l[k]:=λs=>by rw[mV _ _ f];exact List.mem_append.trans (or_congr qF iv)
 unfold I3 jM;by_cases b:s=l[k];subst b;rw[cT rfl,cT ((a _).2 (.inr rfl))];split;exact Su _ (e _ g) _ c;rfl;rw[cR b];by_cases h:s∈l.take k;rw[cT h,cT ((a _).2 (.inl h))];rw[cR h,cR λi=>((a _).1 i).elim h b]
structure Ext(w w':cI):Prop where
 os:w'.os=w.os
 tape:w'.tape=w.tape
 output:w'.output=w.output
 size:w.heap.size<=w'.heap.size
 drawn:w.drawn<=w'.drawn
 block:∀b,b<w.heap.size->w'.heap[b]? =w.heap[b]?
def Ext.refl(w:cI):Ext w w:=⟨rfl,rfl,rfl,dg _,dg _,λ_ _=>rfl⟩
def gd{v:cJ}{w:cI}:v=v/\Ext w w:=⟨rfl,Ext.refl _⟩
theorem Ext.trans{a b c:cI}(h:Ext a b)(k:Ext b c):Ext a c:=
 ⟨k.os.trans h.os,k.tape.trans h.tape,k.output.trans h.output,dw h.size k.size,dw h.drawn k.drawn,λx d=>(k.block x (ep d h.size)).trans (h.block x d)⟩
theorem Ext.drew(w:cI):Ext w w.drew:=⟨rfl,rfl,rfl,dg _,mN _,λ_ _=>rfl⟩
theorem Ext.alloc(w:cI)(o:Obj):Ext w (w.alloc o):=⟨rfl,rfl,rfl,dt,dg _,λx a=>alloc_old w o a⟩
def Ext.keep{w a:cI}(h:Ext w a)(F:dn):dA F w a:=⟨h.os,h.tape,h.output,h.size,h.drawn,λb c _=>h.block b c⟩
def dA.ext{w a:cI}{F:dn}(h:dA F w a)(d:∀b,b<w.heap.size->¬F b):Ext w a:=⟨h.os,h.tape,h.output,h.size,h.drawn,λb c=>h.block b c (d b c)⟩
def Ext.cell{w c:cI}(e:Ext w c){v:cJ}(d:w.cell? h=some v):c.cell? h=some v:=by
 have a:h.block<w.lH:=by refine zM λb=>?_;have:w.heap[h.block]? =none:=uI b;simp[World.cell?,this]at d
 exact(Go.Proofs.W.iy (e.block _ a)).trans d
def Ext.at_{w a:cI}(h:Ext w a){b:Nat}(c:w.heap[b]? =some O):a.heap[b]? =some O:=(h.block b (dz.lt_of_heap c)).trans c
theorem kN(a:Act)(j:Nat):a.eval (.tmp j)=(a.tmps[j]?).getD undef:=by show a.tmps.getD j gT=_;simp
theorem Gs(a:Act)(d j:Nat)(v:cJ)(h:d≠j):(a.put (some d) v).eval (.tmp j)=a.eval (.tmp j):=by rw[kN,kN];simp only[Act.put];grind
def BY(a:Act)(d:Nat)(v:cJ)(h:d<a.tmps.size):(a.put (some d) v).eval (.tmp d)=v:=by rw[kN];simp only[Act.put];grind
theorem tt(a:Act)(d:Option Nat)(j:Nat)(v:cJ)(h:d≠some j):(a.put d v).eval (.tmp j)=a.eval (.tmp j):=by
 cases d with
 |none=>rfl
 |some d=>grind [Gs]
theorem xr(a:Act)(d:Nat)(v:cJ)(h:d<a.tmps.size):(a.put (some d) v).eval (.tmp d)=v:=BY a d v h
theorem uG(a:Act)(d:Option Nat)(v:cJ):(a.put d v).tmps.size=a.tmps.size:=by cases d<;>simp[Act.put]
theorem yX(a:Act)(d:Option Nat)(v:cJ):(a.put d v).defers=a.defers:=by cases d<;>rfl
def waits(ops:Array Oper)(k j:Nat):Bool:=match ops[k]? with
 |some o=>o.after.any λe=>e.on==j&&Region.binds .any e
 |none=>false
def wrote(ops:Array Oper)(j:Nat):Bool:=ops.any λo=>o.dst==some j
structure gJ(E:cI->cI->Prop):Prop where
 refl:∀w,E w w
 trans:∀a b c,E a b->E b c->E a c
 drew:∀w,E w w.drew
def dC:gJ Ext:=⟨Ext.refl,λ_ _ _=>Ext.trans,Ext.drew⟩
def im(F:dn):gJ (dA F):=⟨dA.refl F,λ_ _ _ h k=>h.trans k (λ_ _ h=>h) λ_ _ h=>h,λw=>(Ext.drew w).keep F⟩
section
variable{P:cU}{ops:Array Oper}{Q:Exit->Act->cI->Prop}{a0:Act}{w0:cI}{N m:Nat}{yY:Nat->cJ->cI->Prop}{E:cI->cI->Prop}
theorem iV(L:Array Bool)(i j:Nat)(h:i<L.size):(L.setIfInBounds i true).getD j false=if i=j then true else L.getD j false:=by by_cases e:i=j;subst e;simp[h];simp[Ip,fZ e,e]
def An{i:Nat}{o:Oper}{a:Act}{w:cI}{K:Act->dB}(f:dY)(b:eF)(g:ops[i]? =some o)(h:o.guard=none)(j:(execOp a.eval o).run P w=.ok (.enter f b) w)
 (k:Calls P f b w λe d=>(∃v,e=.returned v/\K (a.put o.dst v) d)\/∃c,e=.panicked c/\Q (.panic c) a d):wpOp P ops Q i K a w:=by
 have l:Region.wanted o (yielded ops a.tmps)=true:=by simp[Region.wanted,h]
 unfold wpOp;rw[g];simp only[l,ej];refine .inl ?_;unfold Oper.wp;rw[j];refine k.mono ?_;grind
end
def Sv(E:cI->dB)(p:nB):Prop:=∀v w a,p v w->E w a->p v a
def infoAt(ops:Array Oper)(i:Nat):Option (Op×Option (Nat×Bool)):=(ops[i]?).map λo=>(o.op,o.guard)
def Ml{ops:Array Oper}{i:Nat}{o:Oper}{a:Op}{g:Option (Nat×Bool)}(b:ops[i]? =some o)(h:infoAt ops i=some (a,g)):o.op=a/\o.guard=g:=by grind [Option.some.injEq,Prod.mk.injEq,infoAt]
def Ao{ops:Array Oper}{i:Nat}{o:Oper}{d:Option Tmp}(a:ops[i]? =some o)(h:((ops[i]?).map (·.dst))=some d):o.dst=d:=by grind
def xt{ops:Array Oper}{n:Nat}(i:Nat)(h:ops.size=n)(a:i<n):∃o,ops[i]? =some o:=⟨_,nw cL⟩
def boxed(n:Nat)(b:eF)(t:cQ):nB:=λv w=>∃a,v=.pointer (some ⟨a,0,none⟩)/\n<=a/\w.heap[a]? =some (.cells b t)
def I4(n:Nat)(a:eF)(t:cQ):Sv Ext (boxed n a t):=λ_ _ _ ⟨b,c,d,e⟩ f=>⟨b,c,d,f.at_ e⟩
def dA.fq{F:dn}{w c:cI}(e:dA F w c){v:cJ}(d:w.cell? h=some v)(f:¬F h.block):c.cell? h=some v:=by
 have a:h.block<w.lH:=by refine zM λb=>?_;have:w.heap[h.block]? =none:=uI b;simp[World.cell?,this]at d
 exact(Go.Proofs.W.iy (e.block _ a f)).trans d
def dA.fL{F:dn}{w a:cI}(h:dA F w a){b:Nat}(c:w.heap[b]? =some O)(d:¬F b):a.heap[b]? =some O:=(h.block b (dz.lt_of_heap c) d).trans c
section
variable{P:cU}{Q:Exit->Act->cI->Prop}{a:Act}{w:cI}
def Gt{p:dn}(h:∃k,p k):∃k,p k/\∀j,p j->k<=j:=by
 have⟨k,d⟩:=h;induction k using Nat.strongRecOn with
 |_ k e=>
  by_cases c:∃j,p j/\j<k;have⟨j,b,a⟩:=c;exact e j a b;exact⟨k,d,λj b=>Nat.le_of_not_lt λa=>c ⟨j,b,a⟩⟩
def n6{c:Code}(I:Nat->Act->dB)(n:Nat)(o:I n a w)
 (b:∀k a w,I k a w->c.wp P (Exit.then (λl m=>∃f,f<k/\I f l m) Q) a w):(Code.loop c).wp P Q a w:=by
 let g:Act->cI->Nat:=λa w=>by classical exact if h:∃k,I k a w then Classical.choose (Gt h)else 0
 have i:∀a w,(∃k,I k a w)->I (g a w) a w/\∀j,I j a w->g a w<=j:=by intro a w h;have:=jB (Gt h);simp only[g,h,dif_pos];exact this
 refine wp_loop (λa w=>∃k,I k a w) g ⟨n,o⟩ λa w p=>?_;have⟨q,s⟩:=i a w p;refine lM (b (g a w) a w q) λe l m h=>?_;cases e with
 |normal=>
  have⟨f,r,d⟩:=h;exact⟨⟨f,d⟩,Nat.lt_of_le_of_lt ((i l m ⟨f,d⟩).2 f d) r⟩
 |_=>exact h
end
noncomputable def CE(a:eF)(n:Nat):Act:=⟨a++Array.replicate (n-a.size) undef,[]⟩
def vf(a:eF)(n:Nat)(h:a.size<=n):(CE a n).tmps.size=n:=by simp[CE];omega
def Ap(a:eF)(n i:Nat)(v:cJ)(h:a[i]? =some v):(CE a n).eval (.tmp i)=v:=by have b:i<a.size:=(iS.1 h).1;rw[kN];show((a++Array.replicate (n-a.size) gT)[i]?).getD gT=v;rw[Dy b,h];rfl
def Pb{P:cU}{b:Func}{c:Code}{w:cI}{R:Ending->dB}(n:Nat) (e:P.funcs[K]? =some b)(f:b.body=some c)(g:b.ntmps=n)(h:∀a:Act,a.tmps.size=n->a.defers=[]->(∀i v,W[i]? =some v->a.eval (.tmp i)=v)->c.wp P (bodyPost P b R) a w)(d:W.size<=n):Calls P K W w R:=by refine calls_of_wp e f ?_;rw[g];exact h (CE W n) (vf _ _ d) rfl λi v j=>Ap _ _ _ _ j
def yZ{P:cU}{b:Func}{c:Code}{w:cI}{R:Ending->dB}(n:Nat) (e:P.funcs[K]? =some b)(f:b.body=some c)(g:b.ntmps=n)(h:∀a:Act,a.tmps.size=n->a.defers=[]->(∀i v,W[i]? =some v->a.eval (.tmp i)=v)->c.wp P (bodyPostD P b R) a w)(d:W.size<=n):Calls P K W w R:=by refine calls_of_wp_defers e f ?_;rw[g];exact h (CE W n) (vf _ _ d) rfl λi v j=>Ap _ _ _ _ j
def ly(b x:Sp):Sp:=if nq x b then x else b
def kR(l c:eY)(m k a b:Int):nq (some (l,m,k)) (some (c,a,b))=decide (m<a\/m=a/\k<b):=by simp only[nq];by_cases h:m=a;subst h;simp;simp[h]
def lQ(x:Sp):ly none x=x:=by cases x<;>simp[ly,nq]
def Gu(a b c:Sp):ly (ly a b) c=ly a (ly b c):=by obtain _|⟨l,m,k⟩:=a;simp only[lQ];obtain _|⟨o,f,i⟩:=b;have:ly (some (l,m,k)) none=some (l,m,k):=rfl;rw[this,lQ];obtain _|⟨n,d,e⟩:=c;rfl;simp only[ly,kR,j9];by_cases h:f<m\/f=m/\i<k;by_cases g:d<f\/d=f/\e<i;have j:d<m\/d=m/\e<k:=cL;simp[h,g,j,kR];simp[h,g,kR];by_cases g:d<f\/d=f/\e<i;simp[h,g,kR];have j:¬(d<m\/d=m/\e<k):=cL;simp[h,g,j,kR]
def Mm(l:List Sp):qi l=l.foldl ly none:=by
 cases l with
 |nil=>rfl
 |cons x a=>
  rw[mj,lQ];rfl
theorem vg{c:Type}(f:Sp->c->Sp)(a:∀b i,f b i=ly b (f none i)):∀(l:List c) (b:Sp),l.foldl f b=ly b (l.foldl f none)
 |[],b=>by cases b<;>rfl
 |i::l,b=>by rw[mj,mj,vg f a l (f b i),vg f a l (f none i),a b i,Gu]
def fI(D:eJ)(k:Nat):Nat:=D.opn.getD k 0
def ef(D:eJ)(k:Nat):List cM:=D.lists.getD k []
def eG(D:eJ):Nat->cM->(Nat->Nat)->Sp->Sp
 |0,c,L,a=>ly a (eT D L c)
 |n+1,c,L,a=>(List.range (ef D c.length).length).foldl (λb i=>eG D n (c++[i]) (jM (fI D c.length) ((ef D c.length).getD i []) L) b) a
theorem qj(D:eJ):∀(n:Nat) (a:cM) (L:Nat->Nat) (b:Sp),eG D n a L b=ly b (eG D n a L none)
 |0,a,L,b=>by simp only[eG,lQ]
 |n+1,a,L,b=>by simp only[eG];exact vg (λb i=>eG D n (a++[i]) (jM (fI D a.iN) ((ef D a.iN).getD i []) L) b) (λb i=>qj D n _ _ b) _ b
def L0:Nat->Nat:=λ_=>0
def gf(D:eJ):Sp:=eG D D.opn.length [] L0 none
def Gv(D:eJ)(i:Nat):Sp:=eG D (D.opn.length-1) [i] (jM (fI D 0) ((ef D 0).getD i []) L0) none
def I5(D:eJ)(h:0<D.opn.length):gf D=qi ((List.range (ef D 0).length).map (Gv D)):=by rw[Mm,List.foldl_map];unfold gf;have⟨m,a⟩:∃m,D.opn.length=m+1:=⟨D.opn.length-1,cL⟩;rw[a];simp only[eG,fO];congr 1;funext b i;rw[qj];simp only[Gv,a,Nat.add_sub_cancel,oD]
def oQ(d:Nat)(l:cM)(L:Nat->Nat):Nat->Nat:=λs=>if s∈l then tq (L s) d else L s
def Mn:∀x,x<32->∀d,d<5->tq (tq x d) d=tq x d:=by decide+kernel
def Pc:∀x,x<32->∀d,d<5->tq x d=x->tq (ot x d) d=x:=by decide+kernel
theorem Gw:∀x,x<32->∀d,d<5->∀a,a<5->d≠a->tq x a=x->tq (ot x d) a=ot x d:=by decide+kernel
def Gx{L:Nat->Nat}(c:d<5)(a:∀s,s<6->L s<32):∀s,s<6->oQ d l L s<32:=by intro s b;unfold oQ;split;exact Ss _ (a s b) _ c;exact a s b
def I6{L:Nat->Nat}(c:d<5)(e:∀s,s<6->L s<32)(k:Nat)(f:k<l.length)(g:l[k]<6):I3 (oQ d (l.take k) L) l[k] (tq (oQ d (l.take k) L l[k]) d)=oQ d (l.take (k+1)) L:=by
 funext s;have a:∀s,s∈l.take (k+1)↔s∈l.take k\/s=l[k]:=λs=>by rw[mV _ _ f];exact List.mem_append.trans (or_congr qF iv)
 unfold I3 oQ;by_cases b:s=l[k];subst b;rw[cT rfl,cT ((a _).2 (.inr rfl))];split;exact Mn _ (e _ g) _ c;rfl;rw[cR b];by_cases h:s∈l.take k;rw[cT h,cT ((a _).2 (.inl h))];rw[cR h,cR λi=>((a _).1 i).elim h b]
def Gy{L:Nat->Nat}(b:d<5)(c:∀s,s<6->L s<32)(e:∀s,s<6->tq (L s) d=L s):∀s,s<6->oQ d l (jM d l L) s=L s:=by intro s a;unfold oQ jM;split;exact Pc _ (c s a) _ b (e s a);rfl
structure zt(N:Nat->Prop)(pb T:Nat)(D:eJ)(w:cI)(ps:List Nat)(pa:Option Addr)(pc:Nat)(L:Nat->Nat)(y:SV):Prop where
 plan:fY N pb D w
 sep:∀b,N b->b<w.heap.size/\b≠T/\pa≠some ⟨b,0,none⟩
 at_:w.heap[T]? =some (fo pb pa ps.length pc L y)
 own:qQ T w pa pc ps
 lt:∀s,s<6->L s<32
 free:∀s,s<6->∀j,ps.length<=j->j<D.opn.length->tq (L s) (fI D j)=L s
 len:ps.length<=D.opn.length
 bare:D.opn.length=0->pa=none
structure jh(N:Nat->Prop)(pb T:Nat)(D:eJ)(m0 j0:Nat)(w:cI)(ps:List Nat)(pa:Option Addr)(pc:Nat)(L:Nat->Nat)(y:SV)(s:Sp):Prop where
 t:zt N pb T D w ps pa pc L y
 sched:dT (λb=>m0<=b/\b≠T/\pa≠some ⟨b,0,none⟩) w s y
 cap:yn j0 w s y
 size:m0<=w.heap.size
 drawn:j0<=w.drawn
def Gz(N:dn)(h T:Nat)(D:eJ)(i j:Nat)(w:cI)(k:cM)(d:dV)(L:Nat->Nat)(s:Sp)(e:Ending)(f:cI):Prop:=
 e=.returned undef/\∃a c g l,jh N h T D i j f k a c g l s/\(∀s,s<6->g s=L s)/\dA (λb=>b=T\/d=some ⟨b,0,none⟩) w f/\(a=d\/∃b,w.heap.size<=b/\a=some ⟨b,0,none⟩)
def Sw:SV:=⟨none,0,0,0,0,false⟩
def GA:Prop:=∀(N:dn) (b T:Nat) (D:eJ) (c d:Nat) (w:cI) (a:cM) (e:dV) (f:Nat) (L:Nat->Nat) (y:SV) (s:Sp) (i:Nat),jh N b T D c d w a e f L y s->a.length<D.opn.length->i<(ef D a.length).length->Calls V.prog 190 #[.pointer (some ⟨T,0,none⟩),.int .i64 i] w (Gz N b T D c d w a e L (eG D (D.opn.length-a.length-1) (a++[i]) (jM (fI D a.length) ((ef D a.length).getD i []) L) s))
def Pd:Prop:=∀(N:dn) (b T:Nat) (D:eJ) (c d:Nat) (w:cI) (a:cM) (e:dV) (f:Nat) (L:Nat->Nat) (y:SV) (s:Sp),jh N b T D c d w a e f L y s->Calls V.prog 216 #[.pointer (some ⟨T,0,none⟩)] w (Gz N b T D c d w a e L (eG D (D.opn.length-a.length) a L s))
def vh{a:Addr}(h:w.cell? a=some x):a.block<w.heap.size:=by refine zM λb=>?_;have:w.heap[a.block]? =none:=uI b;simp[World.cell?,this]at h
structure Sy(T:Nat)(ps:List Nat)(i:Nat)(pa:Option Addr)(pc:Nat)(w w':cI):Prop where
 keep:dA (λb=>pa=some ⟨b,0,none⟩) w w'
 own:qQ T w pa pc ps->qQ T w' pa pc ps
 stay:∀b,pa=some ⟨b,0,none⟩->w.cell? ⟨b,ps.length,none⟩=some (.int .i64 i)->w'.heap[b]? =w.heap[b]?
section
variable{T:Nat}{ps:List Nat}{i:Nat}{pa:Option Addr}{pc:Nat}
def qQ.ext(h:qQ T w pa pc ps)(e:∀b,b<w.heap.size->pa=some ⟨b,0,none⟩->t.heap[b]? =w.heap[b]?):qQ T t pa pc ps:=by obtain h|⟨a,f,c,g,d,i⟩:=h;exact .inl h;exact .inr ⟨a,f,c,g,(e a (dz.lt_of_heap d) c).trans d,i⟩
def Aq(h:Ext w t):Sy T ps i pa pc w t:=⟨h.keep _,λa=>a.ext λb c _=>h.block b c,λb _ d=>h.block b (vh d)⟩
def Sz:gJ (Sy T ps i pa pc):=by refine⟨λw=>Aq (Ext.refl w),λa b c h k=>⟨h.keep.trans k.keep (λ_ _ h=>h) (λ_ _ h=>h),λg=>k.own (h.own g),λx d e=>?_⟩,λw=>Aq (Ext.drew w)⟩;have f:=h.stay x d e;exact(k.stay x d ((Go.Proofs.W.iy (ad:=(dq x ps.iN)) f).trans e)).trans f
def picked(i:Nat)(w:cI)(v:cJ)(a:cI):Prop:=∃B,v=.slice (some ⟨B,0,none⟩) 1 1/\w.heap.size<=B/\a.heap[B]? =some (.cells #[.int .i64 i] 3)
def GB(a:∀b,pa=some ⟨b,0,none⟩->b<w.heap.size):Sv (Sy T ps i pa pc) (picked i w):=λv h j ⟨B,c,d,e⟩ f=>
 ⟨B,c,d,f.keep.fL e λg=>iD (a B g)⟩
def Ar(T:Nat)(ps:cM)(i:Nat)(pa:dV)(w:cI)(v:cJ)(d:cI):Prop:=
 ∃a c,v=.slice a (ps.length+1) c/\qQ T d a c (ps++[i])/\(a=pa\/∃b,w.heap.size<=b/\a=some ⟨b,0,none⟩)
def BZ(a:∀b,pa=some ⟨b,0,none⟩->b<w.heap.size):Sv (Sy T ps i pa pc) (Ar T ps i pa w):=by rintro v t u ⟨c,d,m,e,j⟩ k;refine⟨c,d,m,?_,j⟩;obtain⟨_,e,_⟩|⟨f,n,g,o,h,p,q,r,l⟩:=e;simp at e;refine .inr ⟨f,n,g,o,?_,p,q,r,l⟩;obtain rfl|⟨b,x,rfl⟩:=j;refine(k.stay f g ?_).trans h;have:=l ps.iN dt;simp only[World.cell?,h];rw[this];simp;obtain rfl:b=f:=dE Addr.block (dQ g);exact k.keep.fL h λs=>iD (a b s)
end
def dT.grow{w w1:cI}{s:Sp}{y:SV}(q:∀b g a,A b->w.heap[b]? =some (.cells g 3 a)->w1.heap[b]? =some (.cells g 3 a))(h:dT A w s y):dT A w1 s y:=by
 cases s with
 |none=>exact h
 |some s=>
  have⟨l,m,k⟩:=s;obtain⟨i,j,n,o,c|⟨c,d,p,r,t,u,a,e,f⟩⟩:=h;exact⟨i,j,n,o,.inl c⟩;exact⟨i,j,n,o,.inr ⟨c,d,p,r,t,u,a,e,q _ _ _ p f⟩⟩
def dT.imp{o o':dn}{s:Sp}{y:SV}(p:∀b q c,o b->w.heap[b]? =some (.cells q 3 c)->o' b)(h:dT o w s y):dT o' w s y:=by
 cases s with
 |none=>exact h
 |some s=>
  have⟨l,m,k⟩:=s;obtain⟨g,i,j,n,d|⟨d,e,r,t,u,v,c,f,a⟩⟩:=h;exact⟨g,i,j,n,.inl d⟩;exact⟨g,i,j,n,.inr ⟨d,e,p _ _ _ r a,t,u,v,c,f,a⟩⟩
def dT.move{o o':dn}{w w1:cI}{s:Sp}{y:SV}(i:∀b a c,o b->w.heap[b]? =some (.cells a 3 c)->o' b/\w1.heap[b]? =some (.cells a 3 c))(h:dT o w s y):dT o' w1 s y:=
 ((h.imp (o':=λb=>∃a c,o b/\w.heap[b]? =some (.cells a 3 c)) λb a c d e=>⟨a,c,d,e⟩).grow (w1:=w1) λb a c ⟨_,_,d,_⟩ e=>(i b a c d e).2).imp λb a c ⟨f,g,d,e⟩ _=>(i b f g d e).1
def dT.ext{s:Sp}{y:SV}(a:Ext w t)(h:dT A w s y):dT A t s y:=h.grow λ_ _ _ _ h=>a.at_ h
theorem yn.tape{s:Sp}{y:SV}(a:t.tape=w.tape)(h:yn m w s y):yn m t s y:=λl b k c d=>by have⟨j,f,e⟩:=h l b k c d;exact⟨j,f,by rw[a];exact e⟩
def Ec(D:eJ)(L:Nat->Nat)(a:cM)(d:Nat)(w:cI)(v:cJ)(c:cI):Prop:=∃y:SV,v=y.val/\dT (λb=>w.heap.size<=b) c (eT D L a) y/\yn d c (eT D L a) y
def GC{D:eJ}{L:Nat->Nat}:Sv Ext (Ec D L l m w):=λ_ _ _ ⟨y,b,c,d⟩ a=>⟨y,b,c.ext a,d.tape a.tape⟩
theorem tu:∀(a:dN) (w:cI) (b o:Nat) (e:eF) (t:cQ) (g:Nat×Nat),w.heap[b]? =some (.cells e t g)->o+a.length<=e.size->(w.setCells b o a).os=w.os/\(w.setCells b o a).tape=w.tape/\(w.setCells b o a).output=w.output/\(w.setCells b o a).drawn=w.drawn/\(w.setCells b o a).heap.size=w.heap.size/\(∀c,c≠b->(w.setCells b o a).heap[c]? =w.heap[c]?)/\∃d,(w.setCells b o a).heap[b]? =some (.cells d t g)/\d.size=e.size/\(∀j,j<o->d[j]? =e[j]?)/\(∀j,j<a.length->d[o+j]? =a[j]?)/\∀j,o+a.length<=j->d[j]? =e[j]?
 |[],w,b,o,e,t,g,h,n=>⟨rfl,rfl,rfl,rfl,rfl,λ_ _=>rfl,e,h,rfl,λ_ _=>rfl,λj f=>by simp at f,λ_ _=>rfl⟩
 |v::a,w,b,o,e,t,g,h,n=>by
  have i:o+1+a.length<=e.size:=by simp at n;omega
  have r:(w.setCell (dq b o) v).heap[b]? =some (.cells (e.setIfInBounds o v) t g):=by simp[World.setCell,nO,h]
  have⟨s,u,x,y,z,A,d,B,C,p,k,l⟩:=tu a (w.setCell (dq b o) v) b (o+1) (e.setIfInBounds o v) t g r (eV i);have m:o<e.size:=cL;refine⟨s,u,x,y,by rw[show(w.setCells b o (v::a))=(w.setCell (dq b o) v).setCells b (o+1) a from rfl,z];simp[World.setCell],λc q=>?_,d,B,eV C,λj f=>?_,λj f=>?_,λj f=>?_⟩;exact(A c q).trans (dz.Cr.fS _ _ _ _ q);rw[p j cL,fZ cL];cases j with
  |zero=>rw[p (o+0) cL];simp[m]
  |succ j=>
   have:=k j (by simp at f;omega);rw[show o+(j+1)=o+1+j by omega,this];simp
  rw[l j (by simp at f;omega),fZ (by simp at f;omega)]
def cZ(g:Nat)(t:cQ)(e:dN)(w:cI)(v:cJ)(a:Nat)(f:dN):Prop:=
 f.length=a*e.length/\((a=0/\v=.slice none 0 0)\/∃b c d,g<=b/\v=.slice (some ⟨b,0,none⟩) a c/\w.heap[b]? =some (.cells d t)/\d.size=c*e.length/\a<=c/\c<2^63/\(∀j,j<f.length->d[j]? =f[j]?)/\∀j,f.length<=j->j<d.size->d[j]? =e[j%e.length]?)
def cV(v:cJ)(b:Nat):Prop:=∃l c,v=.slice (some ⟨b,0,none⟩) l c
def cZ.keep(h:cZ m T M w x k Y)(e:dA A w t)(f:∀b,cV x b->¬A b):cZ m T M t x k Y:=by obtain⟨a,h|⟨b,c,g,i,d,j,l⟩⟩:=h;exact⟨a,.inl h⟩;exact⟨a,.inr ⟨b,c,g,i,d,e.fL j (f b ⟨_,_,d⟩),l⟩⟩
def cZ.ext(h:cZ m T M w x k Y)(a:Ext w t):cZ m T M t x k Y:=h.keep (a.keep λ_=>False) cK
def cZ.nil(a:Nat)(t:cQ)(b:dN)(w:cI):cZ a t b w (.slice none 0 0) 0 []:=⟨dt,.inl ⟨rfl,rfl⟩⟩
theorem cZ.blk(h:cZ m T M w x k Y)(a:cV x i):m<=i/\i<w.heap.size:=by have⟨l,b,e⟩:=a;obtain⟨d,⟨_,h⟩|⟨f,c,g,j,n,o,p⟩⟩:=h;grind;grind
theorem cZ.len(h:cZ m T M w x k Y):∃a c,x=.slice a k c/\k<=c/\c<2^63:=by obtain⟨d,⟨b,h⟩|⟨e,c,f,b,g,i,j,l,n,_⟩⟩:=h;grind;grind
def cZ.cell(h:cZ m T M w x k Y)(g:0<k):∃b c,x=.slice (some ⟨b,0,none⟩) k c/\m<=b/\∀j u,Y[j]? =some u->w.cell? ⟨b,j,none⟩=some u:=by obtain⟨i,⟨a,h⟩|⟨d,c,l,a,e,f,n,o,p,q,r⟩⟩:=h;omega;refine⟨d,c,e,a,λj u s=>?_⟩;simp only[World.cell?,f];grind
def qk(z:eF)(n j:Nat)(a:0<z.size)(b:j<n*z.size):(Builtin.zeroCells z n)[j]? =z[j%z.size]? :=by grind [Nat.mod_lt,Builtin.zeroCells]
def I7{A ty e:cQ}{i:TypeInfo}(N:P.underlying A=some (.slice e))(O:P.info? e=some i)(X:i.zero=some z)(C:z.cells=M.toArray)(D:i.size=M.length)(E:i.bytes<=256)(Z:0<M.length) (aa:cZ m e M w x k Y)(F:m<=w.heap.size){f c:Nat}{a:dN}(q:a.length=f*M.length)(hm:0<f)(g:∀j u,a[j]? =some u->w.cell? (h.add j)=some u)(h1:∀u∈a,u.oneCell'=true)(G:k+f<=1000000):∃Q R,(Builtin.append_ #[A,A] ty #[x,.slice (some h) f c]).run P w=.ok Q R/\cZ m e M R Q (k+f) (Y++a)/\dA (cV x) w R/\∀b,cV Q b->cV x b\/w.heap.size<=b:=by
 have o:z.cells.size=M.length:=cK;have r:a.length=f*i.size:=cK;obtain⟨s,⟨rfl,rfl⟩|⟨b,p,S,g1,rfl,J,g4,g5,g6,g7,g8⟩⟩:=aa;obtain rfl:Y=[]:=cK;have B:=run_append_nil (P:=P) w A ty e i z N O X h f c a r g hm cL (dw (Nat.mul_le_mul (show f<=1000000 by omega) E) cK);have H:=grownCap_ge w f 0 e;refine⟨_,_,B,⟨cK,.inr ⟨w.heap.size,grownCap w f 0 e,a.toArray++Builtin.zeroCells z.cells (grownCap w f 0 e-f),F,dt,fX w.drew _,?_,cL,?_,?_,?_⟩⟩,?_,?_⟩;simp only[xZ,il,size_zeroCells,o,q,<-Nat.add_mul];grind;grind [grownCap_le_maxLen,maxLen];grind;intro j t v;simp only[oD]at t;rw[Dz cK];simp only[xZ,il,size_zeroCells,o]at v;simp only[il];rw[qk _ _ _ cL cK,o,C,q];have I:(j-f*M.length)%M.length=j%M.length:=by obtain⟨d,rfl⟩:∃d,j=f*M.length+d:=⟨j-f*M.length,cL⟩;simp
 grind;exact((Ext.drew w).trans (Ext.alloc _ _)).keep _;rintro b ⟨l,c',K⟩;grind;by_cases n:k+f<=p;have T:Y.length+a.length<=S.size:=by rw[s,q,g4,<-Nat.add_mul];exact rm _ n
 have B:=run_append_room_cells (P:=P) w A ty e i N O b 0 k p h f c a r g h1 n
  (λj t=>by have:Y.length+j<S.size:=cL;rw[D,dj,<-s];simp[World.cell?,J,this])
  (λj t=>by simp[World.frozen?,J])
 rw[D,dj,<-s]at B;have⟨e1,e2,e3,e4,e5,e6,U,e7,e8,e9,V,ab⟩:=tu a w b Y.length S e (0,0) J T;refine⟨_,_,B,⟨cK,.inr ⟨b,p,U,g1,rfl,e7,cK,n,g6,?_,?_⟩⟩,⟨e1,e2,e3,cK,cK,λL _ W=>e6 L λe=>W ⟨k,p,by rw[e]⟩⟩,λL W=>.inl ?_⟩;intro j t;by_cases ac:j<Y.length;grind;obtain⟨d,rfl⟩:∃d,j=Y.length+d:=⟨j-Y.length,cL⟩;rw[V d cK,uK dt];simp;grind;have⟨l,c',K⟩:=W;injection K with K;obtain rfl:b=L:=cK;exact⟨k,p,rfl⟩;have y:∀j u,Y[j]? =some u->w.cell? (((dq b 0):Addr).add j)=some u:=by intro j u hu;rw[Addr.add_lit];simp only[World.cell?,J,dj];grind
 have B:=run_append_grow (P:=P) w A ty e i z N O X (dq b 0) k p Y cK y h f c a r g cL cL (growslice_fits cL (dw (Nat.mul_le_mul G E) cK));have H:=grownCap_ge w (k+f) p e;refine⟨_,_,B,⟨cK,.inr ⟨w.heap.size,grownCap w (k+f) p e,_,F,rfl,fX w.drew _,?_,H,?_,?_,?_⟩⟩,?_,?_⟩;simp only[xZ,il,size_zeroCells,o,s,q,<-Nat.add_mul];grind;grind [grownCap_le_maxLen,maxLen];grind;intro j t v;simp only[lU]at t;rw[Dz cK];simp only[xZ,il,size_zeroCells,o,s,q]at v;simp only[xZ,il,s,q];rw[s,q]at t;rw[qk _ _ _ cL cK,o,C];have I:(j-(k*M.length+f*M.length))%M.length=j%M.length:=by obtain⟨d,rfl⟩:∃d,j=(k*M.length+f*M.length)+d:=⟨j-(k*M.length+f*M.length),cL⟩;rw[Nat.add_sub_cancel_left,<-Nat.add_mul,Nat.add_comm,Nat.add_mul_mod_self_right]
 grind;exact((Ext.drew w).trans (Ext.alloc _ _)).keep _;rintro L ⟨l,c',K⟩;grind
section
variable{P:cU}{ops:Array Oper}{Q:Exit->Act->cI->Prop}{a:Act}{w w':cI}{i m:Nat}
end
theorem cN{w:cI}{b o:Nat}{a:eF}{v:cJ}(h:w.heap[b]? =some (.cells a T))(c:a[o]? =some v):w.cell? ⟨b,o,none⟩=some v:=by simp only[World.cell?,h];grind
def Ext.cS{a w w':cI}{b:Nat}(h:Ext a w)(k:dA (λx=>x=b) w w')(d:a.heap.size<=b):Ext a w':=
 ⟨k.os.trans h.os,k.tape.trans h.tape,k.output.trans h.output,dw h.size k.size,dw h.drawn k.drawn,λx c=>(k.block x (ep c h.size) cL).trans (h.block x c)⟩
section
variable{P:cU}{ρ:dW->cJ}{w:cI}{v:cJ}
end
abbrev L:=List (Nat×cJ)
def lk:L->Nat->Option cJ
 |[],_=>none
 |p::r,t=>match Nat.beq p.1 t with
  |true=>some p.2
  |false=>lk r t
def nth{a:Type}:List a->Nat->Option a
 |[],_=>none
 |x::_,0=>some x
 |_::r,n+1=>nth r n
def mem:Nat->cM->Bool
 |_,[]=>false
 |n,x::r=>match Nat.beq n x with
  |true=>true
  |false=>mem n r
def ev(l:L):dW->Option cJ
 | .tmp t=>lk l t
 | .const v=>some v
 | .func f=>some (.func (.func f) #[] #[])
 | .global _=>none
def evs(l:L):List dW->Option dN
 |[]=>some []
 |x::r=>match ev l x with
  |some v=>match evs l r with
   |some a=>some (v::a)
   |none=>none
  |none=>none
def Ve(l:L):Option dW->Option (Option cJ)
 |none=>some none
 |some x=>match ev l x with
  |some v=>some (some v)
  |none=>none
def ins(N:Nat)(d:Option Nat)(v:cJ)(l:L):L:=match d with
 |none=>l
 |some d=>match Nat.blt d N with
  |true=>(d,v)::l
  |false=>l
structure Fr(N:Nat)(l:L)(a:Act):Prop where
 size:a.tmps.size=N
 defers:a.defers=[]
 at_:∀t v,lk l t=some v->a.eval (.tmp t)=v
structure wY(N:Nat)(l:L)(a:Act):Prop where
 size:a.tmps.size=N
 at_:∀t v,lk l t=some v->a.eval (.tmp t)=v
def Fr.b{N:Nat}{l:L}{a:Act}(h:Fr N l a):wY N l a:=⟨h.size,h.at_⟩
theorem wY.eval{N:Nat}{l:L}{a:Act}(h:wY N l a){x:dW}{v:cJ}(b:ev l x=some v):a.eval x=v:=by
 cases x with
 |tmp t=>exact h.at_ t v b
 |const c=>exact dQ b
 |func f=>exact dQ b
 |global g=>cases b
theorem Fr.eval{N:Nat}{l:L}{a:Act}(h:Fr N l a){x:dW}{v:cJ}(c:ev l x=some v):a.eval x=v:=h.b.eval c
theorem Fr.put{N:Nat}{l:L}{a:Act}(h:Fr N l a)(d:Option Nat)(v:cJ)(f:∀t,d=some t->t<N):Fr N (ins N d v l) (a.put d v):=by
 refine⟨(uG _ _ _).trans h.size,(yX _ _ _).trans h.defers,λt u b=>?_⟩;cases d with
 |none=>exact h.at_ t u b
 |some d=>
  have e:Nat.blt d N=true:=by grind [Nat.blt_eq]
  simp only[ins,e]at b;simp only[lk]at b;cases c:Nat.beq d t with
  |true=>
   rw[c]at b;have:d=t:=nS c;subst this;rw[xr _ _ _ (by rw[h.size];grind)];grind
  |false=>
   rw[c]at b;have:d≠t:=Iq c;rw[tt _ _ _ _ cK];exact h.at_ t u b
def Fr.vi{N:Nat}{l:L}{a:Act}(h:Fr N l a){d:Nat}{v:cJ}(e:lk l d=some v):Fr N ((d,v)::l) a:=by
 refine⟨h.size,h.defers,λt u b=>?_⟩;simp only[lk]at b;cases c:Nat.beq d t with
 |true=>
  rw[c]at b;have:d=t:=nS c;subst this;exact dQ b▸h.at_ _ _ e
 |false=>rw[c]at b;exact h.at_ t u b
def Sub:L->L->Prop
 |[],_=>True
 |p::r,l=>lk l p.1=some p.2/\Sub r l
theorem Sub.lk{b l:L}(h:Sub b l){t:Nat}{v:cJ}(a:lk b t=some v):lk l t=some v:=by
 induction b with
 |nil=>cases a
 |cons p r d=>
  simp only[W.lk]at a;cases c:Nat.beq p.1 t with
  |true=>
   rw[c]at a;have:p.1=t:=nS c;subst this;exact dQ a▸h.1
  |false=>rw[c]at a;exact d h.2 a
def Fr.sub{N:Nat}{l b:L}{a:Act}(h:Fr N l a)(c:Sub b l):Fr N b a:=⟨h.size,h.defers,λt v d=>h.at_ t v (c.lk d)⟩
structure jL(P:cU)(s:Sem cJ)(w:cI)(k:cJ->cI->Prop):Prop where
 out:∃v w',s.run P w=.ok v w'/\k v w'
structure Ed(P:cU)(s:Sem Unit)(w:cI)(k:cI->Prop):Prop where
 out:∃w',s.run P w=.ok () w'/\k w'
structure y8(P:cU)(s:Sem Next)(w:cI)(k:cJ->cI->Prop):Prop where
 out:∃v w',s.run P w=.ok (.value v) w'/\k v w'
structure SA(P:cU)(f:dY)(args:List cJ)(w:cI)(k:cJ->cI->Prop)(pan:List PanicEntry->cI->Prop):Prop where
 go:∀xs w,Sem.run P (callFunc f xs) w=.ok (.enter f xs) w
 out:Calls P f args.toArray w λe w'=>match e with
  | .returned v=>k v w'
  | .panicked c=>pan c w'
  | .outgrown=>False
structure y9 where
 off:Nat->Nat->Option Nat
structure mO(P:cU)(T:y9):Prop where
 off:∀S i d,T.off S i=some d->∀b o w,Sem.run P (Instr.fieldAt S (.pointer (some ⟨b,o,none⟩)) i) w=.ok (.pointer (some ⟨b,o+d,none⟩)) w
def Vf(l:L):List (Nat×dW)->Option (List (Nat×cJ))
 |[]=>some []
 |p::r=>match ev l p.2 with
  |some v=>match Vf l r with
   |some a=>some ((p.1,v)::a)
   |none=>none
  |none=>none
def Fh(P:cU)(T:y9)(ks:cM)(l:L)(w:cI)(o:Oper)(k:nB)(s:dB)(pan:List PanicEntry->dB):Prop:=
 match o.op with
 | .move x=>match ev l x with
  |some v=>k v w
  |none=>False
 | .assign x=>match ev l x with
  |some v=>k v w
  |none=>False
 | .pick (.tmp c) x y=>match lk l c with
  |some (.bool b)=>match mem c ks with
   |true=>(match b with
    |true=>match ev l x with
     |some v=>k v w
     |none=>False
    |false=>match ev l y with
     |some v=>k v w
     |none=>False)
   |false=>(b=true->match ev l x with
    |some v=>k v w
    |none=>False)/\(b=false->match ev l y with
    |some v=>k v w
    |none=>False)
  |_=>False
 | .nilCheck x=>match ev l x with
  |some (.pointer (some p))=>k (.pointer (some p)) w
  |some (.func (.func f) a b)=>k (.func (.func f) a b) w
  |_=>False
 | .fieldAddr S x i=>match ev l x with
  |some (.pointer (some ⟨b,o,none⟩))=>(match T.off S i with
   |some d=>k (.pointer (some ⟨b,o+d,none⟩)) w
   |none=>False)
  |_=>False
 | .extract x i=>match ev l x with
  |some (.tuple h)=>(match nth h.toList i with
   |some v=>k v w
   |none=>False)
  |_=>False
 | .field S x i=>match ev l x with
  |some v=>jL P (Instr.field S v i) w k
  |none=>False
 | .load t x=>match ev l x with
  |some v=>jL P (Instr.loadAt t v) w k
  |none=>False
 | .store t x y=>match ev l x with
  |some v=>(match ev l y with
   |some u=>Ed P (Instr.storeAt t v u) w s
   |none=>False)
  |none=>False
 | .alloc t=>jL P (Instr.alloc t true (.tuple #[])) w k
 | .box t x=>match ev l x with
  |some v=>jL P (Instr.box t v) w k
  |none=>False
 | .build t e=>match Vf l e.toList with
  |some h=>jL P (Instr.build t h.toArray) w k
  |none=>False
 | .buildSlice t n e=>match Vf l e.toList with
  |some h=>jL P (Instr.buildSlice t n h.toArray) w k
  |none=>False
 | .binOp b t x y _=>match ev l x with
  |some v=>(match ev l y with
   |some u=>jL P (do eqGuard b t x y v u;binOp b t v u) w k
   |none=>False)
  |none=>False
 | .unOp u _ x=>match ev l x with
  |some v=>jL P (Op.unary u v) w k
  |none=>False
 | .makeFunc q first j=>match evs l first.toList with
  |some A=>(match evs l j.toList with
   |some B=>k (.func q A.toArray B.toArray) w
   |none=>False)
  |none=>False
 | .makeMap t r=>match Ve l r with
  |some v=>jL P (Instr.makeMap t v) w k
  |none=>False
 | .makeSlice t x y=>match ev l x with
  |some v=>(match ev l y with
   |some u=>jL P (Instr.makeSlice t v u) w k
   |none=>False)
  |none=>False
 | .slice t x C D E=>match ev l x with
  |some v=>(match Ve l C with
   |some a=>(match Ve l D with
    |some b=>(match Ve l E with
     |some c=>jL P (Instr.sliceAt t v a b c) w k
     |none=>False)
    |none=>False)
   |none=>False)
  |none=>False
 | .indexAddr t x y=>match ev l x with
  |some v=>(match ev l y with
   |some u=>jL P (Instr.indexAt t v u) w k
   |none=>False)
  |none=>False
 | .index t x y=>match ev l x with
  |some v=>(match ev l y with
   |some u=>jL P (Instr.index t v u) w k
   |none=>False)
  |none=>False
 | .lookup t x y c=>match ev l x with
  |some v=>(match ev l y with
   |some u=>jL P (Instr.lookup t v u c) w k
   |none=>False)
  |none=>False
 | .mapUpdate t m x y=>match ev l m with
  |some z=>(match ev l x with
   |some v=>(match ev l y with
    |some u=>Ed P (Instr.mapUpdate t z v u) w s
    |none=>False)
   |none=>False)
  |none=>False
 | .call c=>(match c.callee with
  | .value f=>(match ev l f with
   |some (.func (.func g) first j)=>(match evs l c.args.toList with
    |some h=>SA P g (first.toList++(h++j.toList)) w k pan
    |none=>False)
   |_=>False)
  | .builtin b=>(match evs l c.args.toList with
   |some h=>y8 P (builtin b c.argTypes o.type (c.args.map λ| .const _=>true|_=>false) h.toArray) w k
   |none=>False)
  | .invoke _ _=>False)
 | .convert t u x=>match ev l x with
  |some v=>jL P (convert t u v) w k
  |none=>False
 |_=>False
section
variable{P:cU}{T:y9}{ks:List Nat}{N:Nat}{l:L}{a:Act}{w:cI}{o:Oper}{k:cJ->cI->Prop}{s:cI->Prop}{pan:List PanicEntry->cI->Prop}{next:Act->cI->Prop}{Q:Exit->Act->cI->Prop}
theorem zu{a:Type}:∀(l:List a) (i:Nat),nth l i=l[i]?
 |[],_=>rfl
 |_::_,0=>rfl
 |_::r,n+1=>(zu r n).trans dt
theorem wY.Uk(h:wY N l a):∀{d:List dW} {c:dN},evs l d=some c->d.map a.eval=c
 |[],c,b=>by grind [Option.some.injEq,evs]
 |x::r,c,b=>by simp only[evs]at b;split at b;rename_i v e;split at b;rename_i g f;simp only[iO]at b;subst b;simp[h.eval e,wY.Uk h f];cases b;cases b
theorem wY.Ul(h:wY N l a):∀{d:List (Nat×dW)} {c:List (Nat×cJ)},Vf l d=some c->d.map (λp=>(p.1,a.eval p.2))=c
 |[],c,b=>by grind [Option.some.injEq,Vf]
 |x::r,c,b=>by simp only[Vf]at b;split at b;rename_i v e;split at b;rename_i g f;simp only[iO]at b;subst b;simp[h.eval e,wY.Ul h f];cases b;cases b
def wY.KH(h:wY N l a){x:Option dW}{v:Option cJ}(b:Ve l x=some v):x.map a.eval=v:=by
 cases x with
 |none=>grind [Option.some.injEq,Ve]
 |some x=>
  simp only[Ve]at b;split at b;rename_i u c;simp only[iO]at b;subst b;simp[h.eval c];grind
def qR(h:wY N l a){b:Array dW}{c:dN}(d:evs l b.toList=some c):b.map a.eval=c.toArray:=by have:=h.Uk d;grind
theorem CF(h:wY N l a){b:Array (Nat×dW)}{c:List (Nat×cJ)}(d:Vf l b.toList=some c):b.map (λp=>(p.1,a.eval p.2))=c.toArray:=by have:=h.Ul d;grind
theorem Fi{s:Sem cJ}(h:jL P s w k)(c:∀v b,k v b->next (a.put o.dst v) b):o.upon P a next Q ((do let v<-s;pure (Next.value v):Sem Next).run P w):=by have⟨v,b,d,e⟩:=h.out;simp only[Sem.run_bind,d,Result.andThen_ok,Sem.run_pure];exact c v b e
theorem YW{c:Sem Unit}(h:Ed P c w s)(d:∀b,s b->next (a.put o.dst undef) b):o.upon P a next Q ((do c;pure Next.skip:Sem Next).run P w):=by have⟨b,e,f⟩:=h.out;simp only[Sem.run_bind,e,Result.andThen_ok,Sem.run_pure];exact d b f
def ji(K:mO P T)(q:wY N l a)(h:Fh P T ks l w o k s pan)(B:∀v C,k v C->next (a.put o.dst v) C)(Z:∀C,s C->next (a.put o.dst undef) C)(hp:∀c C,pan c C->Q (.panic c) a C):o.wp P a w next Q:=by
 unfold Oper.wp;unfold Fh at h;split at h;case h_1 x p=>
  split at h;rename_i v j;simp only[execOp,p,q.eval j,Sem.run_pure];exact B _ _ h;grind
 case h_2 x p=>
  split at h;rename_i v j;simp only[execOp,p,q.eval j,Sem.run_pure];exact B _ _ h;grind
 case h_3 c x y p=>
  split at h;case h_1 b L=>
   have E:a.eval (.tmp c)=.bool b:=q.eval (x:=.tmp c) L;simp only[execOp,p,E,asBool,pure_bind,Sem.run_pure];split at h;cases b with
   |true=>
    simp only at h;split at h;rename_i v j;simp only[ej,q.eval j];exact B _ _ h;grind
   |false=>
    simp only at h;split at h;rename_i v j;simp only[iH,fj,q.eval j];exact B _ _ h;grind
   cases b with
   |true=>
    have h:=h.1 rfl;split at h;rename_i v j;simp only[ej,q.eval j];exact B _ _ h;grind
   |false=>
    have h:=h.2 rfl;split at h;rename_i v j;simp only[iH,fj,q.eval j];exact B _ _ h;grind
  grind
 case h_4 x p=>
  split at h;rename_i ad j;simp only[execOp,p,q.eval j,Sem.run_pure];exact B _ _ h;rename_i f u v j;simp only[execOp,p,q.eval j,Sem.run_pure];exact B _ _ h;grind
 case h_5 S x i p=>
  split at h;rename_i b G j;split at h;rename_i d M;simp only[execOp,p,q.eval j];exact Fi (k:=k) ⟨_,_,K.off S i d M b G w,h⟩ B;grind;grind
 case h_6 x i p=>
  split at h;rename_i F j;split at h;rename_i v O;rw[zu]at O;have H:F[i]? =some v:=cK;simp only[execOp,p,q.eval j];exact Fi (k:=k) ⟨v,w,by simp only[Instr.extract,H,Sem.run_pure],h⟩ B;grind;grind
 case h_7 S x i p=>
  split at h;rename_i v j;simp only[execOp,p,q.eval j];grind [Fi];grind
 case h_8 t x p=>
  split at h;rename_i v j;simp only[execOp,p,q.eval j];grind [Fi];grind
 case h_9 t x y p=>
  split at h;rename_i v j;split at h;rename_i u A;simp only[execOp,p,q.eval j,q.eval A];grind [YW];grind;grind
 case h_10 t p=>grind [Fi,execOp]
 case h_11 t x p=>
  split at h;rename_i v j;simp only[execOp,p,q.eval j];grind [Fi];grind
 case h_12 t D p=>
  grind [CF,Fi,execOp]
 case h_13 t n D p=>
  grind [CF,Fi,execOp]
 case h_14 b t x y r p=>
  split at h;rename_i v j;split at h;rename_i u A;simp only[execOp,p,q.eval j,q.eval A];grind [Fi];grind;grind
 case h_15 u t x p=>
  split at h;rename_i v j;simp only[execOp,p,q.eval j];grind [Fi];grind
 case h_16 fn first cap p=>
  split at h;rename_i xs R;split at h;rename_i ys U;simp only[execOp,p,qR q R,qR q U];exact Fi (k:=k) ⟨_,_,by simp only[Instr.makeFunc,Sem.run_pure],h⟩ B;grind;grind
 case h_17 t r p=>
  split at h;rename_i v j;simp only[execOp,p,q.KH j];grind [Fi];grind
 case h_18 t x y p=>
  split at h;rename_i v j;split at h;rename_i u A;simp only[execOp,p,q.eval j,q.eval A];grind [Fi];grind;grind
 case h_19 t x lo hi mx p=>
  split at h;rename_i v j;split at h;rename_i u A;split at h;rename_i u2 I;split at h;rename_i u3 J;simp only[execOp,p,q.eval j,q.KH A,q.KH I,q.KH J];grind [Fi];grind;grind;grind;grind
 case h_20 t x y p=>
  split at h;rename_i v j;split at h;rename_i u A;simp only[execOp,p,q.eval j,q.eval A];grind [Fi];grind;grind
 case h_21 t x y p=>
  split at h;rename_i v j;split at h;rename_i u A;simp only[execOp,p,q.eval j,q.eval A];grind [Fi];grind;grind
 case h_22 t x y c p=>
  split at h;rename_i v j;split at h;rename_i u A;simp only[execOp,p,q.eval j,q.eval A];grind [Fi];grind;grind
 case h_23 t m x y p=>
  split at h;rename_i z V;split at h;rename_i v j;split at h;rename_i u A;simp only[execOp,p,q.eval V,q.eval j,q.eval A];grind [YW];grind;grind;grind
 case h_24 c p=>
  split at h;rename_i f E;split at h;rename_i g first cap hf
  split at h;rename_i F j;have W:first++F.toArray++cap=(first.toList++(F++cap.toList)).toArray:=cK
  simp only[execOp,p,resolve,E,Deferred.ofValue,q.eval hf,qR q j,pure_bind,invoke,W,h.go,Oper.upon_enter];refine h.out.mono λe C he=>?_;grind;grind;grind;rename_i b E;split at h;rename_i F j;have⟨v,C,X,Y⟩:=h.out;simp only[execOp,p,resolve,E,qR q j,pure_bind,invoke];exact Eq.mpr (dE (o.upon P a next Q) X) (B v C Y);grind;grind
 case h_25 t u x p=>
  split at h;rename_i v j;simp only[execOp,p,q.eval j];grind [Fi];grind
 grind
def As:List Oper->Nat->Option Nat
 |[],_=>none
 |o::_,0=>o.dst
 |_::r,n+1=>As r n
def V1(N:Nat)(d:Option Nat)(X:Prop):Prop:=match d with
 |none=>X
 |some d=>match Nat.blt d N with
  |true=>X
  |false=>False
def wd(r:Option Nat):Fence:={Fence.wide with round:=r}
def Pe{r:Option Nat}{n:Nat}{a:eF}{w:cI}{R:Ending->dB}(h:Calls P K a w R):CallsIn (wd r) n P K a w R:=callsIn_wide.2 h
structure ZA(P:cU)(lp:Nat)(args:List cJ)(w:cI)(k:cJ->cI->Prop)(pan:List PanicEntry->cI->Prop):Prop where
 out:∃f tmps assign body,(Instr.yield lp args.toArray).run P w=.ok (.round lp f tmps assign body) w/\RoundIn Fence.wide 0 P lp f tmps assign body w λe w'=>match e with
  | .returned v=>k v w'
  | .panicked c=>pan c w'
  | .outgrown=>False
def vj(P:cU)(T:y9)(ks:cM)(l:L)(w:cI)(o:Oper)(k:nB)(s:dB)(pan:List PanicEntry->dB):Prop:=
 match o.op with
 | .call c=>(match c.callee with
  | .value f=>(match ev l f with
   |some (.func (.yield a) first _)=>(match evs l c.args.toList with
    |some b=>ZA P a (first.toList++b) w k pan
    |none=>False)
   |_=>Fh P T ks l w o k s pan)
  |_=>Fh P T ks l w o k s pan)
 |_=>Fh P T ks l w o k s pan
def Au{r:Option Nat}{n:Nat}{x:Result Next}(h:o.upon P a next Q x):o.uponIn (wd r) n P a next Q x:=by
 have b:((wd r).depth.isSome=true->1<=n):=λh=>by cases h
 cases x with
 |ok v i=>
  cases v with
  |value v=>exact h
  |skip=>exact h
  |defer d=>exact h
  |enter f g=>exact⟨b,(Pe h).mono λe w h=>cK⟩
  |row row g=>exact⟨b,λc j _=>let⟨v,i,r,s⟩:=h c j;⟨v,i,r,stepsIn_wide.2 s⟩⟩
  |_=>exact h.elim
 |halt e i=>
  cases e with
  |panic v=>exact h
  |_=>exact h.elim
def GD(h:Fh P T ks l w o k s pan):∀c,o.op≠ .defer c:=λc e=>by grind [Fh]
def vk{r:Option Nat}(t:mO P T)(m:wY N l a)(h:vj P T ks l w o k s pan)(u:∀v d,k v d->next (a.put o.dst v) d)(x:∀d,s d->next (a.put o.dst undef) d)(y:∀c d,pan c d->Q (.panic c) a d):o.wpIn (wd r) 0 P a w next Q:=by
 have plain:Fh P T ks l w o k s pan->o.wpIn (wd r) 0 P a w next Q:=λh=>by refine⟨λ_ _=>trivial,?_⟩;rw[Oper.semAt_eq _ _ _ (GD h)];exact Au (ji t m h u x y)
 unfold vj at h;split at h;rename_i c z;split at h;rename_i f A;split at h;rename_i p first cap hf
 split at h;rename_i q B;have⟨g,i,b,j,C,D⟩:=h.out;refine⟨λ_ _=>trivial,?_⟩;rw[Oper.semAt_eq _ _ _ (λc e=>cK)];have E:first++q.toArray=(first.toList++q).toArray:=cK
 have e:Sem.run P (execOp a.eval o) w=.ok (.round p g i b j) w:=by simp only[execOp,z,resolve,A,Deferred.ofValue,m.eval hf,qR m B,pure_bind,invoke,E,C]
 rw[e]
 have n:RoundIn (wd r) (0-1) P p g i b j w λe d=>match e with
  | .returned v=>k v d
  | .panicked c=>pan c d
  | .outgrown=>False:=D
 refine⟨(λh=>by cases h),n.mono ?_⟩;grind;grind;grind;grind;grind
structure px(ds:List Deferred)(N:Nat)(l:L)(a:Act):Prop where
 b:wY N l a
 d:a.defers=ds
def Fr.XS{N:Nat}{l:L}{a:Act}(h:Fr N l a):px [] N l a:=⟨h.b,h.defers⟩
def px.fr{N:Nat}{l:L}{a:Act}(h:px [] N l a):Fr N l a:=⟨h.b.size,h.d,h.b.at_⟩
theorem wY.put{N:Nat}{l:L}{a:Act}(h:wY N l a)(d:Option Nat)(v:cJ)(b:∀t,d=some t->t<N):wY N (ins N d v l) (a.put d v):=by have c:Fr N l ⟨a.tmps,[]⟩:=⟨h.size,rfl,h.at_⟩;have:=c.put d v b;cases d<;>exact⟨this.size,this.at_⟩
theorem wY.vi{N:Nat}{l:L}{a:Act}(h:wY N l a){d:Nat}{v:cJ}(b:lk l d=some v):wY N ((d,v)::l) a:=by have c:Fr N l ⟨a.tmps,[]⟩:=⟨h.size,rfl,h.at_⟩;have:=c.vi b;exact⟨this.size,this.at_⟩
theorem px.put{c:List Deferred}{N:Nat}{l:L}{a:Act}(h:px c N l a)(d:Option Nat)(v:cJ)(e:∀t,d=some t->t<N):px c N (ins N d v l) (a.put d v):=⟨h.b.put d v e,(yX _ _ _).trans h.d⟩
theorem px.vi{c:List Deferred}{N:Nat}{l:L}{a:Act}(h:px c N l a){d:Nat}{v:cJ}(e:lk l d=some v):px c N ((d,v)::l) a:=⟨h.b.vi e,h.d⟩
def px.sub{c:List Deferred}{N:Nat}{l e:L}{a:Act}(h:px c N l a)(f:Sub e l):px c N e a:=⟨⟨h.b.size,λt v g=>h.b.at_ t v (f.lk g)⟩,h.d⟩
def n7(P:cU)(T:y9)(N:Nat)(K:L->dB)(pan:L->List PanicEntry->dB)(a:List Oper):List Oper->cM->L->dB
 |[],_,l,w=>K l w
 |o::r,ks,l,w=>V1 N o.dst (match o.guard with
  |none=>vj P T ks l w o (λv c=>n7 P T N K pan a r ks (ins N o.dst v l) c) (λc=>n7 P T N K pan a r ks (ins N o.dst undef l) c) (pan l)
  |some (g,e)=>match As a g with
   |none=>False
   |some d=>match lk l d with
    |some (.bool b)=>(match mem d ks with
     |true=>(match b,e with
      |true,true=>vj P T ks l w o (λv c=>n7 P T N K pan a r ks (ins N o.dst v l) c) (λc=>n7 P T N K pan a r ks (ins N o.dst undef l) c) (pan l)
      |false,false=>vj P T ks l w o (λv c=>n7 P T N K pan a r ks (ins N o.dst v l) c) (λc=>n7 P T N K pan a r ks (ins N o.dst undef l) c) (pan l)
      |_,_=>n7 P T N K pan a r ks (ins N o.dst undef l) w)
     |false=>(b=true->match e with
      |true=>vj P T (d::ks) ((d,.bool true)::l) w o (λv c=>n7 P T N K pan a r (d::ks) (ins N o.dst v ((d,.bool true)::l)) c) (λc=>n7 P T N K pan a r (d::ks) (ins N o.dst undef ((d,.bool true)::l)) c) (pan ((d,.bool true)::l))
      |false=>n7 P T N K pan a r (d::ks) (ins N o.dst undef ((d,.bool true)::l)) w)/\
      (b=false->match e with
       |false=>vj P T (d::ks) ((d,.bool false)::l) w o (λv c=>n7 P T N K pan a r (d::ks) (ins N o.dst v ((d,.bool false)::l)) c) (λc=>n7 P T N K pan a r (d::ks) (ins N o.dst undef ((d,.bool false)::l)) c) (pan ((d,.bool false)::l))
       |true=>n7 P T N K pan a r (d::ks) (ins N o.dst undef ((d,.bool false)::l)) w))
    |some (.tuple _)=>n7 P T N K pan a r ks (ins N o.dst undef l) w
    |_=>False)
def wm{X:Prop}{d:Option Nat}(h:V1 N d X):X/\∀t,d=some t->t<N:=by
 cases d with
 |none=>exact⟨h,λ_ e=>cK⟩
 |some d=>
  grind [Nat.blt_eq,V1]
theorem mW:∀(l:List Oper) (g:Nat),As l g=(l[g]?).bind (·.dst)
 |[],_=>rfl
 |_::_,0=>rfl
 |_::r,n+1=>(mW r n).trans dt
theorem pJ{b:Array Oper}{a:Act}{g d:Nat}{c:eF}(e:(b[g]?).bind (·.dst)=some d)(f:a.eval (.tmp d)=.tuple c):yielded b a.tmps g=none:=by grind [kN,yielded]
theorem oR{r0:Option Nat}{ds:List Deferred}(s:mO P T){K:L->dB}{pan:L->List PanicEntry->dB}{e:Array Oper}(t:∀l a w,px ds N l a->K l w->Q .normal a w)(u:∀l c a w,px ds N l a->pan l c w->Q (.panic c) a w):∀(r:List Oper) (i:Nat) (ks:cM) (l:L) (a:Act) (w:cI),(∀j,r[j]? =e[i+j]?)->px ds N l a->n7 P T N K pan e.toList r ks l w->wpOpsIn (wd r0) 0 P e Q (List.range' i r.length) a w
 |[],i,ks,l,a,w,_,f,h=>t l a w f h
 |o::r,i,ks,l,a,w,C,f,h=>by
  have D:e[i]? =some o:=(C 0).symm;have n:∀j,r[j]? =e[i+1+j]? :=λj=>by have:=C (j+1);grind
  have⟨h,y⟩:=wm h
  have E:∀ks l,px ds N l a->Region.wanted o (yielded e a.tmps)=true->vj P T ks l w o (λv k=>n7 P T N K pan e.toList r ks (ins N o.dst v l) k) (λk=>n7 P T N K pan e.toList r ks (ins N o.dst undef l) k) (pan l)->
   wpOpsIn (wd r0) 0 P e Q (List.range' i (o::r).length) a w:=by
   intro ks l f x h;rw[fi,Cf];simp only[wpOpsIn,D,x,ej];refine(vk s f.b h (λv k p=>?_) (λk p=>?_) λc k p=>u l c a k f p);exact oR s t u r (i+1) ks _ _ k n (f.put o.dst v y) p;exact oR s t u r (i+1) ks _ _ k n (f.put o.dst undef y) p
  have skip:∀ks l,px ds N l a->Region.wanted o (yielded e a.tmps)=false->n7 P T N K pan e.toList r ks (ins N o.dst undef l) w->wpOpsIn (wd r0) 0 P e Q (List.range' i (o::r).length) a w:=by intro ks l f x h;rw[fi,Cf];simp only[wpOpsIn,D,x,iH,fj];refine⟨λ_ _=>trivial,?_⟩;exact oR s t u r (i+1) ks _ _ w n (f.put o.dst undef y) h
  split at h;grind [Region.wanted];rename_i g m F;split at h;grind;rename_i d z;rw[mW]at z;have G:(e[g]?).bind (·.dst)=some d:=cK;split at h;rename_i b q;have A:a.eval (.tmp d)=.bool b:=f.b.at_ d _ q;have H:yielded e a.tmps g=some b:=by grind [kN,yielded,undef]
  have x:Region.wanted o (yielded e a.tmps)=(b==m):=by simp[Region.wanted,F,H]
  split at h;cases b<;>cases m<;>simp only at h;grind;grind;grind;grind;cases b with
  |true=>
   have h:=h.1 rfl;have B:=f.vi q;grind
  |false=>
   have h:=h.2 rfl;have B:=f.vi q;grind
  rename_i I q;have A:a.eval (.tmp d)=.tuple I:=f.b.at_ d _ q;grind [pJ,yielded,Region.wanted];grind
end
abbrev QW:=Exit->L->cI->Prop
def lift(N:Nat)(Q:QW):Exit->Act->dB:=λe a w=>∃l,Fr N l a/\Q e l w
def Pf(K:L->dB)(Q:QW):QW
 | .normal,l,w=>K l w
 | .exit i,l,w=>Q (.exit i) l w
 | .goto i,l,w=>Q (.goto i) l w
 | .ret,l,w=>Q .ret l w
 | .panic c,l,w=>Q (.panic c) l w
 | .outgrown,l,w=>Q .outgrown l w
def jT(id:Nat)(Q:QW):QW
 | .exit i,l,w=>match Nat.beq i id with
  |true=>Q .normal l w
  |false=>Q (.exit i) l w
 | .normal,l,w=>Q .normal l w
 | .goto i,l,w=>Q (.goto i) l w
 | .ret,l,w=>Q .ret l w
 | .panic c,l,w=>Q (.panic c) l w
 | .outgrown,l,w=>Q .outgrown l w
structure dP(P:cU)(N:Nat)(c:Code)(l:L)(w:cI)(Q:QW):Prop where
 out:∀a,Fr N l a->c.wp P (lift N Q) a w
def WC(P:cU)(T:y9)(N:Nat):Code->QW->L->dB
 | .skip,Q,l,w=>Q .normal l w
 | .label _,Q,l,w=>Q .normal l w
 | .ret,Q,l,w=>Q .ret l w
 | .exit i,Q,l,w=>Q (.exit i) l w
 | .goto i,Q,l,w=>Q (.goto i) l w
 | .region i a d,Q,l,w=>(match d with
  |false=>n7 P T N (Q .normal) (λl c w=>Q (.panic c) l w) a.toList a.toList [] l w
  |true=>dP P N (.region i a true) l w Q)
 | .seq x y,Q,l,w=>WC P T N x (Pf (WC P T N y Q) Q) l w
 | .cond c x y,Q,l,w=>(match ev l c with
  |some (.bool b)=>(b=true->WC P T N x Q l w)/\(b=false->WC P T N y Q l w)
  |_=>False)
 | .block i c,Q,l,w=>(match c with
  | .loop h=>dP P N (.block i (.loop h)) l w Q
  | .rangeFunc f e g b=>dP P N (.block i (.rangeFunc f e g b)) l w Q
  |_=>WC P T N c (jT i Q) l w)
 | .loop c,Q,l,w=>dP P N (.loop c) l w Q
 | .scope c,Q,l,w=>dP P N (.scope c) l w Q
 | .rangeFunc f e g b,Q,l,w=>dP P N (.rangeFunc f e g b) l w Q
 | .refuse _,_,_,_=>False
theorem jo{P:cU}{T:y9}{N:Nat}(o:mO P T):∀(c:Code) (Q:QW) (l:L) (a:Act) (w:cI),Fr N l a->WC P T N c Q l w->c.wp P (lift N Q) a w
 | .skip,Q,l,a,w,g,h=>wp_skip ⟨l,g,h⟩
 | .label _,Q,l,a,w,g,h=>wp_label ⟨l,g,h⟩
 | .ret,Q,l,a,w,g,h=>wp_ret ⟨l,g,h⟩
 | .exit i,Q,l,a,w,g,h=>wp_exit ⟨l,g,h⟩
 | .goto i,Q,l,a,w,g,h=>wp_goto ⟨l,g,h⟩
 | .region i r d,Q,l,a,w,g,h=>by
  cases d with
  |true=>exact dP.out h a g
  |false=>
   refine wpIn_wide.1 (wpIn_region (n:=0) ?_);have:=oR (r0:=none) (ds:=[]) o (Q:=lift N Q) (λl a w g s=>⟨l,g.fr,s⟩) (λl c a w g s=>⟨l,g.fr,s⟩) r.toList 0 [] l a w (λj=>dt) g.XS h;rw[Array.length_toList,<-List.range_eq_range']at this;exact this
 | .seq x y,Q,l,a,w,g,h=>by
  refine lf (lM (jo o x _ l a w g h) ?_);rintro e u v ⟨p,k,m⟩;cases e with
  |normal=>exact jo o y Q p u v k m
  |_=>exact⟨p,k,m⟩
 | .cond c x y,Q,l,a,w,g,h=>by simp only[WC]at h;split at h;rename_i b z;refine wp_cond_split (g.eval z) (λA=>?_) λB=>?_;exact jo o x Q l a w g (h.1 A);exact jo o y Q l a w g (h.2 B);exact h.elim
 | .block i c,Q,l,a,w,g,h=>by
  have t:WC P T N c (jT i Q) l w->(Code.block i c).wp P (lift N Q) a w:=λh=>by
   refine wp_block (lM (jo o c _ l a w g h) ?_);rintro e u v ⟨p,k,m⟩;cases e with
   |exit j=>
    simp only[Exit.inBlock];simp only[jT]at m;by_cases q:j=i;subst q;rw[cT rfl];rw[Cg]at m;exact⟨p,k,m⟩;rw[cR q];have:Nat.beq j i=false:=by grind [Nat.eq_of_beq_eq_true]
    rw[this]at m;exact⟨p,k,m⟩
   |_=>exact⟨p,k,m⟩
  cases c with
  |loop E=>exact dP.out h a g
  |rangeFunc f C D b=>exact dP.out h a g
  |_=>exact t h
 | .loop c,Q,l,a,w,g,h=>dP.out h a g
 | .scope c,Q,l,a,w,g,h=>dP.out h a g
 | .rangeFunc f C D b,Q,l,a,w,g,h=>dP.out h a g
 | .refuse _,_,_,_,_,_,h=>h.elim
def flat:Code->Bool
 | .region _ _ d=>!d
 | .seq x y=>flat x&&flat y
 | .cond _ x y=>flat x&&flat y
 | .block _ c=>flat c
 | .loop _=>false
 | .scope _=>false
 | .rangeFunc _ _ _ _=>false
 |_=>true
def Pg(b:List Deferred)(N:Nat)(Q:QW):Exit->Act->dB:=λe a w=>∃l,px b N l a/\Q e l w
theorem lZ{P:cU}{T:y9}{N:Nat}{r:Option Nat}{ds:List Deferred}(o:mO P T):∀(c:Code) (Q:QW) (l:L) (a:Act) (w:cI),flat c=true->px ds N l a->WC P T N c Q l w->c.wpIn (wd r) 0 P (Pg ds N Q) a w
 | .skip,Q,l,a,w,_,g,h=>wpIn_skip ⟨l,g,h⟩
 | .label _,Q,l,a,w,_,g,h=>wpIn_label ⟨l,g,h⟩
 | .ret,Q,l,a,w,_,g,h=>wpIn_ret ⟨l,g,h⟩
 | .exit i,Q,l,a,w,_,g,h=>wpIn_exit ⟨l,g,h⟩
 | .goto i,Q,l,a,w,_,g,h=>wpIn_goto ⟨l,g,h⟩
 | .region i s d,Q,l,a,w,k,g,h=>by
  cases d with
  |true=>cases k
  |false=>
   refine wpIn_region ?_;have:=oR (r0:=r) (ds:=ds) o (Q:=Pg ds N Q) (λl a w g t=>⟨l,g,t⟩) (λl c a w g t=>⟨l,g,t⟩) s.toList 0 [] l a w (λj=>dt) g h;rw[Array.length_toList,<-List.range_eq_range']at this;grind
 | .seq x y,Q,l,a,w,k,g,h=>by
  simp only[flat,eU]at k;refine wpIn_seq (wpIn_mono (lZ o x _ l a w k.1 g h) ?_);rintro e v z ⟨p,m,n⟩;cases e with
  |normal=>exact lZ o y Q p v z k.2 m n
  |_=>exact⟨p,m,n⟩
 | .cond c x y,Q,l,a,w,k,g,h=>by simp only[flat,eU]at k;simp only[WC]at h;split at h;rename_i b A;refine wpIn_cond_split (g.b.eval A) (λB=>?_) λC=>?_;exact lZ o x Q l a w k.1 g (h.1 B);exact lZ o y Q l a w k.2 g (h.2 C);grind
 | .block i c,Q,l,a,w,k,g,h=>by
  have u:flat c=true->WC P T N c (jT i Q) l w->(Code.block i c).wpIn (wd r) 0 P (Pg ds N Q) a w:=λk h=>by
   refine wpIn_block (wpIn_mono (lZ o c _ l a w k g h) ?_);rintro e v z ⟨p,m,n⟩;cases e with
   |exit j=>
    simp only[Exit.inBlock];simp only[jT]at n;by_cases q:j=i;subst q;rw[cT rfl];rw[Cg]at n;exact⟨p,m,n⟩;rw[cR q];have:Nat.beq j i=false:=by grind [Nat.eq_of_beq_eq_true]
    rw[this]at n;exact⟨p,m,n⟩
   |_=>exact⟨p,m,n⟩
  cases c with
  |loop F=>cases k
  |rangeFunc f D E b=>cases k
  |_=>exact u k h
 | .loop c,Q,l,a,w,k,g,h=>by cases k
 | .scope c,Q,l,a,w,k,g,h=>by cases k
 | .rangeFunc f D E b,Q,l,a,w,k,g,h=>by cases k
 | .refuse _,_,_,_,_,_,_,h=>h.elim
def GF(P:cU):List ResultVar->L->cI->(dN->Prop)->Prop
 |[],_,_,k=>k []
 | .tmp t::r,l,w,k=>match lk l t with
  |some v=>GF P r l w λa=>k (v::a)
  |none=>False
 | .cell t b::r,l,w,k=>match lk l t with
  |some (.pointer (some c))=>∃v,Sem.run P (loadVar b c) w=.ok v w/\GF P r l w λa=>k (v::a)
  |_=>False
def one(vs:dN):cJ:=match vs with
 |[v]=>v
 |vs=>.tuple vs.toArray
def QR(P:cU)(b:List ResultVar)(R:Ending->dB):QW
 | .normal,l,w=>GF P b l w λa=>R (.returned (one a)) w
 | .ret,l,w=>GF P b l w λa=>R (.returned (one a)) w
 | .panic c,_,w=>R (.panicked c) w
 |_,_,_=>False
def Mo(a:eF):ResultVar->Sem cJ
 | .tmp t=>pure (a.getD t undef)
 | .cell x t=>do loadVar t (<-asAddr (a.getD x undef))
theorem Av{P:cU}{N:Nat}{a:Act}{w:cI}:∀(m:List ResultVar) (l:L) (k:dN->Prop),Fr N l a->GF P m l w k->∃c,Sem.run P (m.mapM (Mo a.tmps)) w=.ok c w/\k c
 |[],l,k,d,h=>⟨[],dt,h⟩
 | .tmp t::r,l,k,d,h=>by simp only[GF]at h;split at h;rename_i v e;have⟨c,f,g⟩:=Av r l _ d h;have b:Mo a.tmps (.tmp t)=pure v:=dE pure (d.at_ t v e);refine⟨v::c,?_,g⟩;rw[List.mapM_cons,b];simp only[Sem.run_bind,Sem.run_pure,Result.andThen_ok,f];grind
 | .cell t i::r,l,k,d,h=>by
  simp only[GF]at h;split at h;rename_i n e;have⟨v,o,h⟩:=h;have⟨c,f,g⟩:=Av r l _ d h;have b:a.tmps.getD t gT=.pointer (some n):=d.at_ t _ e;have j:Mo a.tmps (.cell t i)=loadVar i n:=by show(do loadVar i (<-asAddr (a.tmps.getD t gT)))=_;rw[b];rfl
  refine⟨v::c,?_,g⟩;rw[List.mapM_cons,j];simp only[Sem.run_bind,o,Result.andThen_ok,f,Sem.run_pure];grind
def Aw(b:Func)(c:eF):results b c=(do let a<-b.results.mapM (Mo c);pure (if h:a.size=1 then a[0]else .tuple a)):=by unfold results;congr 1
def Um{P:cU}{k:Func}{c:Code}{b:dN}{w:cI}{R:Ending->dB}(N:Nat)(h:dP P N c (b.zipIdx.map λp=>(p.2,p.1)) w (QR P k.results.toList R))(a:Act)(z:a.tmps.size=N)(d:a.defers=[])(u:∀i v,b.toArray[i]? =some v->a.eval (.tmp i)=v):c.wp P (bodyPost P k R) a w:=by
 have A:Fr N (b.zipIdx.map λp=>(p.2,p.1)) a:=by
  refine⟨z,d,λt v G=>?_⟩;refine u t v ?_
  have B:∀(m:dN) (n:Nat),lk ((m.zipIdx n).map λp=>(p.2,p.1)) t=some v->n<=t/\m[t-n]? =some v:=by
   intro m;induction m with
   |nil=>intro n h;cases h
   |cons x r H=>
    intro n h;simp only[List.zipIdx_cons,kY,lk]at h;cases s:Nat.beq n t with
    |true=>
     rw[s]at h;have:n=t:=nS s;grind
    |false=>
     grind
  grind
 refine lM (h.out a A) ?_;rintro e q g ⟨C,j,f⟩
 have l:GF P k.results.toList C g (λo=>R (.returned (one o)) g)->q.defers=[]/\∃v,(results k q.tmps).run P g=.ok v g/\R (.returned v) g:=λf=>by
  have⟨o,D,E⟩:=Av _ _ _ j f;refine⟨j.defers,_,?_,E⟩;rw[Aw,Sem.run_bind];have F:Sem.run P (k.results.mapM (Mo q.tmps)) g=.ok o.toArray g:=by rw[J9,Sem.run_map,D];rfl
  rw[F];simp only[Result.andThen_ok,Sem.run_pure];congr 1;obtain _|⟨x,_|⟨y,r⟩⟩:=o;rfl;rfl;simp[one]
 cases e with
 |normal=>exact l f
 |ret=>exact l f
 |panic c=>exact⟨j.defers,f⟩
 |exit i=>exact f.elim
 |goto i=>exact f.elim
 |outgrown=>exact f.elim
def Un{P:cU}{a:Func}{c:Code}{args:dN}{w:cI}{R:Ending->dB}(N:Nat)
 (b:P.funcs[K]? =some a)(d:a.body=some c)(e:a.ntmps=N)(f:args.length<=N)(h:dP P N c (args.zipIdx.map λp=>(p.2,p.1)) w (QR P a.results.toList R)):Calls P K args.toArray w R:=
 Pb N b d e (Um N h) cK
def WE{P:cU}{T:y9}(e:mO P T){b:Func}{c:Code}{args:dN}{w:cI}{R:Ending->dB}(N:Nat)
 (f:P.funcs[K]? =some b)(g:b.body=some c)(i:b.ntmps=N)(d:args.length<=N)(h:WC P T N c (QR P b.results.toList R) (args.zipIdx.map λp=>(p.2,p.1)) w):Calls P K args.toArray w R:=
 Un N f g i d ⟨λa j=>jo e c _ _ a w j h⟩
theorem dP.seq{P:cU}{T:y9}(g:mO P T){N:Nat}{x y:Code}{l:L}{w:cI}{Q:QW}(h:WC P T N x (Pf (λc d=>dP P N y c d Q) Q) l w):dP P N (.seq x y) l w Q:=⟨λa i=>by
 refine lf (lM (jo g x _ l a w i h) ?_);rintro e j d ⟨c,b,f⟩;cases e with
 |normal=>exact f.out j b
 |_=>exact⟨c,b,f⟩⟩
theorem dP.of{P:cU}{T:y9}(b:mO P T){N:Nat}{c:Code}{l:L}{w:cI}{Q:QW}(h:WC P T N c Q l w):dP P N c l w Q:=⟨λa d=>jo b c _ l a w d h⟩
def I8(ops:Array Oper)(o:Oper):cM:=o.after.toList.filterMap λe=>if Region.binds .any e then(ops[e.on]?).bind (·.dst)else none
def jd(ops:Array Oper)(o:Oper)(a:Act):cJ:=.tuple ((I8 ops o).map λt=>a.eval (.tmp t)).toArray
def Ee{ops:Array Oper}{o:Oper}{a b:Act}(h:∀t∈I8 ops o,a.eval (.tmp t)=b.eval (.tmp t)):jd ops o a=jd ops o b:=by unfold jd;rw[List.map_congr_left h]
theorem Mp{ops:Array Oper}{o:Oper}{a b:Act}(h:jd ops o a=jd ops o b){t:Nat}(c:t∈I8 ops o):a.eval (.tmp t)=b.eval (.tmp t):=by
 unfold jd at h;have d:((I8 ops o).map λt=>a.eval (.tmp t))=(I8 ops o).map λt=>b.eval (.tmp t):=by grind
 exact List.map_inj_left.1 d t c
def nD(ops:Array Oper)(N m:Nat):Bool:=
 (List.range ops.size).all (λi=>match ops[i]? with
  |some o=>(o.after.all λe=>decide (e.on<i)||!Region.binds .any e)&&(match o.dst with|some d=>decide (d<N)&&(List.range ops.size).all (λj=>decide (j=i)||match ops[j]? with|some a=>a.dst !=some d|none=>true)|none=>true)
  |none=>true)&&((decide (m=ops.size)||(List.range m).all λj=>(List.range (m+1)).any λk=>decide (j<k)&&waits ops k j)&&(decide (m=ops.size)||decide (m+1=ops.size)))
section
variable{P:cU}{ops:Array Oper}{Q:Exit->Act->cI->Prop}{a0:Act}{w0:cI}{N m sp:Nat}{yY:Bool->Nat->cJ->cI->Prop}{E E':cI->cI->Prop}{Rch:Bool->cI->Prop}
structure Ef(Rch:Bool->cI->Prop)(sp:Nat)(ops:Array Oper)(a0:Act)(N m:Nat)(yY:Bool->Nat->cJ->cI->Prop)(L:Array Bool)(a:Act)(w:cI):Prop where
 size:a.tmps.size=N
 defers:a.defers=a0.defers
 keep:∀j,wrote ops j=false->a.eval (.tmp j)=a0.eval (.tmp j)
 val:∀i o d,i<m->L.getD i false=true->ops[i]? =some o->o.dst=some d->yY (L.getD sp false) i (a.eval (.tmp d)) w
 ext:Rch (L.getD sp false) w
 tail:∀i,m<=i->L.getD i false=false
 closed:∀i j,L.getD i false=true->waits ops i j=true->L.getD j false=true
 valn:∀i o,i<m->L.getD i false=true->ops[i]? =some o->o.dst=none->yY (L.getD sp false) i (jd ops o a) w
 fresh:∀j,(∀k o,L.getD k false=true->ops[k]? =some o->o.dst≠some j)->a.eval (.tmp j)=a0.eval (.tmp j)
def Before(ops:Array Oper)(i j:Nat):Prop:=∀k o,ops[k]? =some o->o.dst=some j->waits ops k i=true
def Mq{ops:Array Oper}{i j:Nat}(h:wrote ops j=false):Before ops i j:=λk o a b=>by grind [Array.any_eq_true',Array.mem_of_getElem?,wrote]
def Uo(ops:Array Oper)(k i:Nat):Prop:=waits ops k i=true\/∃j,waits ops k j=true/\waits ops j i=true
def ou(E E':cI->dB)(Rch:Bool->dB)(sp:Nat)(P:cU)(ops:Array Oper)(Q:Exit->Act->dB)(a0:Act)(N:Nat)(yY:Bool->Nat->nB)(i:Nat)(o:Oper):Prop:=
 ∀b a w,(i=sp\/Uo ops sp i->b=false)->a.tmps.size=N->a.defers=a0.defers->(∀j,Before ops i j->a.eval (.tmp j)=a0.eval (.tmp j))->
  (∀j d,(o.after.any λe=>e.on==j&&Region.binds .any e)=true->((ops[j]?).bind (·.dst))=some d->yY b j (a.eval (.tmp d)) w)->Rch b w->
  wpOp P ops Q i (λf c=>∃v,f=a.put o.dst v/\(if i=sp then E' w c else E w c)/\yY (b||decide (i=sp)) i v c/\(o.dst=none->v=jd ops o a)) a w
def tv(Rch:Bool->dB)(P:cU)(ops:Array Oper)(Q:Exit->Act->dB)(a0:Act)(N m:Nat)(yY:Bool->Nat->nB):Prop:=
 ∀b a w,a.tmps.size=N->a.defers=a0.defers->(∀j,wrote ops j=false->a.eval (.tmp j)=a0.eval (.tmp j))->(∀i d,i<m->((ops[i]?).bind (·.dst))=some d->yY b i (a.eval (.tmp d)) w)->(∀i o,i<m->ops[i]? =some o->o.dst=none->yY b i (jd ops o a) w)->Rch b w->
  (m=ops.size->Q .normal a w)/\(m+1=ops.size->wpOp P ops Q m (λc e=>Q .normal c e) a w)
structure Up(E E':cI->cI->Prop)(Rch:Bool->cI->Prop)(yY:Bool->Nat->cJ->cI->Prop):Prop where
 v:∀b i v w w',yY b i v w->E w w'->yY b i v w'
 x:∀i v w w',yY false i v w->E' w w'->yY true i v w'
 r:∀b w w',Rch b w->E w w'->Rch b w'
 rx:∀w w',Rch false w->E' w w'->Rch true w'
def Ef.next(I:nD ops N m=true)(C:Up E E' Rch yY){L:Array Bool}{a:Act}{w:cI}(f:Ef Rch sp ops a0 N m yY L a w)(S:L.size=ops.size){i:Nat}{o:Oper}(z:ops[i]? =some o)(T:i<m)
 {v:cJ}{A:cI}(l:if i=sp then E' w A else E w A)(U:yY (L.getD sp false||decide (i=sp)) i v A)(K:o.dst=none->v=jd ops o a)(B:L.getD i false=false)(G:∀j,waits ops i j=true->L.getD j false=true):Ef Rch sp ops a0 N m yY (L.setIfInBounds i true) (a.put o.dst v) A:=by
 have D:(L.setIfInBounds i true).getD sp false=(L.getD sp false||decide (i=sp)):=by grind [iV,Array.getElem?_eq_some_iff]
 have last:∀k u,yY (L.getD sp false) k u w->yY (L.getD sp false||decide (i=sp)) k u A:=λk u h=>by by_cases e:i=sp;subst e;rw[cT rfl]at l;rw[B]at h⊢;simpa using C.x _ _ _ _ h l;rw[cR e]at l;simpa[e]using C.v _ _ _ _ _ h l
 have M:i<ops.size:=(iS.1 z).1;simp only[nD,eU]at I;have n:=nz.1 I.1 i (fP.2 M);rw[z]at n;simp only[eU]at n;refine⟨by rw[uG,f.size],by rw[yX,f.defers],λj s=>?_,λk p d g c b y=>?_,?_,λk g=>?_,λk j g s=>?_,λk p g c b y=>?_,λj s=>?_⟩;rw[tt,f.keep j s];grind [Array.any_eq_true',Array.mem_of_getElem?,wrote];rw[D];rw[iV _ _ _ cL]at c;by_cases e:i=k;subst e;rw[z]at b;obtain rfl:=dQ b;rw[y,xr];grind;have J:=n.2;rw[y]at J;simp only[eU,j9]at J;rw[f.size];grind;rw[cR e]at c;have O:k<ops.size:=(iS.1 b).1;rw[tt];exact last _ _ (f.val k p d g c b y);grind;rw[D];have F:=f.ext;by_cases e:i=sp;subst e;rw[cT rfl]at l;rw[B]at F⊢;simpa using C.rx _ _ F l;rw[cR e]at l;simpa[e]using C.r _ _ _ F l;rw[iV _ _ _ cL,cR cL];exact f.tail k g;rw[iV _ _ _ cL]at g⊢;split;rfl;by_cases e:i=k;grind;rw[cR e]at g;exact f.closed k j g s;rw[D];rw[iV _ _ _ cL]at c;by_cases e:i=k;subst e;rw[z]at b;obtain rfl:=dQ b;have V:jd ops o (a.put o.dst v)=jd ops o a:=by rw[y];rfl
 grind;rw[cR e]at c;have q:jd ops p (a.put o.dst v)=jd ops p a:=by
  refine Ee λt P=>?_;have⟨x,F,H⟩:=List.mem_filterMap.1 P;split at H;rename_i D;refine tt _ _ _ _ λW=>?_;have Q:waits ops k x.on=true:=by grind [Array.any_eq_true',waits]
  have R:=f.closed k x.on c Q;grind;grind
 rw[q];exact last _ _ (f.valn k p g c b y);rw[tt _ _ _ _ λe=>s i o (by rw[iV _ _ _ cL,cT rfl]) z e];refine f.fresh j λk p g b=>s k p ?_ b;rw[iV _ _ _ cL];grind
def za{id:Nat}(hm:P.follows .mixedOrders=true)(T:nD ops N m=true)(hV:Up E E' Rch yY)(h0:Rch false w0.drew)(hN:a0.tmps.size=N) (hs:∀i o,i<m->ops[i]? =some o->ou E E' Rch sp P ops Q a0 N yY i o)(W:tv Rch P ops Q a0 N m yY):(Code.region id ops true).wp P Q a0 w0:=by
 refine wp_region_any hm ?_;have I:m=ops.size\/m+1=ops.size:=by simp only[nD,eU,Ka,j9]at T;grind
 have ah:m<=ops.size:=cL;have F:m+1=ops.size->∀j,j<m->∃k,j<k/\k<=m/\waits ops k j=true:=λai j t=>by have h:=T;simp only[nD,eU]at h;obtain h|h:=Ka _ _▸h.2.1;grind;have h2:=nz.1 h j (fP.2 t);grind
 have X:∀(i:Nat) (o:Oper),ops[i]? =some o->∀e∈o.after,Region.binds .any e=true->e.on<i:=λi o r e he hb=>by have q:i<ops.size:=(iS.1 r).1;have J:=T;simp only[nD,eU]at J;have K:=nz.1 J.1 i (fP.2 q);rw[r]at K;simp only[eU]at K;grind [Array.all_eq_true_iff_forall_mem]
 have u:∀L:Array Bool,L.size=ops.size->Region.ready .any ops L=[]->∀i,i<ops.size->L.getD i false=true:=by
  intro L U hr i;induction i using Nat.strongRecOn with
  |_ i ih=>
   intro q;refine Kb λaj=>?_;have r:ops[i]? =some ops[i]:=nw q;have y:i∈Region.ready .any ops L:=by unfold Region.ready;refine nA.2 ⟨fP.2 q,?_⟩;simp only[eU,sM];grind
   grind
 have Y:∀(f:Nat) (L:Array Bool) (a:Act) (w:cI),L.size=ops.size->Ef Rch sp ops a0 N m yY L a w->((List.range ops.size).countP λi=>!L.getD i false)<=f->wpAny P .any ops Q f L a w:=by
  intro f;induction f with
  |zero=>
   intro L a w U b hc;have g:∀i,i<ops.size->L.getD i false=true:=λi q=>by grind [List.countP_eq_zero]
   refine⟨?_,?_⟩;grind [List.filter_eq_nil_iff,Region.ready];have G:m=ops.size:=by obtain h|h:=I;grind;have V:=g m cL;rw[b.tail m (dg _)]at V;grind
   exact(W _ a w b.size b.defers b.keep (λi d q n=>by have⟨o,r,n⟩:=jD.1 n;exact b.val i o d q (g i cL) r n) (λi o q r n=>b.valn i o q (g i cL) r n) b.ext).1 G
  |succ f ih=>
   intro L a w U b hc;refine⟨λhr=>?_,λi q=>?_⟩;have g:=u L U hr;have G:m=ops.size:=by obtain h|h:=I;grind;have V:=g m cL;rw[b.tail m (dg _)]at V;grind
   exact(W _ a w b.size b.defers b.keep (λi d q n=>by have⟨o,r,n⟩:=jD.1 n;exact b.val i o d q (g i cL) r n) (λi o q r n=>b.valn i o q (g i cL) r n) b.ext).1 G;unfold Region.ready at q;have⟨D,H⟩:=nA.1 q;have D:=fP.1 D;simp only[eU,sM]at H;have r:ops[i]? =some ops[i]:=nw D;rw[r]at H;simp only[mn,kG]at H;have p:L.getD i false=false:=by grind
   have z:∀j,(ops[i].after.any λe=>e.on==j&&Region.binds .any e)=true->L.getD j false=true:=λj t=>by grind
   have M:(List.range ops.size).countP (λj=>!(L.setIfInBounds i true).getD j false)<=f:=by
    have ak:(List.range ops.size).countP (λj=>!(L.setIfInBounds i true).getD j false)<(List.range ops.size).countP (λj=>!L.getD j false):=by
     have y:=fP.2 D;generalize List.range ops.size=l at y;have Z:∀l:cM,l.countP (λj=>!(L.setIfInBounds i true).getD j false)<=l.countP (λj=>!L.getD j false):=λl=>List.countP_mono_left λx _ hx=>by grind [iV]
     induction l with
     |nil=>grind
     |cons x l aa=>
      obtain rfl|A:=eW.1 y;grind [List.countP_cons_of_neg,iV,List.countP_cons_of_pos,Nat.lt_succ_of_le];have h2:=aa A;rw[List.countP_cons,List.countP_cons];have V:(if(!(L.setIfInBounds i true).getD x false)=true then 1 else 0)<=(if(!L.getD x false)=true then 1 else 0):=by rw[iV _ _ _ cL];grind
      omega
    omega
   obtain A|A:=gu i m
   have ab:=hs i ops[i] A r (L.getD sp false) a w (λe=>by
    obtain e|e:=e;grind;cases O:L.getD sp false with
    |false=>rfl
    |true=>
     obtain e|⟨j,e1,e2⟩:=e;rw[b.closed sp i O e]at p;grind;rw[b.closed j i (b.closed sp j O e1) e2]at p;grind) b.size b.defers (λj t=>b.fresh j λk o hk r e=>by
    have:=b.closed k i hk (t k o r e);grind) (λj d t n=>by
    have⟨R,B,n⟩:=jD.1 n;have al:j<i:=by grind
    exact b.val j R d cL (z j t) B n) b.ext
   refine wpOp_mono (λa' w' h=>?_) ab;obtain⟨v,rfl,he,hv,ac⟩:=h;exact ih _ _ _ cK (b.next T hV U r A he hv ac p λj t=>z j (by grind [waits])) M;have C:m+1=ops.size:=cL;obtain rfl:i=m:=cL;have s:∀c j,j+c=i->0<c->L.getD j false=true:=by
    intro c;induction c using Nat.strongRecOn with
    |_ c ad=>
     intro j t am;have⟨k,an,ao,ae⟩:=F C j cL;obtain af|af:=gu k i;exact b.closed k j (ad (i-k) cL k cL cL) ae;obtain rfl:k=i:=cL;grind [waits]
   have S:=(W _ a w b.size b.defers b.keep (λj d t n=>by have⟨R,B,n⟩:=jD.1 n;exact b.val j R d t (s (i-j) j cL cL) B n) (λj R t B n=>b.valn j R t (s (i-j) j cL cL) B n) b.ext).2 C;refine wpOp_mono (λa' w' h=>?_) S;have g:∀j,j<ops.size->(L.setIfInBounds i true).getD j false=true:=λj t=>by rw[iV _ _ _ cL];split;rfl;exact s (i-j) j cL cL
   have ag:Region.ready .any ops (L.setIfInBounds i true)=[]:=by grind [List.filter_eq_nil_iff,Array.getD_eq_getD_getElem?,Array.getElem?_eq_getElem,Region.ready]
   cases f with
   |zero=>exact⟨ag,h⟩
   |succ f=>exact⟨λ_=>h,λj t=>cK⟩
 refine Y _ _ _ _ dt ⟨hN,rfl,λ_ _=>rfl,λi o d _ hl _ _=>?_,?_,λi _=>?_,λi j q _=>?_,λi o _ hl _ _=>?_,λ_ _=>rfl⟩ ?_;simp[Ip,vQ]at hl;grind;have:(Array.replicate ops.size false).getD sp false=false:=by simp only[Ip,vQ];grind
 rw[this];exact h0;simp only[Ip,vQ];grind;simp[Ip,vQ]at q;grind;simp[Ip,vQ]at hl;grind;exact dw List.countP_le_length dt
end
end Go.Proofs.W
