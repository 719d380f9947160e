/- Laws that the proof needs, part 2. Conditions: none. -/
import Derived.Conc.WgGenN3
import Derived.Test.YteeagjkaflglpaaGreatRows
import Derived.Conc.DeferLaws
import Derived.Conc.CompanyDraw
import Derived.Conc.TokenWalk
import Derived.Laws.MakeOwn
import Derived.Conc.AppendWalk
import Derived.Below
import Derived.Outline
import Derived.Lib.Hide
import Derived.Conc.SmallLaws
import Derived.ArgAppend
import Derived.Defers
import Derived.Test.YteeagjkaflglpaaGreatX01
set_option maxRecDepth 100000
set_option maxHeartbeats 8000000
set_option linter.all false
namespace Go.dG.Wg
open Go.Conc Go.ConcN Go.RowKit Go.Conc.Lib Go.ConcR.Gen Go.ConcN.Gen
open Go.ConcR (KK wgBlock WgAt stA smA mk Payload DC0)
variable{L:WgLink}
section
variable(P:dq)(main:Bool)(R:dg->dg->Prop)(Wg:Nat)
def Ag(m:Mark)(a:dm->dg->Prop)(g:dm)(w:dg):Prop:=g.status=.running/\∃b,stepG P main g w=.go b w #[mk m]/\∃k,Goes P main R DC0 a k b w
def Ug(Fin:dm->dg->Prop):dm->dg->Prop:=Ag P main R .enable (Ag P main R (.acquire (stA Wg)) Fin)
def V9(b:dn)(Fin:dm->dg->Prop)(g:dm)(w:dg):Prop:=g.status=.running/\(WgAt b Wg w 0 0->∃a,stepG P main g w=.go a w #[ConcR.rd (stA Wg)]/\∃k,Goes P main R DC0 (Ug P main R Wg Fin) k a w)
def Wa(a:dn)(Fin:dm->dg->Prop)(g:dm)(w:dg):Prop:=g.status=.running/\g.offers=none/\((∃c,WgAt a Wg w c 0)->stepG P main g w=.go {g with status:=.blocked} w #[])/\
 (WgAt a Wg w 0 1->∃b,stepG P main g w=.go b (w.setCell (smA Wg) (.int .u32 0)) (semEvents (smA Wg))/\∃k,Goes P main R DC0 (V9 P main R Wg a Fin) k b (w.setCell (smA Wg) (.int .u32 0)))
def Wb(c:dn)(a Fin:dm->dg->Prop)(d:Nat)(g:dm)(w:dg):Prop:=g.status=.running/\∀v:Nat,v<2147483648->WgAt c Wg w (v*KK) 0->(v=d->∃b,stepG P main g w=.go b (w.setCell (stA Wg) (.int .u64 (v*KK+1))) #[ConcR.rd (stA Wg),ConcR.wr (stA Wg)]/\∃k,Goes P main R DC0 (Ag P main R (.write (smA Wg)) (Wa P main R Wg c Fin)) k b (w.setCell (stA Wg) (.int .u64 (v*KK+1))))/\(v≠d->∃b,stepG P main g w=.go b w #[ConcR.rd (stA Wg)]/\∃k,Goes P main R DC0 a k b w)
def Vh(c:dn)(a Fin:dm->dg->Prop)(g:dm)(w:dg):Prop:=g.status=.running/\∀v:Nat,v<2147483648->WgAt c Wg w (v*KK) 0->∃b,stepG P main g w=.go b w #[ConcR.rd (stA Wg)]/\(v=0->∃k,Goes P main R DC0 (Ug P main R Wg Fin) k b w)/\(v≠0->∃k,Goes P main R DC0 (Wb P main R Wg c a Fin v) k b w)
end
section
variable{R:dg->dg->Prop}{Wg:Nat}{F:dg->Prop}{main:Bool}{Fin:dm->dg->Prop} {b₀:Frame}{a₀:Act}{ops₀:Array Oper}{i₀:Nat}{rest₀:List Nat}{k₀:List Item}{cs:List Frame}
theorem Fu{P:dq}(H:WgLib P L)(c:∀{w a},F w/\WgLive L.tWg Wg w->R w a->F a/\WgLive L.tWg Wg a)(w:dg)(b:F w/\WgLive L.tWg Wg w):∃k,Goes P main R DC0 (Ag P main R .disable (AnchWN L F Wg (b₀.at a₀ (.inRegion ops₀ (i₀::rest₀)::k₀)) cs)) k (G ((base L.wait).at ⟨#[.pointer (some ⟨Wg,0,none⟩)]++Array.replicate ((waitFn L).ntmps-1) undef,[]⟩ [.code (body_wait L)]) (b₀.at a₀ (.inRegion ops₀ (i₀::rest₀)::k₀)::cs)) w:=by lib_facts;refine⟨30,?_⟩;simp only[body_wait,waitFn,kF,Nat.reduceSub,Array.replicate,List.replicate];u_c dA c b;u_cond true c b;u_reg c b;refine iU (λa d=>?_);replace b:=c b d;clear d;refine⟨rfl,_,stepG_mark0 .disable (by simp) rfl rfl (by k_ne) rfl H.f_disable (x_disable_n L) (x_disable_b L) (x_disable_x L) (x_disable_f L),3,?_⟩;walk_nrm;u_c du c b;u_c qA c b;u_c stepG_loop c b;exact iU (λf e=>⟨_,rfl,by simp,by simp,c b e⟩)
theorem Fv{P:dq}(H:WgLib P L)(b:∀{w d},F w/\WgLive L.tWg Wg w->R w d->F d/\WgLive L.tWg Wg d)(K:∀w x,F w->F (w.setCell (stA Wg) x))(E:∀w x,F w->F (w.setCell (smA Wg) x))
 (o:Fin=λg w=>g=G (b₀.at (a₀.put ((ops₀[i₀]?).bind (·.dst)) (.tuple #[])) (.inRegion ops₀ rest₀::k₀)) cs/\F w/\WgLive L.tWg Wg w)
 (g:dm)(w:dg)(h:AnchWN L F Wg (b₀.at a₀ (.inRegion ops₀ (i₀::rest₀)::k₀)) cs g w):∃k,Goes P main R DC0 (Vh P main R Wg L.tWg (AnchWN L F Wg (b₀.at a₀ (.inRegion ops₀ (i₀::rest₀)::k₀)) cs) Fin) k g w:=by
 lib_facts;obtain⟨T,rfl,y,I,a⟩:=h;obtain⟨v0,v1,v2,v3,v4,v5,v6,v7,v8,v9,M,N,O,Q,U,V,W,X,Y,Z,aa,ab,ac,ae,af,ag,ah,ai,aj,ak,al,am,an,ao,ap,aq,ar,au,av,aw,ax,ay,az,aA,aB,aC,aD,aE,aF,aG,aH,aI,aJ,aK,aL,aM,aN,aO,aP,aQ,aR,aS,aT,aU,aV,aW,aX,aY,aZ,a0,a2,a3,a4,a5,a6,a7,a8,a9,ba,bb,bc,bd,be,bf,rfl⟩:=array84 T y;simp only[Cd,G0,gx]at I;subst I;refine⟨40,?_⟩;simp only[L7,body_wait,waitFn,kF];u_c qA b a;u_c dA b a;u_reg b a;iterate 3 u_op b a
 u_call H.f_uLoad (nm_uLoad L) uLoadFn b a;u_c dA b a;u_reg b a;u_op b a;u_c du b a;u_c dA b a;u_reg b a;iterate 3 u_op b a
 refine iU (λd p=>?_);replace a:=b a p;clear p;refine⟨rfl,λv hv c=>?_⟩;rcases n4 v with rfl|bg
 ·
  replace c:WgAt L.tWg Wg d 0 0:=by simpa using c
  refine⟨_,stepG_load_atomic (v:=0) rfl rfl (by k_ne) rfl H.f_loadU64 (x_loadU64_n L) (x_loadU64_b L) (x_loadU64_x L) .u64 (x_loadU64_f L) rfl c.cellSt,λ_=>⟨80,?_⟩,λh=>absurd rfl h⟩;clear c;walk_nrm;u_op b a;u_c du b a;u_c stepG_ret' b a;u_leave1 H.f_uLoad b a;u_op b a;u_c du b a;u_c dA b a;u_reg b a;iterate 4 u_op b a
  u_c du b a;u_c dA b a;u_reg b a;iterate 4 u_op b a
  u_c du b a;iterate 2 u_c dA b a
  u_reg b a;iterate 2 u_op b a
  u_c du b a;u_cond true b a;u_c dA b a;u_cond true b a;u_c dA b a;u_reg b a;refine iU (λz f=>?_);replace a:=b a f;clear f;refine⟨rfl,_,stepG_mark0 .enable (by simp) rfl rfl (by k_ne) rfl H.f_enable (x_enable_n L) (x_enable_b L) (x_enable_x L) (x_enable_f L),20,?_⟩;walk_nrm;u_c du b a;u_reg b a;u_op b a;u_conv H.underlying_tWgP H.room_tWg (WgLive.cell0 a.2).choose_spec b a;refine iU (λA i=>?_);replace a:=b a i;clear i;refine⟨rfl,_,stepG_markAt .acquire (by simp) rfl rfl (by k_ne) rfl H.f_acquire (x_acquire_n L) (x_acquire_b L) (x_acquire_x L) (x_acquire_f L) (by simp[Act.eval,stA]),40,?_⟩;walk_nrm;u_c du b a;iterate 2 u_c dA b a
  u_reg b a;iterate 8 u_op b a
  iterate 2 u_skip b a
  u_op b a;u_c du b a;u_cond false b a;u_c fi b a;u_c stepG_ret' b a;u_leave0 H.f_wait b a;subst o;exact iU λB m=>⟨rfl,b a m⟩
 ·obtain⟨S,j⟩:∃S:Int,(v:Int)*KK=S:=⟨_,rfl⟩;have a1:S/4294967296=(v:Int):=by rw[<-j];simp only[KK];omega
  have b1:bits .and .u64 S 2147483648=0:=by rw[<-j];have:=st_flag v 0 (by omega) (by omega);simpa[KK]using this
  have b2:bits .and .u64 S 2147483647=0:=by rw[<-j];have:=st_waiters v 0 (by omega) (by omega);simpa[KK]using this
  have c1:IntKind.i32.wrap (v:Int)=(v:Int):=by rw[IntKind.wrap_i32];omega
  have w1:IntKind.u64.wrap (S+1)=S+1:=by rw[IntKind.wrap_u64,<-j];simp only[KK];omega
  have q3:decide ((v:Int)<0)=false:=kg (by omega);have q4:decide (0<(v:Int))=true:=decide_eq_true (by omega);have q5:((v:Int)==0)=false:=by simp;omega
  have q6:decide ((v:Int)=0)=false:=kg (by omega);rw[j]at c;refine⟨_,stepG_load_atomic (v:=S) rfl rfl (by k_ne) rfl H.f_loadU64 (x_loadU64_n L) (x_loadU64_b L) (x_loadU64_x L) .u64 (x_loadU64_f L) rfl c.cellSt,λh0=>absurd h0 (by omega),λ_=>⟨80,?_⟩⟩;clear c;walk_nrm;u_op b a;u_c du b a;u_c stepG_ret' b a;u_leave1 H.f_uLoad b a;u_op b a;u_c du b a;u_c dA b a;u_reg b a;iterate 4 u_op b a
  u_c du b a;u_c dA b a;u_reg b a;iterate 4 u_op b a
  u_c du b a;iterate 2 u_c dA b a
  u_reg b a;iterate 2 u_op b a
  u_c du b a;u_cond false b a;u_c fi b a;u_c dA b a;u_reg b a;iterate 6 u_op b a
  u_call H.f_uCas (nm_uCas L) uCasFn b a;u_c dA b a;u_reg b a;u_op b a;u_c du b a;u_c dA b a;u_reg b a;iterate 5 u_op b a
  refine iU (λq r=>?_);replace a:=b a r;clear r;refine⟨rfl,λv' bh c=>⟨λe=>?_,λe=>?_⟩⟩
  ·subst e;rw[j]at c⊢;refine⟨_,(stepG_cas_hit (v:=S) (n:=S+1) rfl rfl (by k_ne) rfl H.f_casU64 (x_casU64_n L) (x_casU64_b L) (x_casU64_x L) .u64 (x_casU64_f L) rfl rfl rfl c.cellSt (c.thaw 0)).trans (by rfl),80,?_⟩;replace a:F (q.setCell (stA Wg) (.int .u64 (S+1)))/\WgLive L.tWg Wg (q.setCell (stA Wg) (.int .u64 (S+1))):=⟨K _ _ a.1,⟨_,_,c.setSt _⟩⟩;clear c;walk_nrm;u_op b a;u_c du b a;u_c stepG_ret' b a;u_leave1 H.f_uCas b a;u_c du b a;u_cond true b a;iterate 2 u_c dA b a
   u_reg b a;iterate 4 u_op b a
   u_c du b a;u_cond true b a;u_reg b a;iterate 3 u_op b a
   u_conv H.underlying_tPU32 H.room_tU32 (WgLive.cell1 a.2).choose_spec b a;refine iU (λC l=>?_);replace a:=b a l;clear l;refine⟨rfl,_,stepG_markAt .write (by simp) rfl rfl (by k_ne) rfl H.f_raceWrite (x_raceWrite_n L) (x_raceWrite_b L) (x_raceWrite_x L) (x_raceWrite_f L) (ad:=⟨Wg,1,none⟩) (by simp[Act.eval]),60,?_⟩;walk_nrm;u_c du b a;u_c dA b a;u_reg b a;u_op b a;u_c du b a;iterate 2 u_c dA b a
   u_reg b a;iterate 4 u_op b a
   u_skip b a;u_op b a;u_c du b a;u_cond false b a;u_c fi b a;u_c dA b a;u_reg b a;iterate 4 u_op b a
   refine iU (λs t=>?_);replace a:=b a t;clear t;refine⟨rfl,rfl,λ⟨st,c⟩=>stepG_semacquire_wait rfl rfl rfl H.f_semacquire (x_semacquire_n L) (x_semacquire_b L) (x_semacquire_x L) (x_semacquire_f L) (by simp[Act.eval,smA]) c.cellSm,λD=>?_⟩;refine⟨_,(stepG_semacquire (n:=1) rfl rfl (by k_ne) rfl H.f_semacquire (x_semacquire_n L) (x_semacquire_b L) (x_semacquire_x L) (x_semacquire_f L) (by simp[Act.eval,smA]) D.cellSm (by k_ne) (D.thaw 1)).trans (by rfl),50,?_⟩;replace a:F (s.setCell (smA Wg) (.int .u32 0))/\WgLive L.tWg Wg (s.setCell (smA Wg) (.int .u32 0)):=⟨E _ _ a.1,⟨_,_,D.setSm 0⟩⟩;clear D;walk_nrm;u_c du b a;u_c dA b a;u_reg b a;iterate 3 u_op b a
   u_call H.f_uLoad (nm_uLoad L) uLoadFn b a;u_c dA b a;u_reg b a;u_op b a;u_c du b a;u_c dA b a;u_reg b a;iterate 3 u_op b a
   refine iU (λJ u=>?_);replace a:=b a u;clear u;refine⟨rfl,λc=>⟨_,stepG_load_atomic (v:=0) rfl rfl (by k_ne) rfl H.f_loadU64 (x_loadU64_n L) (x_loadU64_b L) (x_loadU64_x L) .u64 (x_loadU64_f L) rfl c.cellSt,50,?_⟩⟩;clear c;walk_nrm;u_op b a;u_c du b a;u_c stepG_ret' b a;u_leave1 H.f_uLoad b a;iterate 2 u_op b a
   u_c du b a;u_c dA b a;u_cond true b a;u_c dA b a;u_reg b a;refine iU (λz f=>?_);replace a:=b a f;clear f;refine⟨rfl,_,stepG_mark0 .enable (by simp) rfl rfl (by k_ne) rfl H.f_enable (x_enable_n L) (x_enable_b L) (x_enable_x L) (x_enable_f L),20,?_⟩;walk_nrm;u_c du b a;u_reg b a;u_op b a;u_conv H.underlying_tWgP H.room_tWg (WgLive.cell0 a.2).choose_spec b a;refine iU (λA i=>?_);replace a:=b a i;clear i;refine⟨rfl,_,stepG_markAt .acquire (by simp) rfl rfl (by k_ne) rfl H.f_acquire (x_acquire_n L) (x_acquire_b L) (x_acquire_x L) (x_acquire_f L) (by simp[Act.eval,stA]),40,?_⟩;walk_nrm;u_c du b a;iterate 2 u_c dA b a
   u_reg b a;u_op b a;u_c du b a;u_cond false b a;u_c fi b a;u_c stepG_ret' b a;u_leave0 H.f_wait b a;subst o;exact iU λB m=>⟨rfl,b a m⟩
  ·refine⟨_,stepG_cas_miss (v:=(v':Int)*KK) (old:=S) (n:=S+1) rfl rfl (by k_ne) rfl H.f_casU64 (x_casU64_n L) (x_casU64_b L) (x_casU64_x L) .u64 (x_casU64_f L) rfl rfl rfl c.cellSt (c.thaw 0) (by rw[<-j];simp only[KK];omega),12,?_⟩;clear c;walk_nrm;u_op b a;u_c du b a;u_c stepG_ret' b a;u_leave1 H.f_uCas b a;u_c du b a;u_cond false b a;u_c fi b a;u_c stepG_inBlock b a;u_c stepG_inLoop b a;refine iU (λC l=>?_);replace a:=b a l;exact⟨_,rfl,by simp,by simp,a⟩
end
end Go.dG.Wg
variable{Z:dm}
namespace Go.dG.Cr
open Go.Conc Go.dG Go.dG.Kn Go.dG.Wg
open Go.ConcR (KK wgBlock WgAt stA smA mk DC0)
open Go.ConcN (sumTo upd)
section
variable{P:dq}{main:Bool}{own rd:Nat->Prop}{L:dg->Prop}
theorem vK{D:dg->dg->Array Event->Prop}{S:dm->dg->Prop}{j:ij}(k:∀w d e,D w d e->J7 own rd w d e own)(f:∀g w,S g w->j own g w):∀{m:Nat} {g:dm} {w:dg},Goes P main (ez own rd L) D S m g w->∃i,Way P main rd L j i own g w
 |0,g,w,h=>⟨.leaf,.here λa b=>f _ _ (h a b)⟩
 |m+1,g,w,h=>by
  rcases h with h|⟨l,h⟩;exact⟨.leaf,.here λa b=>f _ _ (h a b)⟩;refine Way.mk l λa b=>?_;have c:=h a b;revert c;cases n:stepG P main g a with
  |go o d e=>
   intro c;obtain⟨p,q⟩:=c;obtain⟨i,r⟩:=vK k f q;exact⟨o,d,e,own,i,rfl,k _ _ _ p,r⟩
  |_=>exactλc=>c.elim
def xJ{w:dg}{a:Array Event}(h:∀e∈a,EvW own rd w.heap.size w.heap.size e):J7 own rd w w a own:=
 ⟨rfl,rfl,rfl,dC _,λb=>⟨.inl,λh=>h.elim id λh=>by omega⟩,λ_ _ _=>rfl,h⟩
def Od(w a:dg)(b:Array Event)(h:DC0 w a b):J7 own rd w a b own:=by obtain⟨rfl,rfl⟩:=h;exact xJ λe c=>by simp at c
variable{ty:dn}{Wg Ch n:Nat}
def n9{S:ij}{w:dg}(h:∀a,ez own rd (Lv ty Wg) w a->S own Z a):Wy P ty Wg main rd S own Z w:=⟨.leaf,.here h⟩
def jh{S:dm->dg->Prop}{S':ij}{m:Nat}{w:dg}(h:Goes P main (ez own rd (Lv ty Wg)) DC0 S m Z w)(a:∀Z w,S Z w->S' own Z w):Wy P ty Wg main rd S' own Z w:=
 vK Od a h
theorem Wy.bind{S a:ij}{g:dm}{w:dg}(h:Wy P ty Wg main rd S own g w)(b:∀own g w,S own g w->Wy P ty Wg main rd a own g w):Wy P ty Wg main rd a own g w:=by obtain⟨c,h⟩:=h;exact Way.bind h b
def tU{S:dm->dg->Prop}{S':ij}{m:Nat}{w:dg}(h:Goes P main (ez own rd (Lv ty Wg)) DC0 S m Z w)(a:∀Z w,S Z w->Wy P ty Wg main rd S' own Z w):Wy P ty Wg main rd S' own Z w:=
 (jh (S':=λo Z w=>o=own/\S Z w) h λ_ _ h=>⟨rfl,h⟩).bind λo Z w ⟨e,b⟩=>by subst e;exact a Z w b
def uT{m:Mark}{a:dm->dg->Prop}{N:ij}(b:∀{k:Nat} {Z:dm} {w:dg},Goes P main (ez own rd (Lv ty Wg)) DC0 a k Z w->Wy P ty Wg main rd N own Z w){w:dg} (h:xI P main (ez own rd (Lv ty Wg)) m a Z w):pA P main m (Wy P ty Wg main rd N) own Z w:=by obtain⟨c,d,e,k,f⟩:=h;exact⟨c,d,e,b f⟩
def Fw{a:Nat->Prop}{val:Nat->di->(Nat->Prop)->dg->Prop}{i:Nat}{Next:ij}{b:dm->dg->Prop}{m:Nat}{w:dg} (h:Goes P true (ez own a (Lv ty Wg)) DC0 (xI P true (ez own a (Lv ty Wg)) .disable (Vg P true (ez own a (Lv ty Wg)) Wg ty b)) m Z w) (g:∀Z w,b Z w->Wy P ty Wg true a (Tw P ty Wg Ch a val i Next) own Z w):Wy P ty Wg true a (Sm P ty Wg Ch a val i Next) own Z w:=by
 have c:∀{k:Nat} {Z:dm} {w:dg},Goes P true (ez own a (Lv ty Wg)) DC0 (xI P true (ez own a (Lv ty Wg)) .enable b) k Z w->Wy P ty Wg true a (Tx P ty Wg Ch a val i Next) own Z w:=λh=>
  jh h λZ w h=>uT (λh=>tU h g) h
 refine jh h λZ w h=>uT (λh=>jh h λZ w ⟨j,l⟩=>⟨j,λv n o=>?_⟩) h;obtain⟨p,e,q,r⟩:=l v n o;refine⟨p,e,λd=>?_,λd=>?_⟩;obtain⟨k,f⟩:=q d;exact jh f λZ w h=>uT c h;obtain⟨k,f⟩:=r d;exact c f
def pE{m:Mark}{a:dm->dg->Prop}{N:ij}(b:∀{k:Nat} {Z:dm} {w:dg},Goes P main (ez own rd (Lv ty Wg)) DC0 a k Z w->Wy P ty Wg main rd N own Z w){w:dg} (h:Ag P main (ez own rd (Lv ty Wg)) m a Z w):pA P main m (Wy P ty Wg main rd N) own Z w:=by obtain⟨c,d,e,k,f⟩:=h;exact⟨c,d,e,b f⟩
end
end Go.dG.Cr
variable{P:dq}
namespace Go.dG.Wg
open Go.Conc Go.ConcN Go.RowKit Go.Conc.Lib Go.ConcR.Gen Go.ConcN.Gen Go.dG
open Go.ConcR (KK wgBlock WgAt stA smA mk Payload DC0)
variable{L:WgLink}
theorem lJ:∀{n a d:Nat} {g:dm},n<=a->QuitsD P n d g->QuitsD P a d g
 |0,0,_,_,_,h=>h
 |0,_+1,_,_,_,h=>.inl h
 |n+1,0,_,_,b,_=>absurd b (by omega)
 |n+1,a+1,_,_,b,h=>h.imp id λ⟨c,e,f,i,j,k⟩=>⟨c,e,f,i,j,lJ (by omega) k⟩
section
variable{Wg:Nat}{b₀:Frame}{a₀:Act}{ops₀:Array Oper}{i₀:Nat}{rest₀:List Nat}{k₀:List Item}{cs:List Frame}{qt:Nat}
def Oe{P:dq}(H:WgLib P L)(s:QuitsD P qt 0 (G (b₀.at (a₀.put ((ops₀[i₀]?).bind (·.dst)) (.tuple #[])) (.inRegion ops₀ rest₀::k₀)) cs))(w:dg)(a:True/\WgLive L.tWg Wg w):
 Goes P false (ez Cr.dE Cr.dE (Cr.Lv L.tWg Wg)) DC0 (Cr.R0 P L.tWg Wg) 40 (G ((base L.add).at ⟨#[.pointer (some ⟨Wg,0,none⟩),.int .i64 (-1)]++Array.replicate ((addFn L).ntmps-2) undef,[]⟩ [.code (body_add L)]) (b₀.at a₀ (.inRegion ops₀ (i₀::rest₀)::k₀)::cs)) w:=by
 have b:∀{w f:dg},True/\WgLive L.tWg Wg w->ez Cr.dE Cr.dE (Cr.Lv L.tWg Wg) w f->True/\WgLive L.tWg Wg f:=λh r=>⟨trivial,r.live h.2⟩;lib_facts;simp only[body_add,addFn,kF,Nat.reduceSub,Array.replicate,List.replicate];u_c dA b a;u_cond true b a;iterate 2 u_c dA b a
 u_reg b a;iterate 2 u_op b a
 u_c du b a;u_cond true b a;u_reg b a;u_op b a;u_conv H.underlying_tWgP H.room_tWg (WgLive.cell0 a.2).choose_spec b a;refine iU (λf g=>?_);replace a:=b a g;clear g;refine⟨rfl,_,stepG_markAt .releaseMerge (by simp) rfl rfl (by k_ne) rfl H.f_relMerge (x_relMerge_n L) (x_relMerge_b L) (x_relMerge_x L) (x_relMerge_f L) (by simp[Act.eval,stA]),20,?_⟩;walk_nrm;u_c du b a;u_c dA b a;u_reg b a;refine iU (λu i=>?_);replace a:=b a i;clear i;refine⟨rfl,_,stepG_mark0 .disable (by simp) rfl rfl (by k_ne) rfl H.f_disable (x_disable_n L) (x_disable_b L) (x_disable_x L) (x_disable_f L),80,?_⟩;walk_nrm;u_c du b a;u_reg b a;u_defer b a;u_c du b a;u_c dA b a;u_reg b a;u_op b a;u_c du b a;iterate 2 u_c dA b a
 u_reg b a;u_bub b a;u_c du b a;u_cond false b a;u_c fi b a;u_c dA b a;u_reg b a;iterate 6 u_op b a
 u_call H.f_uAdd (nm_uAdd L) uAddFn b a;u_c dA b a;u_reg b a;u_op b a;u_c du b a;u_c dA b a;u_reg b a;iterate 4 u_op b a
 refine iU (λe k=>?_);clear k a;refine⟨rfl,λv x A Q c=>?_⟩;have B:IntKind.u64.wrap (KK+18446744069414584320)=0:=by decide
 have C:IntKind.u64.wrap (KK+1+18446744069414584320)=1:=by decide
 rcases n4 v with rfl|D<;>(obtain rfl|rfl:x=0\/x=1:=by omega)
 ·
  replace c:WgAt L.tWg Wg e KK 0:=by simpa using c
  have z:((0:Nat):Int)*KK+((0:Nat):Int)=0:=by simp
  rw[z];refine⟨_,(stepG_add_atomic rfl rfl (by k_ne) rfl H.f_addU64 (x_addU64_n L) (x_addU64_b L) (x_addU64_x L) .u64 (x_addU64_f L) rfl rfl c.cellSt (c.thaw 0)).trans (by rw[B];rfl),λj=>absurd j.2 (by decide),λ_=>⟨qt+90,?_⟩⟩;clear c;walk_nrm;(refine QuitsD.value ?_ rfl rfl (by k_ne) (λ_=>?_) (λ_=>by simp[go_sem, *]) ?_;rotate_left;(go_simp;(try(first|omega|(w_num;omega)|w_num|decide));rfl);walk_nrm);q_c du;q_c stepG_ret';q_leave1 H.f_uAdd;(refine QuitsD.value ?_ rfl rfl (by k_ne) (λ_=>?_) (λ_=>by simp[go_sem, *]) ?_;rotate_left;(go_simp;(try(first|omega|(w_num;omega)|w_num|decide));rfl);walk_nrm);q_c du;iterate 2 q_c dA
  q_reg;iterate 4 (refine QuitsD.value ?_ rfl rfl (by k_ne) (λ_=>?_) (λ_=>by simp[go_sem, *]) ?_;rotate_left;(go_simp;(try(first|omega|(w_num;omega)|w_num|decide));rfl);walk_nrm)
  iterate 2 q_skip
  (refine QuitsD.value ?_ rfl rfl (by k_ne) (λ_=>?_) (λ_=>by simp[go_sem, *]) ?_;rotate_left;(go_simp;(try(first|omega|(w_num;omega)|w_num|decide));rfl);walk_nrm);q_c du;q_cond false;q_c fi;q_c dA;q_reg;iterate 4 (refine QuitsD.value ?_ rfl rfl (by k_ne) (λ_=>?_) (λ_=>by simp[go_sem, *]) ?_;rotate_left;(go_simp;(try(first|omega|(w_num;omega)|w_num|decide));rfl);walk_nrm)
  q_c du;q_c dA;q_reg;iterate 4 (refine QuitsD.value ?_ rfl rfl (by k_ne) (λ_=>?_) (λ_=>by simp[go_sem, *]) ?_;rotate_left;(go_simp;(try(first|omega|(w_num;omega)|w_num|decide));rfl);walk_nrm)
  q_c du;iterate 2 q_c dA
  q_reg;iterate 5 (refine QuitsD.value ?_ rfl rfl (by k_ne) (λ_=>?_) (λ_=>by simp[go_sem, *]) ?_;rotate_left;(go_simp;(try(first|omega|(w_num;omega)|w_num|decide));rfl);walk_nrm)
  iterate 4 q_skip
  (refine QuitsD.value ?_ rfl rfl (by k_ne) (λ_=>?_) (λ_=>by simp[go_sem, *]) ?_;rotate_left;(go_simp;(try(first|omega|(w_num;omega)|w_num|decide));rfl);walk_nrm);q_c du;q_cond false;q_c fi;iterate 2 q_c dA
  q_reg;iterate 2 (refine QuitsD.value ?_ rfl rfl (by k_ne) (λ_=>?_) (λ_=>by simp[go_sem, *]) ?_;rotate_left;(go_simp;(try(first|omega|(w_num;omega)|w_num|decide));rfl);walk_nrm)
  q_c du;q_cond false;q_c fi;iterate 2 q_c dA
  q_reg;iterate 3 (refine QuitsD.value ?_ rfl rfl (by k_ne) (λ_=>?_) (λ_=>by simp[go_sem, *]) ?_;rotate_left;(go_simp;(try(first|omega|(w_num;omega)|w_num|decide));rfl);walk_nrm)
  iterate 2 q_skip
  iterate 2 (refine QuitsD.value ?_ rfl rfl (by k_ne) (λ_=>?_) (λ_=>by simp[go_sem, *]) ?_;rotate_left;(go_simp;(try(first|omega|(w_num;omega)|w_num|decide));rfl);walk_nrm)
  iterate 4 q_skip
  (refine QuitsD.value ?_ rfl rfl (by k_ne) (λ_=>?_) (λ_=>by simp[go_sem, *]) ?_;rotate_left;(go_simp;(try(first|omega|(w_num;omega)|w_num|decide));rfl);walk_nrm);q_c du;q_cond false;q_c fi;iterate 2 q_c dA
  q_reg;iterate 6 (refine QuitsD.value ?_ rfl rfl (by k_ne) (λ_=>?_) (λ_=>by simp[go_sem, *]) ?_;rotate_left;(go_simp;(try(first|omega|(w_num;omega)|w_num|decide));rfl);walk_nrm)
  q_c du;q_cond true;q_c stepG_ret';q_enable;q_leave0 H.f_add;exact lJ (by omega) s
 ·
  replace c:WgAt L.tWg Wg e (KK+1) 0:=by simpa using c
  have z:((0:Nat):Int)*KK+((1:Nat):Int)=1:=by simp
  rw[z];refine⟨_,(stepG_add_atomic rfl rfl (by k_ne) rfl H.f_addU64 (x_addU64_n L) (x_addU64_b L) (x_addU64_x L) .u64 (x_addU64_f L) rfl rfl c.cellSt (c.thaw 0)).trans (by rw[C];rfl),λ_=>⟨150,?_⟩,λj=>absurd ⟨rfl,rfl⟩ j⟩;have a:True/\WgLive L.tWg Wg (e.setCell (stA Wg) (.int .u64 1)):=⟨trivial,_,_,c.setSt 1⟩;clear c;walk_nrm;u_op b a;u_c du b a;u_c stepG_ret' b a;u_leave1 H.f_uAdd b a;u_op b a;u_c du b a;iterate 2 u_c dA b a
  u_reg b a;iterate 4 u_op b a
  iterate 2 u_skip b a
  u_op b a;u_c du b a;u_cond false b a;u_c fi b a;u_c dA b a;u_reg b a;iterate 4 u_op b a
  u_c du b a;u_c dA b a;u_reg b a;iterate 4 u_op b a
  u_c du b a;iterate 2 u_c dA b a
  u_reg b a;iterate 5 u_op b a
  iterate 4 u_skip b a
  u_op b a;u_c du b a;u_cond false b a;u_c fi b a;iterate 2 u_c dA b a
  u_reg b a;iterate 2 u_op b a
  u_c du b a;u_cond false b a;u_c fi b a;iterate 2 u_c dA b a
  u_reg b a;iterate 7 u_op b a
  iterate 4 u_skip b a
  u_op b a;u_c du b a;u_cond false b a;u_c fi b a;iterate 2 u_c dA b a
  u_reg b a;iterate 6 u_op b a
  u_c du b a;u_cond false b a;u_c fi b a;iterate 2 u_c dA b a
  u_reg b a;iterate 3 u_op b a
  u_call H.f_uLoad (nm_uLoad L) uLoadFn b a;u_c dA b a;u_reg b a;u_op b a;u_c du b a;u_c dA b a;u_reg b a;iterate 3 u_op b a
  refine iU (λl m=>?_);clear m a;refine⟨rfl,λc=>⟨_,stepG_load_atomic rfl rfl (by k_ne) rfl H.f_loadU64 (x_loadU64_n L) (x_loadU64_b L) (x_loadU64_x L) .u64 (x_loadU64_f L) rfl c.cellSt,60,?_⟩⟩;have a:True/\WgLive L.tWg Wg l:=⟨trivial,_,_,c⟩;clear c;walk_nrm;u_op b a;u_c du b a;u_c stepG_ret' b a;u_leave1 H.f_uLoad b a;iterate 2 u_op b a
  u_c du b a;u_cond false b a;u_c fi b a;u_c dA b a;u_reg b a;iterate 3 u_op b a
  u_call H.f_uStore (nm_uStore L) uStoreFn b a;u_reg b a;iterate 4 u_op b a
  refine iU (λn o=>?_);clear o a;refine⟨rfl,λc=>⟨_,stepG_store_atomic rfl rfl (by k_ne) rfl H.f_storeU64 (x_storeU64_n L) (x_storeU64_b L) (x_storeU64_x L) (x_storeU64_f L) rfl rfl c.cellSt (c.thaw 0),60,?_⟩⟩;have a:True/\WgLive L.tWg Wg (n.setCell (stA Wg) (.int .u64 0)):=⟨trivial,_,_,c.setSt 0⟩;clear c;walk_nrm;u_c du b a;u_c stepG_end b a;u_leave0 H.f_uStore b a;u_c du b a;iterate 2 u_c dA b a
  u_reg b a;u_op b a;u_c du b a;u_cond false b a;u_c fi b a;u_c qA b a;u_c stepG_loop b a;iterate 2 u_c dA b a
  u_reg b a;iterate 2 u_op b a
  u_c du b a;u_cond true b a;u_c fi b a;u_c dA b a;u_c qA b a;u_reg b a;iterate 3 u_op b a
  refine iU (λy p=>?_);clear p a;refine⟨rfl,mayWake_entry rfl rfl H.f_semrelease (x_semrelease_b L),λc=>⟨_,(stepG_semrelease rfl rfl (by k_ne) rfl H.f_semrelease (x_semrelease_n L) (x_semrelease_b L) (x_semrelease_x L) (x_semrelease_f L) (by simp[Act.eval,smA]) c.cellSm (c.thaw 1)).trans (by rfl),qt+40,?_⟩⟩;clear c;walk_nrm;q_c du;q_c stepG_inBlock;q_reg;iterate 3 (refine QuitsD.value ?_ rfl rfl (by k_ne) (λ_=>?_) (λ_=>by simp[go_sem, *]) ?_;rotate_left;(go_simp;(try(first|omega|(w_num;omega)|w_num|decide));rfl);walk_nrm)
  q_c du;q_c stepG_inLoop;iterate 2 q_c dA
  q_reg;iterate 2 (refine QuitsD.value ?_ rfl rfl (by k_ne) (λ_=>?_) (λ_=>by simp[go_sem, *]) ?_;rotate_left;(go_simp;(try(first|omega|(w_num;omega)|w_num|decide));rfl);walk_nrm)
  q_c du;q_cond false;q_exit;q_c stepG_end;q_enable;q_leave0 H.f_add;exact lJ (by omega) s
 ·
  replace c:WgAt L.tWg Wg e (((v:Nat)+1)*KK+0) 0:=by simpa using c
  have z:((v:Nat):Int)*KK+((0:Nat):Int)=(v:Int)*KK+0:=by simp
  rw[z];have t:0<v:=by omega
  have q:IntKind.u64.wrap (((v:Nat)+1)*KK+0+18446744069414584320)=(v:Int)*KK+0:=by rw[IntKind.wrap_u64];simp only[KK];omega
  obtain⟨S,d⟩:∃S:Int,S=(v:Int)*KK+0:=⟨_,rfl⟩;rw[<-d]at q⊢;have E:S/4294967296=(v:Int):=by rw[d];simp only[KK];omega
  have F:bits .and .u64 S 2147483648=0:=by rw[d];have:=st_flag v 0 (by omega) (by omega);simpa[KK]using this
  have I:bits .and .u64 S 2147483647=0:=by rw[d];have:=st_waiters v 0 (by omega) (by omega);simpa[KK]using this
  have J:IntKind.i32.wrap (v:Int)=(v:Int):=by rw[IntKind.wrap_i32];omega
  have K:decide ((v:Int)<0)=false:=kg (by omega);have M:decide (0<(v:Int))=true:=decide_eq_true (by omega);have N:((v:Int)==0)=false:=by simp;omega
  have O:decide ((v:Int)=0)=false:=kg (by omega);clear d z;refine⟨_,(stepG_add_atomic rfl rfl (by k_ne) rfl H.f_addU64 (x_addU64_n L) (x_addU64_b L) (x_addU64_x L) .u64 (x_addU64_f L) rfl rfl c.cellSt (c.thaw 0)).trans (by rw[q];rfl),λj=>absurd j.1 (by omega),λ_=>⟨qt+90,?_⟩⟩;clear c;walk_nrm;(refine QuitsD.value ?_ rfl rfl (by k_ne) (λ_=>?_) (λ_=>by simp[go_sem, *]) ?_;rotate_left;(go_simp;(try(first|omega|(w_num;omega)|w_num|decide));rfl);walk_nrm);q_c du;q_c stepG_ret';q_leave1 H.f_uAdd;(refine QuitsD.value ?_ rfl rfl (by k_ne) (λ_=>?_) (λ_=>by simp[go_sem, *]) ?_;rotate_left;(go_simp;(try(first|omega|(w_num;omega)|w_num|decide));rfl);walk_nrm);q_c du;iterate 2 q_c dA
  q_reg;iterate 4 (refine QuitsD.value ?_ rfl rfl (by k_ne) (λ_=>?_) (λ_=>by simp[go_sem, *]) ?_;rotate_left;(go_simp;(try(first|omega|(w_num;omega)|w_num|decide));rfl);walk_nrm)
  iterate 2 q_skip
  (refine QuitsD.value ?_ rfl rfl (by k_ne) (λ_=>?_) (λ_=>by simp[go_sem, *]) ?_;rotate_left;(go_simp;(try(first|omega|(w_num;omega)|w_num|decide));rfl);walk_nrm);q_c du;q_cond false;q_c fi;q_c dA;q_reg;iterate 4 (refine QuitsD.value ?_ rfl rfl (by k_ne) (λ_=>?_) (λ_=>by simp[go_sem, *]) ?_;rotate_left;(go_simp;(try(first|omega|(w_num;omega)|w_num|decide));rfl);walk_nrm)
  q_c du;q_c dA;q_reg;iterate 4 (refine QuitsD.value ?_ rfl rfl (by k_ne) (λ_=>?_) (λ_=>by simp[go_sem, *]) ?_;rotate_left;(go_simp;(try(first|omega|(w_num;omega)|w_num|decide));rfl);walk_nrm)
  q_c du;iterate 2 q_c dA
  q_reg;iterate 5 (refine QuitsD.value ?_ rfl rfl (by k_ne) (λ_=>?_) (λ_=>by simp[go_sem, *]) ?_;rotate_left;(go_simp;(try(first|omega|(w_num;omega)|w_num|decide));rfl);walk_nrm)
  iterate 4 q_skip
  (refine QuitsD.value ?_ rfl rfl (by k_ne) (λ_=>?_) (λ_=>by simp[go_sem, *]) ?_;rotate_left;(go_simp;(try(first|omega|(w_num;omega)|w_num|decide));rfl);walk_nrm);q_c du;q_cond false;q_c fi;iterate 2 q_c dA
  q_reg;iterate 2 (refine QuitsD.value ?_ rfl rfl (by k_ne) (λ_=>?_) (λ_=>by simp[go_sem, *]) ?_;rotate_left;(go_simp;(try(first|omega|(w_num;omega)|w_num|decide));rfl);walk_nrm)
  q_c du;q_cond false;q_c fi;iterate 2 q_c dA
  q_reg;iterate 3 (refine QuitsD.value ?_ rfl rfl (by k_ne) (λ_=>?_) (λ_=>by simp[go_sem, *]) ?_;rotate_left;(go_simp;(try(first|omega|(w_num;omega)|w_num|decide));rfl);walk_nrm)
  iterate 2 q_skip
  iterate 2 (refine QuitsD.value ?_ rfl rfl (by k_ne) (λ_=>?_) (λ_=>by simp[go_sem, *]) ?_;rotate_left;(go_simp;(try(first|omega|(w_num;omega)|w_num|decide));rfl);walk_nrm)
  iterate 4 q_skip
  (refine QuitsD.value ?_ rfl rfl (by k_ne) (λ_=>?_) (λ_=>by simp[go_sem, *]) ?_;rotate_left;(go_simp;(try(first|omega|(w_num;omega)|w_num|decide));rfl);walk_nrm);q_c du;q_cond false;q_c fi;iterate 2 q_c dA
  q_reg;iterate 3 (refine QuitsD.value ?_ rfl rfl (by k_ne) (λ_=>?_) (λ_=>by simp[go_sem, *]) ?_;rotate_left;(go_simp;(try(first|omega|(w_num;omega)|w_num|decide));rfl);walk_nrm)
  iterate 2 q_skip
  (refine QuitsD.value ?_ rfl rfl (by k_ne) (λ_=>?_) (λ_=>by simp[go_sem, *]) ?_;rotate_left;(go_simp;(try(first|omega|(w_num;omega)|w_num|decide));rfl);walk_nrm);q_c du;q_cond true;q_c stepG_ret';q_enable;q_leave0 H.f_add;exact lJ (by omega) s
 ·
  replace c:WgAt L.tWg Wg e (((v:Nat)+1)*KK+1) 0:=by simpa using c
  have z:((v:Nat):Int)*KK+((1:Nat):Int)=(v:Int)*KK+1:=by simp
  rw[z];have t:0<v:=by omega
  have q:IntKind.u64.wrap (((v:Nat)+1)*KK+1+18446744069414584320)=(v:Int)*KK+1:=by rw[IntKind.wrap_u64];simp only[KK];omega
  obtain⟨S,d⟩:∃S:Int,S=(v:Int)*KK+1:=⟨_,rfl⟩;rw[<-d]at q⊢;have E:S/4294967296=(v:Int):=by rw[d];simp only[KK];omega
  have F:bits .and .u64 S 2147483648=0:=by rw[d];have:=st_flag v 1 (by omega) (by omega);simpa[KK]using this
  have I:bits .and .u64 S 2147483647=1:=by rw[d];have:=st_waiters v 1 (by omega) (by omega);simpa[KK]using this
  have J:IntKind.i32.wrap (v:Int)=(v:Int):=by rw[IntKind.wrap_i32];omega
  have K:decide ((v:Int)<0)=false:=kg (by omega);have M:decide (0<(v:Int))=true:=decide_eq_true (by omega);have N:((v:Int)==0)=false:=by simp;omega
  have O:decide ((v:Int)=0)=false:=kg (by omega);clear d z;refine⟨_,(stepG_add_atomic rfl rfl (by k_ne) rfl H.f_addU64 (x_addU64_n L) (x_addU64_b L) (x_addU64_x L) .u64 (x_addU64_f L) rfl rfl c.cellSt (c.thaw 0)).trans (by rw[q];rfl),λj=>absurd j.1 (by omega),λ_=>⟨qt+90,?_⟩⟩;clear c;walk_nrm;(refine QuitsD.value ?_ rfl rfl (by k_ne) (λ_=>?_) (λ_=>by simp[go_sem, *]) ?_;rotate_left;(go_simp;(try(first|omega|(w_num;omega)|w_num|decide));rfl);walk_nrm);q_c du;q_c stepG_ret';q_leave1 H.f_uAdd;(refine QuitsD.value ?_ rfl rfl (by k_ne) (λ_=>?_) (λ_=>by simp[go_sem, *]) ?_;rotate_left;(go_simp;(try(first|omega|(w_num;omega)|w_num|decide));rfl);walk_nrm);q_c du;iterate 2 q_c dA
  q_reg;iterate 4 (refine QuitsD.value ?_ rfl rfl (by k_ne) (λ_=>?_) (λ_=>by simp[go_sem, *]) ?_;rotate_left;(go_simp;(try(first|omega|(w_num;omega)|w_num|decide));rfl);walk_nrm)
  iterate 2 q_skip
  (refine QuitsD.value ?_ rfl rfl (by k_ne) (λ_=>?_) (λ_=>by simp[go_sem, *]) ?_;rotate_left;(go_simp;(try(first|omega|(w_num;omega)|w_num|decide));rfl);walk_nrm);q_c du;q_cond false;q_c fi;q_c dA;q_reg;iterate 4 (refine QuitsD.value ?_ rfl rfl (by k_ne) (λ_=>?_) (λ_=>by simp[go_sem, *]) ?_;rotate_left;(go_simp;(try(first|omega|(w_num;omega)|w_num|decide));rfl);walk_nrm)
  q_c du;q_c dA;q_reg;iterate 4 (refine QuitsD.value ?_ rfl rfl (by k_ne) (λ_=>?_) (λ_=>by simp[go_sem, *]) ?_;rotate_left;(go_simp;(try(first|omega|(w_num;omega)|w_num|decide));rfl);walk_nrm)
  q_c du;iterate 2 q_c dA
  q_reg;iterate 5 (refine QuitsD.value ?_ rfl rfl (by k_ne) (λ_=>?_) (λ_=>by simp[go_sem, *]) ?_;rotate_left;(go_simp;(try(first|omega|(w_num;omega)|w_num|decide));rfl);walk_nrm)
  iterate 4 q_skip
  (refine QuitsD.value ?_ rfl rfl (by k_ne) (λ_=>?_) (λ_=>by simp[go_sem, *]) ?_;rotate_left;(go_simp;(try(first|omega|(w_num;omega)|w_num|decide));rfl);walk_nrm);q_c du;q_cond false;q_c fi;iterate 2 q_c dA
  q_reg;iterate 2 (refine QuitsD.value ?_ rfl rfl (by k_ne) (λ_=>?_) (λ_=>by simp[go_sem, *]) ?_;rotate_left;(go_simp;(try(first|omega|(w_num;omega)|w_num|decide));rfl);walk_nrm)
  q_c du;q_cond false;q_c fi;iterate 2 q_c dA
  q_reg;iterate 7 (refine QuitsD.value ?_ rfl rfl (by k_ne) (λ_=>?_) (λ_=>by simp[go_sem, *]) ?_;rotate_left;(go_simp;(try(first|omega|(w_num;omega)|w_num|decide));rfl);walk_nrm)
  iterate 4 q_skip
  (refine QuitsD.value ?_ rfl rfl (by k_ne) (λ_=>?_) (λ_=>by simp[go_sem, *]) ?_;rotate_left;(go_simp;(try(first|omega|(w_num;omega)|w_num|decide));rfl);walk_nrm);q_c du;q_cond false;q_c fi;iterate 2 q_c dA
  q_reg;iterate 3 (refine QuitsD.value ?_ rfl rfl (by k_ne) (λ_=>?_) (λ_=>by simp[go_sem, *]) ?_;rotate_left;(go_simp;(try(first|omega|(w_num;omega)|w_num|decide));rfl);walk_nrm)
  iterate 2 q_skip
  (refine QuitsD.value ?_ rfl rfl (by k_ne) (λ_=>?_) (λ_=>by simp[go_sem, *]) ?_;rotate_left;(go_simp;(try(first|omega|(w_num;omega)|w_num|decide));rfl);walk_nrm);q_c du;q_cond true;q_c stepG_ret';q_enable;q_leave0 H.f_add;exact lJ (by omega) s
end
end Go.dG.Wg
variable{h:Go.Addr}{O Q:Go.Obj}
namespace Go.dG.Cr
open Go.Conc Go.dG Go.dG.Kn Go.dG.Wg
open Go.ConcR (KK wgBlock WgAt stA smA mk DC0)
section
variable{P:dq}{main:Bool}{own rd:Nat->Prop}{ty:dn}{Wg:Nat}{S:ij}{g g':dm}{w:dg} {b:Frame}{a:Act}{k:List Item}{cs:List Frame}{ops:Array Oper}{i:Nat}{rest:List Nat}{o:Oper}{v:di}
def kV(f:g.status=.running)(h:∀b,ez own rd (Lv ty Wg) w b->∃g' c d a,stepG P main g b=.go g' c d/\J7 own rd b c d a/\Wy P ty Wg main rd S a g' c):Wy P ty Wg main rd S own g w:=by refine Way.mk f λb i=>?_;obtain⟨g',c,d,a,e,j,k,l⟩:=h b i;exact⟨g',c,d,a,k,e,j,l⟩
def K3(b:g.status=.running)(h:∀w,stepG P main g w=.go g' w #[])(c:∀a,ez own rd (Lv ty Wg) w a->Wy P ty Wg main rd S own g' a):Wy P ty Wg main rd S own g w:=
 kV b λa d=>⟨g',a,#[],own,h a,xJ λe f=>by simp at f,c a d⟩
def K4(d:ops[i]? =some o)(e:Region.wanted o (yielded ops a.tmps)=true)(f:b.kind≠ .early)(g:∀w,(execOp a.eval o).run P w=.ok (.value v) w)(h:∀w,(execOp a.eval o).events P w #[]=#[]) (j:∀c,ez own rd (Lv ty Wg) w c->Wy P ty Wg main rd S own (G (b.at (a.put o.dst v) (.inRegion ops rest::k)) cs) c):Wy P ty Wg main rd S own (G (b.at a (.inRegion ops (i::rest)::k)) cs) w:=
 K3 rfl (λw=>by rw[stepG_value d e f (g w)];unfold listed;rw[h w,seen_none]) j
def Of(d:ops[i]? =some o)(f:Region.wanted o (yielded ops a.tmps)=true)(g:b.kind≠ .early) (h:∀c,ez own rd (Lv ty Wg) w c->(execOp a.eval o).run P c=.ok (.value v) c/\(∀e∈listed P b.fn a o c,EvW own rd c.heap.size c.heap.size e)/\Wy P ty Wg main rd S own (G (b.at (a.put o.dst v) (.inRegion ops rest::k)) cs) c):Wy P ty Wg main rd S own (G (b.at a (.inRegion ops (i::rest)::k)) cs) w:=
 kV rfl λc j=>by obtain⟨l,m,n⟩:=h c j;exact⟨_,c,_,own,stepG_value d f g l,xJ m,n⟩
def QU{ob:Obj}(g:ops[i]? =some o)(j:Region.wanted o (yielded ops a.tmps)=true)(l:b.kind≠ .early) (h:∀c,ez own rd (Lv ty Wg) w c->∃v d,(execOp a.eval o).run P c=.ok (.value v) d/\d.tape=c.tape/\d.os=c.os/\d.output=c.output/\d.heap=c.heap.push ob/\(∀e∈listed P b.fn a o c,EvW own rd c.heap.size d.heap.size e)/\
  Wy P ty Wg main rd S (λx=>own x\/x=c.heap.size) (G (b.at (a.put o.dst v) (.inRegion ops rest::k)) cs) d):Wy P ty Wg main rd S own (G (b.at a (.inRegion ops (i::rest)::k)) cs) w:=
 kV rfl λc m=>by obtain⟨v,d,n,p,q,r,f,s,t⟩:=h c m;refine⟨_,d,_,_,stepG_value g j l n,⟨p,q,r,by rw[f];simp,λx=>?_,λx u _=>?_,s⟩,t⟩;rw[f,Array.size_push];constructor;rintro(h|h);exact .inl h;exact .inr (by omega);rintro(h|h);exact .inl h;exact .inr (by omega);rw[f,nX];split;rename_i e;omega;rfl
def CG{ad:Addr}{x:di}(m:ops[i]? =some o)(n:Region.wanted o (yielded ops a.tmps)=true)(p:b.kind≠ .early)(g:own ad.block) (h:∀d,ez own rd (Lv ty Wg) w d->∃f,(execOp a.eval o).run P d=.ok .skip f/\f.tape=d.tape/\f.os=d.os/\f.output=d.output/\f.heap.size=d.heap.size/\(∀c,c≠ad.block->f.heap[c]? =d.heap[c]?)/\(∀e∈listed P b.fn a o d,EvW own rd d.heap.size d.heap.size e)/\Wy P ty Wg main rd S own (G (b.at (a.put o.dst undef) (.inRegion ops rest::k)) cs) f):Wy P ty Wg main rd S own (G (b.at a (.inRegion ops (i::rest)::k)) cs) w:=
 kV rfl λd q=>by obtain⟨f,r,s,t,u,j,v,z,A⟩:=h d q;refine⟨_,f,_,_,stepG_none m n p r,⟨s,t,u,by rw[j];exact dC _,λy=>?_,λy B l=>v y (λe=>l (e▸g)),by rw[j];exact z⟩,A⟩;rw[j];exact⟨.inl,λh=>h.elim id λh=>by omega⟩
def _root_.Go.dG.ez.cell{L:dg->Prop}{d:dg}(f:ez own rd L w d)(g:own h.block\/rd h.block)(a:w.cell? h=some v):d.cell? h=some v:=by
 have b:h.block<w.heap.size:=by refine xr λc=>?_;have:w.heap[h.block]? =none:=lY c;simp[World.cell?,this]at a
 have e:=f.heap h.block b g;unfold World.cell? at a⊢;rw[e];exact a
def _root_.Go.dG.ez.obj{L:dg->Prop}{a:dg}(h:ez own rd L w a){c:Nat}(d:own c\/rd c)(b:w.heap[c]? =some O):a.heap[c]? =some O:=by rw[h.heap c (lt_of_heap b) d];exact b
end
end Go.dG.Cr
namespace Go.Proofs.W
open Go.Conc Go.dG Go.dG.Cr Go.dG.Wg Go.RowKit Go.Conc.Lib Go.ConcR.Gen
open Go.ConcR (KK wgBlock WgAt stA smA mk DC0)
open Go.Proofs (Tryz.prog)
noncomputable abbrev PR:dq:=Tryz.prog
noncomputable def CH:Frame:=baseD 188
noncomputable def Bf:Code:=Tryz.f188.body.getD .skip
noncomputable def CI(a b c d:Nat):Array di:=#[.pointer (some ⟨d,0,none⟩),.pointer (some ⟨a,0,none⟩),.pointer (some ⟨b,0,none⟩),.pointer (some ⟨c,0,none⟩)]
noncomputable def call188(a b c d:Nat):Deferred:={target:=.fn (.func 188) (CI a b c d),args:=#[]}
noncomputable def bot:Frame:={(default:Frame)with fn:=PR.funcs.size,defers:=[],mode:=.panicking [goexitEntry]}
def ID(a b c d:Nat)(w:dg):stepG PR false (born PR (call188 a b c d)) w=.go (G (CH.at ⟨CI a b c d++Array.replicate 14 undef,[]⟩ [.code Bf]) [bot]) w #[]:=by simp[born,call188,CI,stepG,unwind,callDeferred,invoke,callFunc,Tryz.func188,Tryz.f188,seen,GStep.after,G,Frame.enter,Frame.at,CH,baseD,bot,Bf]
end Go.Proofs.W
namespace Go.dG.Cr
open Go.Conc Go.dG Go.dG.Kn Go.dG.Wg
open Go.ConcR (KK wgBlock WgAt stA smA mk DC0)
section
variable{P:dq}{main:Bool}{own rd:Nat->Prop}{ty:dn}{Wg:Nat}{S:ij}{K:dg->Prop}{g g':dm} {b:Frame}{a:Act}{k:List Item}{cs:List Frame}{ops:Array Oper}{i:Nat}{rest:List Nat}{o:Oper}{v:di}
def WK(P:dq)(ty:dn)(Wg:Nat)(main:Bool)(rd:Nat->Prop)(S:ij)(own:Nat->Prop)(K:dg->Prop)(g:dm):Prop:=∀w,K w->Wy P ty Wg main rd S own g w
def nU(own rd:Nat->Prop)(L:dg->Prop)(K:dg->Prop):Prop:=∀w a,ez own rd L w a->K w->K a
def WK.step(b:nU own rd (Lv ty Wg) K)(f:g.status=.running)(h:∀w,K w->∃g' c d a,stepG P main g w=.go g' c d/\J7 own rd w c d a/\Wy P ty Wg main rd S a g' c):WK P ty Wg main rd S own K g:=
 λw i=>kV f λe j=>h e (b w e j i)
def WK.ctl(a:nU own rd (Lv ty Wg) K)(c:g.status=.running)(h:∀w,stepG P main g w=.go g' w #[])(d:WK P ty Wg main rd S own K g'):WK P ty Wg main rd S own K g:=
 λw e=>K3 c h λb f=>d b (a w b f e)
def WK.val(c:nU own rd (Lv ty Wg) K)(e:ops[i]? =some o)(f:Region.wanted o (yielded ops a.tmps)=true)(g:b.kind≠ .early)(h:∀w,(execOp a.eval o).run P w=.ok (.value v) w)(j:∀w,(execOp a.eval o).events P w #[]=#[]) (l:WK P ty Wg main rd S own K (G (b.at (a.put o.dst v) (.inRegion ops rest::k)) cs)):WK P ty Wg main rd S own K (G (b.at a (.inRegion ops (i::rest)::k)) cs):=
 λw m=>K4 e f g h j λd n=>l d (c w d n m)
def WK.load(c:nU own rd (Lv ty Wg) K)(h:ops[i]? =some o)(j:Region.wanted o (yielded ops a.tmps)=true)(l:b.kind≠ .early) (m:∀w,K w->(execOp a.eval o).run P w=.ok (.value v) w)(n:∀w,K w->∀e∈(execOp a.eval o).events P w #[],EvW own rd w.heap.size w.heap.size e) (p:WK P ty Wg main rd S own K (G (b.at (a.put o.dst v) (.inRegion ops rest::k)) cs)):WK P ty Wg main rd S own K (G (b.at a (.inRegion ops (i::rest)::k)) cs):=
 λw f=>Of h j l λd g=>⟨m d (c w d g f),λe q=>n d (c w d g f) e (mem_listed q),p d (c w d g f)⟩
def WK.new{ob:Obj}{f:Nat->di}(j:nU own rd (Lv ty Wg) K)(l:ops[i]? =some o)(m:Region.wanted o (yielded ops a.tmps)=true)(n:b.kind≠ .early) (p:∀w,K w->(execOp a.eval o).run P w=.ok (.value (f w.heap.size)) {w with heap:=w.heap.push ob})
 (q:∀w,K w->∀e∈(execOp a.eval o).events P w #[],EvW own rd w.heap.size (w.heap.size+1) e) (r:∀c,WK P ty Wg main rd S (λx=>own x\/x=c) (λw=>∃h,K h/\c=h.heap.size/\ez (λx=>own x\/x=c) rd (Lv ty Wg) {h with heap:=h.heap.push ob} w) (G (b.at (a.put o.dst (f c)) (.inRegion ops rest::k)) cs)):
 WK P ty Wg main rd S own K (G (b.at a (.inRegion ops (i::rest)::k)) cs):=
 λw s=>QU (ob:=ob) l m n λg t=>by have d:=j w g t s;exact⟨_,_,p g d,rfl,rfl,rfl,rfl,λe u=>by have:=q g d e (mem_listed u);simpa using this,r g.heap.size _ ⟨g,d,rfl,.refl _ _ _ _⟩⟩
def eU(w:dg)(a:Addr)(u:di)(k:Nat)(h:k≠a.block):(w.setCell a u).heap[k]? =w.heap[k]? :=by simp only[World.setCell,nd];rw[dp (by omega)]
def WK.store{ad:Addr}{x:di}(h:nU own rd (Lv ty Wg) K)(l:ops[i]? =some o)(m:Region.wanted o (yielded ops a.tmps)=true)(n:b.kind≠ .early)(f:own ad.block) (p:∀w,K w->(execOp a.eval o).run P w=.ok .skip (w.setCell ad x))(q:∀w,K w->∀e∈(execOp a.eval o).events P w #[],EvW own rd w.heap.size w.heap.size e)
 (r:WK P ty Wg main rd S own (λw=>∃j,K j/\ez own rd (Lv ty Wg) (j.setCell ad x) w) (G (b.at (a.put o.dst undef) (.inRegion ops rest::k)) cs)):
 WK P ty Wg main rd S own K (G (b.at a (.inRegion ops (i::rest)::k)) cs):=
 λw s=>CG l m n f (x:=x) λg t=>by have d:=h w g t s;exact⟨_,p g d,by simp[World.setCell],by simp[World.setCell],by simp[World.setCell],by simp[World.setCell],λc u=>eU g ad x c u,λe v=>q g d e (mem_listed v),r _ ⟨g,d,.refl _ _ _ _⟩⟩
def WK.write{W:dg->dg->Prop}{bl:Nat}(l:nU own rd (Lv ty Wg) K)(p:ops[i]? =some o)(q:Region.wanted o (yielded ops a.tmps)=true)(r:b.kind≠ .early)(h:own bl) (s:∀w,K w->∃d,(execOp a.eval o).run P w=.ok .skip d/\d.tape=w.tape/\d.os=w.os/\d.output=w.output/\d.heap.size=w.heap.size/\(∀c,c≠bl->d.heap[c]? =w.heap[c]?)/\W w d) (t:∀w,K w->∀e∈(execOp a.eval o).events P w #[],EvW own rd w.heap.size w.heap.size e)
 (u:WK P ty Wg main rd S own (λw=>∃j f,K j/\W j f/\f.heap.size=j.heap.size/\(∀c,c≠bl->f.heap[c]? =j.heap[c]?)/\ez own rd (Lv ty Wg) f w) (G (b.at (a.put o.dst undef) (.inRegion ops rest::k)) cs)):
 WK P ty Wg main rd S own K (G (b.at a (.inRegion ops (i::rest)::k)) cs):=
 λw v=>CG p q r (ad:=⟨bl,0,none⟩) (x:=undef) h λf y=>by have g:=l w f y v;obtain⟨d,z,A,B,C,m,n,D⟩:=s f g;exact⟨d,z,A,B,C,m,n,λe E=>t f g e (mem_listed E),u _ ⟨f,d,g,D,m,n,.refl _ _ _ _⟩⟩
def WK.mono{K':dg->Prop}(h:WK P ty Wg main rd S own K' g)(a:∀w,K w->K' w):WK P ty Wg main rd S own K g:=λw b=>h w (a w b)
def WK.stop(a:nU own rd (Lv ty Wg) K)(h:∀w,K w->S own g w):WK P ty Wg main rd S own K g:=λw c=>n9 λb d=>h b (a w b d c)
def Og{L:dg->Prop}{c:Nat}(a:own c\/rd c):nU own rd L λw=>w.heap[c]? =some O:=λ_ _ b h=>b.obj a h
def Hi{L:dg->Prop}{a:dg->Prop}(h:nU own rd L K)(e:nU own rd L a):nU own rd L λw=>K w/\a w:=λw b c d=>⟨h w b c d.1,e w b c d.2⟩
end
end Go.dG.Cr
variable{R:Go.dG.dV}
namespace Go.dG.Cr
open Go.Conc Go.dG Go.dG.Kn Go.dG.Wg
open Go.ConcR (KK wgBlock WgAt stA smA mk DC0)
section
variable{P:dq}{main:Bool}{own rd:Nat->Prop}{ty:dn}{Wg:Nat}{S:ij}{K:dg->Prop}{g g':dm} {b:Frame}{a:Act}{k:List Item}{cs:List Frame}{ops:Array Oper}{i:Nat}{rest:List Nat}{o:Oper}{v:di}
theorem WK.enter{f:FuncId}{fn:Func}{c:Code}{args:Array Operand}{Wc:Array TypeId}(NL:nU own rd (Lv ty Wg) K) (ho:ops[i]? =some o)(hw:Region.wanted o (yielded ops a.tmps)=true)(hk:b.kind≠ .early)(Tr:o.op=.call {callee:=.value (.func f),args,argTypes:=Wc}) (hf:P.funcs[f]? =some fn)(PW:(fn.name== "runtime.NumGoroutine")=false)(hb:fn.body=some c) (h:WK P ty Wg main rd S own K (G (Frame.enter P f (args.map a.eval) .normal) (b.at a (.inRegion ops (i::rest)::k)::cs))):WK P ty Wg main rd S own K (G (b.at a (.inRegion ops (i::rest)::k)) cs):=by
 refine WK.ctl NL rfl (λw=>?_) h;have Tz:fn.body.isNone=false:=by rw[hb];rfl
 rw[stepG_enter ho hw hk (run_call_body Tr hf PW Tz)];have:listed P b.fn a o w=#[]:=by unfold listed;rw[events_call_body Tr hf PW Tz];exact seen_none P _
 rw[this]
def Out(U:di->Prop)(R:di->dg->Prop)(rd:Nat->Prop)(b:dV)(a:Frame)(cs:List Frame):ij:=λown g w=>
 ∃c x d v,g=G (a.finish d) cs/\R x v/\VR c x d/\dV.Le b c/\uR c v w own rd/\U d
def Bg{f:ej}{fn:Func}{U:di->Prop}(hU:∀(ts:Array di) (Q:dq) (w:dg) (x:di) (u:dg),(results fn ts).run Q w=.ok x u->U x){N:di->dg->Prop}{d:Frame}{w:dg}(hR:∀x w T,N x w->N x (dF w T))(hG:Good P R)(O:P.funcs[f]? =some fn) (h:Cv P (Left P f N) rd (d::cs) R own g w):Wy (P.iC R.fs) ty Wg main rd (Out U N rd R d cs) own g w:=by
 obtain⟨c,V,p,l,i,z,hl,H⟩:=h;have A:=p;obtain⟨h1,I,x0,h3,h4,h5,h6,ae,h7,h8⟩:=A;rw[I,O]at h7;obtain rfl:=dH h7;obtain⟨n,af,ag,ah,ai⟩:=g;obtain⟨W,aj,e1,X,hX⟩:=l.callers;have e3:=l.st.2;have e4:=l.dy.2;have e5:=l.of.2;simp only at X e3 e4 e5 i;have J:c.cl=W++[floor]:=e1;rw[h1]at J;have Y:W=[]:=by
  cases W with
  |nil=>rfl
  |cons y ys=>simp at J
 subst Y;cases hX;simp only[so]at X;subst X e3 e4 e5;have m2:n.mode=.returning:=by have q:=i.mode;rw[h4]at q;generalize n.mode=m at q⊢;cases q;rfl
 have d2:n.defers=[]:=by have q:=i.defers;rw[h5]at q;generalize n.defers=m at q⊢;cases q;rfl
 have k2:n.kind=.normal:=i.kind▸h6;have f2:n.fn=f:=i.fn▸I;have Z:Good P V:=hG.mono z;have g2:(P.iC R.fs).funcs[f]? =some fn:=by obtain⟨ak,c2,j1,_,_,j4⟩:=Z.two.fn f (I▸i.fnS.1);rw[j4 (I▸i.fnS.2)]at O;rw[z.f];show V.fs[f]? =_;rw[j1,O]
 refine kV rfl λo hr=>?_;have s:=hl.rely hr;have hw:WR V (dF c.v (qf c.v o)) o:=WR.qf s.heap;obtain⟨_,_,x,k3,k4,k5,k6,al,k7,k8⟩:=Left.dF hR c (qf c.v o) H p;rw[I,O]at k7;obtain rfl:=dH k7;have aa:(results fn c.fr.tmps).run P (dF c.v (qf c.v o))=.ok x (dF c.v (qf c.v o)):=k8;have D:∀{r:Result di} {K:Array Event},(results fn c.fr.tmps).runT P (dF c.v (qf c.v o)) #[]=(r,K)->r=.ok x (dF c.v (qf c.v o)):=λ{r K} e=>by rw[lH]at e;exact(dQ Prod.fst e).symm.trans aa
 rcases ed.run hw (SR.results (fn:=fn) i.tmps)with⟨hh,v1,K,e,_⟩|⟨a,b,v1,S,E,K,L,e,F,M,m⟩|⟨a,b,v1,S,E,K,L,e,F,M,m⟩;cases D e;have:=D e;injection this with ea ev;subst ea ev;rw[<-z.f]at F;let B:Nat->Prop:=λb=>own b\/(o.heap.size<=b/\b<S.heap.size);have ab:uR E (dF c.v (qf c.v o)) S B rd:=by refine⟨m.rel.hr,λb c' j=>?_⟩;rcases m.fresh b c' j with h|⟨_,h⟩;rcases s.zone b c' h with h|⟨h,k⟩;exact .inl (.inl h);have t:ww (dF c.v (qf c.v o)) b:=k;exact .inr ⟨h,t.keep (m.tD b t)⟩;exact .inl (.inr ⟨h,m.rel.RE j⟩)
 refine⟨G (d.finish b) cs,S,seen (P.iC R.fs) f L,B,?_,⟨m.tape,m.os,m.output,m.usize,λb=>nf,λb hb ac=>m.same b hb λb0 j=>?_,λe he=>?_⟩,n9 λw2 ad=>⟨E,a,b,_,rfl,k3,M,z.trans m.le,ab.rely ad,hU _ _ _ _ _ (by rw[lH]at F;exact(Prod.mk.inj F).1)⟩⟩;rw[lH]at F;obtain⟨r1,r2⟩:=Prod.mk.inj F;simp[stepG,unwind,doReturn,m2,d2,k2,f2,g2,r1,r2,G,GStep.after];rcases s.zone b0 b j with h|⟨_,h⟩;exact absurd h ac;exact h;rcases m.evs e (ky he)with⟨a,C,b,rfl,j,_,H⟩|⟨r,C,b,rfl,j,H⟩|⟨a,C,rfl,hn,q⟩|⟨r,C,rfl,hn,q⟩|rfl;refine .inl ⟨a,C,rfl,?_⟩;rcases s.zone b a.block j with h|⟨h,k⟩;exact .inl h;cases C with
 |true=>exact absurd (show ww (dF c.v (qf c.v o)) b from k) (H rfl)
 |false=>exact .inr (.inl ⟨rfl,h⟩)
 refine .inr (.inl ⟨r,C,rfl,?_⟩);rcases s.zone b r j with h|⟨h,k⟩;exact .inl h;exact absurd (show ww (dF c.v (qf c.v o)) b from k) H;exact .inl ⟨a,C,rfl,.inr (.inr ⟨hn,q⟩)⟩;exact .inr (.inl ⟨r,C,rfl,.inr ⟨hn,q⟩⟩);exact .inr (.inr rfl);cases D e
def qL{w v:dg}{f:ej}{b a:Array di}(d:Good P R)(e:∀f,R.hole f=false)(g:R.S f=true)(c:fG R b a)(i:uR R v w own rd):Inv P ⟨Frame.enter P f b .normal,[floor],v⟩:=by
 have h:Inv P ⟨Frame.enter P f b .normal,[floor],dF v (qf v w)⟩:=
  ⟨R,w,G (Frame.enter (P.iC R.fs) f a .normal) [],d,e,WR.qf i.heap,rJ d g c .normal (.inl rfl),⟨[],[],rfl,rfl,.nil⟩,⟨rfl,rfl⟩,⟨rfl,rfl⟩,⟨rfl,rfl⟩⟩
 exact h.dF v.tape
def Wy.keep{B:Nat->Prop}{w:dg}(c:∀b,B b->rd b/\¬own b/\b<w.heap.size)(h:Wy P ty Wg main rd S own g w):Wy P ty Wg main rd (λo g d=>S o g d/\∀b,B b->d.heap[b]? =w.heap[b]?) own g w:=by
 obtain⟨C,h⟩:=h
 have l:∀(m:Nat->Option Obj),(∀b,B b->rd b/\¬own b/\b<w.heap.size/\w.heap[b]? =m b)->Wy P ty Wg main rd (λo g d=>S o g d/\∀b,B b->d.heap[b]? =m b) own g w:=by
  intro m c;rename_i n;clear n;induction h with
  |here h=>exact n9 λj i=>⟨h j i,λb a=>(i.heap b (c b a).2.2.1 (.inr (c b a).1)).trans (c b a).2.2.2⟩
  |step u v D y=>
   refine kV u λj i=>?_;obtain⟨g',d,p,f,e,k⟩:=v j i;refine⟨g',d,p,f,e,k,y j g' d p f i e k λb a=>?_⟩;obtain⟨q,r,s,z⟩:=c b a;have t:b<j.heap.size:=eh s i.size;refine⟨q,λA=>?_,eh t k.size,(k.same b t r).trans ((i.heap b s (.inr q)).trans z)⟩;rcases(k.owns b).1 A with x|⟨x,_⟩;exact r x;omega
 exact l (λb=>w.heap[b]?) λb a=>⟨(c b a).1,(c b a).2.1,(c b a).2.2,rfl⟩
def Wy.Sv{w:dg}(k:¬own Wg)(l:Lv ty Wg w)(h:Wy P ty Wg main rd S own g w):Wy P ty Wg main rd (λo g d=>S o g d/\Lv ty Wg d) own g w:=by
 obtain⟨v,h⟩:=h;induction h with
 |here h=>exact n9 λb c=>⟨h b c,c.live l⟩
 |step q r y s=>
  refine kV q λb c=>?_;obtain⟨g',d,m,a,e,i⟩:=r b c;obtain⟨n,p,t⟩:=c.live l;have f:b.heap[Wg]? =some (wgBlock ty n p):=t;have j:Wg<b.heap.size:=lt_of_heap f;refine⟨g',d,m,a,e,i,s b g' d m a c e i (λu=>?_) ⟨n,p,(i.same Wg j k).trans f⟩⟩;rcases(i.owns Wg).1 u with x|⟨x,_⟩;exact k x;omega
def Hj{f:ej}{e:Func}{U:di->Prop}(l:∀(m:Array di) (Q:dq) (w:dg) (x:di) (u:dg),(results e m).run Q w=.ok x u->U x){R:di->dg->Prop}{ρ0:dV}{caller:Frame}{w v:dg}{d a:Array di}(c:Good P ρ0)(i:∀f,ρ0.hole f=false)(j:ρ0.S f=true)(n:P.funcs[f]? =some e) (p:∀x w T,R x w->R x (dF w T))(b:fG ρ0 d a)(q:Reach P (Left P f R) ⟨Frame.enter P f d .normal,[floor],v⟩)(k:uR ρ0 v w own rd):Wy (P.iC ρ0.fs) ty Wg main rd (Out U R rd ρ0 caller cs) own (G (Frame.enter (P.iC ρ0.fs) f a .normal) (caller::cs)) w:=by
 have r:qe P ρ0 (caller::cs) (G (Frame.enter P f d .normal) [floor]) (G (Frame.enter (P.iC ρ0.fs) f a .normal) (caller::cs)):=
  ⟨rJ c j b .normal (.inl rfl),⟨[],[],rfl,rfl,.nil⟩,⟨rfl,rfl⟩,⟨rfl,rfl⟩,⟨rfl,rfl⟩⟩
 have s:=QK (main:=main) (L:=Lv ty Wg) (cs:=caller::cs) (ρ0:=ρ0) Left.callers _ q ρ0 own _ w (qL c i j b k) c (λf _=>i f) (.refl _) r k;exact Wy.bind s λo g w h=>Bg l p c n h
end
end Go.dG.Cr
namespace Go.Proofs.W
open Go.Conc Go.dG Go.dG.Cr Go.dG.Wg Go.RowKit Go.Conc.Lib Go.ConcR.Gen
def K5(a:Addr)(w:dg):(Instr.build 245 #[(0,.pointer (some a))]).run PR w=.ok (.agg #[.pointer (some a),.slice none 0 0,.int .u8 0,.int .u8 0,.int .u8 0,.int .u8 0,.int .u8 0,.int .u8 0,.slice none 0 0,.int .i64 0,.int .i64 0,.bool false]) w:=by kernel_rfl
def IE(a:Addr)(w:dg):(Instr.build 245 #[(0,.pointer (some a))]).events PR w #[]=#[]:=by kernel_rfl
def K6(i m n:Int)(b:Bool)(a:Option Addr)(l c:Nat)(w:dg):(Instr.build 247 #[(0,.int .i64 i),(1,.agg #[.slice a l c,.int .i64 m,.int .i64 n,.bool b])]).run PR w=.ok (.agg #[.int .i64 i,.slice a l c,.int .i64 m,.int .i64 n,.bool b]) w:=by kernel_rfl
def IF(i m n:Int)(b:Bool)(a:Option Addr)(l c:Nat)(w:dg):(Instr.build 247 #[(0,.int .i64 i),(1,.agg #[.slice a l c,.int .i64 m,.int .i64 n,.bool b])]).events PR w #[]=#[]:=by kernel_rfl
end Go.Proofs.W
variable{m k i j o p s d:Nat}{w t e:dg}{x y z:di}{A B C:Nat->Prop}{I J:Int}{S:dg->Prop}
namespace Go.Proofs.W
open Go.Conc Go.dG Go.dG.Cr Go.dG.Wg Go.RowKit Go.Conc.Lib Go.ConcR.Gen
open Go.ConcR (KK wgBlock WgAt stA smA mk DC0)
def wA(c:Nat->Prop)(Q:dg->Prop):Prop:=∀(w a:dg),w.heap.size<=a.heap.size->(∀b,b<w.heap.size->c b->a.heap[b]? =w.heap[b]?)->Q w->Q a
def wA.rely{own rd:Nat->Prop}{L:dg->Prop}{Q:dg->Prop}(h:wA rd Q)(c:ez own rd L w t)(d:Q w):Q t:=h w t c.size (λb e a=>c.heap b e (.inr a)) d
structure KW(pc ic oc Wg Ch:Nat)(pl:Addr)(i:Int)(Q:dg->Prop)(w:dg):Prop where
 p:w.cell? ⟨pc,0,none⟩=some (.pointer (some pl))
 i:w.cell? ⟨ic,0,none⟩=some (.int .i64 i)
 o:w.cell? ⟨oc,0,none⟩=some (.chan (some Ch))
 live:Lv 241 Wg w
 q:Q w
theorem KW.rely{Q:dg->Prop}{own rd:Nat->Prop}(c:rd m)(d:rd k)(e:rd i)(f:wA rd Q):nU own rd (Lv 241 j) (KW m k i j o h I Q):=
 λ_ _ a b=>⟨a.cell (.inr c) b.p,a.cell (.inr d) b.i,a.cell (.inr e) b.o,a.live b.live,f.rely a b.q⟩
def jR(a:Addr):Array di:=#[.pointer (some a),.slice none 0 0,.int .u8 0,.int .u8 0,.int .u8 0,.int .u8 0,.int .u8 0,.int .u8 0,.slice none 0 0,.int .i64 0,.int .i64 0,.bool false]
noncomputable def CJ:Array Oper:=(λ(x:Array Oper) (_:gB Tryz.f188 2=.region 2 x false)=>x) _ (by conv=>lhs;whnf)
noncomputable def fu:Array Oper:=(λ(x:Array Oper) (_:gB Tryz.f188 3=.region 3 x true)=>x) _ (by conv=>lhs;whnf)
noncomputable def jD(k l m i T:Nat)(j:Addr)(n o a b c d e f g h:di):Act:=
 {tmps:=#[.pointer (some ⟨i,0,none⟩),.pointer (some ⟨k,0,none⟩),.pointer (some ⟨l,0,none⟩),.pointer (some ⟨m,0,none⟩),.pointer (some ⟨T,0,none⟩),.pointer (some j),.agg (jR j),.pointer (some ⟨T,0,none⟩),n,o,a,b,c,d,e,f,g,h],defers:=[dcall 189 #[.pointer (some ⟨i,0,none⟩)]]}
noncomputable def CK(a b c d T:Nat)(e:Addr)(i:Int):Frame:=
 CH.at (jD a b c d T e (.pointer (some ⟨T,0,none⟩)) (.int .i64 i) undef undef undef undef undef undef undef undef) [.inRegion CJ [2],.code (.region 3 fu true)]
def PX(e:Nat->Prop)(f:Nat)(q:Addr)(i:Int)(Q:dg->Prop)(r:(Nat->Prop)->dg->di->Prop):Prop:=
 ∀(d:Nat->Prop) (w:dg) (T:Nat) (c:Frame) (h:List Frame),Q w->(∀b,d b↔b=T)->w.heap[T]? =some (.cells (jR q) 245)->
  Wy PR 241 f false e (λo g j=>g=G (c.finish undef) h/\o T/\∃t u v x y z A B a l k m n s C,j.heap[T]? =some (.cells #[t,u,v,x,y,z,A,B,.slice a l k,.int .i64 m,.int .i64 n,.bool s] 245 C)/\
   ∀p,ez o e (Lv 241 f) j p->r o p (.agg #[.slice a l k,.int .i64 m,.int .i64 n,.bool s])) d (G (Frame.enter PR 190 #[.pointer (some ⟨T,0,none⟩),.int .i64 i] .normal) (c::h)) w
def rN(b:w.cell? h=some x):h.block<w.heap.size:=by refine xr λa=>?_;have:w.heap[h.block]? =none:=lY a;simp[World.cell?,this]at b
def uU(b:w.cell? h=some x):({w with heap:=w.heap.push O}:dg).cell? h=w.cell? h:=by
 have c:h.block<w.heap.size:=by refine xr λa=>?_;have:w.heap[h.block]? =none:=lY a;simp[World.cell?,this]at b
 have:(w.heap.push O)[h.block]? =w.heap[h.block]? :=by rw[nX];split;omega;rfl
 simp only[World.cell?,this]
def rO(h:Lv m k w):Lv m k ({w with heap:=w.heap.push O}:dg):=by obtain⟨a,b,h⟩:=h;refine⟨a,b,?_⟩;have c:w.heap[k]? =some (wgBlock m a b):=h;show(w.heap.push O)[k]? =_;rw[nX];split;have:=lt_of_heap c;omega;exact c
def Oh{y:ij}(z:A m)(B:A k)(E:A i)(C:wA A S)
 (F:∀T,WK PR 241 j false A y (λx=>dE x\/x=T) (λw=>KW m k i j o h I S w/\w.heap[T]? =some (.cells (jR h) 245)/\m<T/\k<T/\i<T/\j<T)
  (G (Frame.enter PR 190 #[.pointer (some ⟨T,0,none⟩),.int .i64 I] .normal) [CK m k i j T h I,bot])):
 WK PR 241 j false A y dE (KW m k i j o h I S) (born PR (call188 m k i j)):=by
 have c:∀s,nU s A (Lv 241 j) (KW m k i j o h I S):=λ_=>KW.rely z B E C;have t:=λw=>K5 h w;have u:=λw=>IE h w;refine WK.ctl (c _) rfl (ID m k i j) ?_;simp only[Bf,Tryz.f188,kF,CI,Array.replicate,List.replicate];refine WK.ctl (c _) rfl (λ_=>dA) ?_;refine WK.ctl (c _) rfl (λ_=>gJ) ?_;simp only[ia,fq,gl,Nat.reduceAdd,dB,List.range,List.range.loop];refine WK.ctl (c _) rfl (λ_=>stepG_defer rfl rfl (by k_ne) rfl) ?_;walk_nrm;refine WK.ctl (c _) rfl (λ_=>du) ?_;refine WK.ctl (c _) rfl (λ_=>dA) ?_;refine WK.ctl (c _) rfl (λ_=>gJ) ?_;simp only[ia,fq,gl,Nat.reduceAdd,dB,List.range,List.range.loop];refine WK.load (v:=.pointer (some h)) (c _) rfl rfl (by k_ne) (λw a=>?_) (λw a e g=>?_) ?_;have l:=(λw a=>a.p) w a;go_simp;have l:=(λw a=>a.p) w a;simp[go_sem,l]at g;exact .inl ⟨_,_,g,.inr (.inl ⟨rfl,z⟩)⟩;walk_nrm;refine WK.val (v:=.agg (jR h)) (c _) rfl rfl (by k_ne) (λw=>?_) (λw=>?_) ?_;go_simp;first|rfl|simp only[t]|skip
 simp[go_sem,u];walk_nrm;refine WK.new (f:=λn=>.pointer (some ⟨n,0,none⟩)) (ob:=.cells (jR h) 245) (c _) rfl rfl (by k_ne) (λw a=>?_) (λw a e g=>?_) (λT=>?_);go_simp;first|rfl|skip
 simp[go_sem]at g;refine WK.mono (K':=λw=>KW m k i j o h I S w/\w.heap[T]? =some (.cells (jR h) 245)/\m<T/\k<T/\i<T/\j<T) ?_ ?_;rotate_left;rintro w ⟨r,a,rfl,D⟩;have H:KW m k i j o h I S {r with heap:=r.heap.push (.cells (jR h) 245)}:=by exact⟨by rw[<-a.p];exact uU a.p,by rw[<-a.i];exact uU a.i,by rw[<-a.o];exact uU a.o,rO a.live,C r _ (by simp) (λb L _=>by show(r.heap.push _)[b]? =_;rw[nX];split;omega;rfl) a.q⟩
 obtain⟨M,N,J⟩:=a.live;exact⟨(c _) _ _ D H,D.obj (.inl (.inr rfl)) (by simp),rN a.p,rN a.i,rN a.o,lt_of_heap J⟩;have d:nU (λx=>dE x\/x=T) A (Lv 241 j) (λw=>KW m k i j o h I S w/\w.heap[T]? =some (.cells (jR h) 245)/\m<T/\k<T/\i<T/\j<T):=Hi (c _) (Hi (Og (.inl (.inr rfl))) λ_ _ _ K=>K);walk_nrm;refine WK.val (v:=?_) d rfl rfl (by k_ne) (λw=>?_) (λw=>?_) ?_;rotate_left;go_simp;rfl;go_simp;walk_nrm;refine WK.ctl d rfl (λ_=>du) ?_;refine WK.ctl d rfl (λ_=>dA) ?_;refine WK.ctl d rfl (λ_=>gJ) ?_;simp only[ia,fq,gl,Nat.reduceAdd,dB,List.range,List.range.loop];refine WK.val (v:=?_) d rfl rfl (by k_ne) (λw=>?_) (λw=>?_) ?_;rotate_left;go_simp;rfl;go_simp;walk_nrm;refine WK.load (v:=.int .i64 I) d rfl rfl (by k_ne) (λw a=>?_) (λw a e g=>?_) ?_;have l:=(λw a=>a.1.i) w a;go_simp;have l:=(λw a=>a.1.i) w a;simp[go_sem,l]at g;exact .inl ⟨_,_,g,.inr (.inl ⟨rfl,B⟩)⟩;walk_nrm;refine WK.enter d rfl rfl (by k_ne) rfl Tryz.func190 rfl rfl ?_;simp only[List.map_toArray,lA,vC];exact F T
end Go.Proofs.W
variable{a:Option Go.Addr}{D E:Bool}
namespace Go.Proofs.W
open Go.Conc Go.dG Go.dG.Cr Go.dG.Wg Go.RowKit Go.Conc.Lib Go.ConcR.Gen
open Go.ConcR (KK wgBlock WgAt stA smA mk DC0)
def Cl(d e a b c f:Bool):Prop:=(a=true->e=true)/\(b=true->a=true)/\(c=true->b=true)/\(f=true->c=true/\d=true)
instance (b1 b2 b3 b4 b5 b6:Bool):Decidable (Cl b1 b2 b3 b4 b5 b6):=by unfold Cl;infer_instance
def Fx:∀g a b c d e f:Bool,Cl a b c d e f->Region.ready .any fu #[g,a,b,c,d,e,f,false]≠[]:=by decide+kernel
def ct(b:Bool):Nat:=if b then 0 else 1
def Nx(f a b c d e g:Bool)(i:Nat):Prop:=(i=0/\f=false)\/(i=1/\a=false)\/(i=2/\b=false)\/(i=3/\c=false/\b=true)\/(i=4/\d=false/\c=true)\/(i=5/\e=false/\d=true)\/(i=6/\g=false/\e=true/\a=true)\/(i=7/\f=true/\a=true/\b=true/\c=true/\d=true/\e=true/\g=true)
instance (b0 b1 b2 b3 b4 b5 b6:Bool) (i:Nat):Decidable (Nx b0 b1 b2 b3 b4 b5 b6 i):=by unfold Nx;infer_instance
def CL:∀g a b c d e f:Bool,Cl a b c d e f->((Region.ready .any fu #[g,a,b,c,d,e,f,false]).all λi=>decide (Nx g a b c d e f i))=true:=by decide+kernel
def Fy{a b c d e:Bool}(h:Cl E a b c d e)(i:Nat)(f:i∈Region.ready .any fu #[D,E,a,b,c,d,e,false]):Nx D E a b c d e i:=by have:=nY.1 (CL D E a b c d e h) i f;simpa using this
structure K2(pc ic oc Wg Ch T:Nat)(pl:Addr)(i:Int)(Q:dg->Prop)(p0 p1 p2 p3 p4 p5 p6 p7 sa:di)(m n:Int)(s:Bool)(Sc:dg->di->Prop)(w:dg):Prop where
 kw:KW pc ic oc Wg Ch pl i Q w
 t:∃fz,w.heap[T]? =some (.cells #[p0,p1,p2,p3,p4,p5,p6,p7,sa,.int .i64 m,.int .i64 n,.bool s] 245 fz)
 sc:Sc w (.agg #[sa,.int .i64 m,.int .i64 n,.bool s])
noncomputable def qM(c d e f g T:Nat)(h:Addr)(i:Int)(a b:di)(j k l m n o p:Bool):Act:=
 jD c d e f T h (.pointer (some ⟨T,0,none⟩)) (.int .i64 i) undef (if j then .chan (some g)else undef) (if k then .int .i64 i else undef) (if l then .pointer (some ⟨T,0,none⟩)else undef)
  (if m then .pointer (some ⟨T,0,none⟩)else undef) (if n then .pointer (some ⟨T,8,none⟩)else undef) (if o then a else undef) (if p then b else undef)
def xK{a:Array Oper}{fuel t:Nat}{l:Array Bool}(c:Region.ready .any a l≠[]):∃i d,i∈Region.ready .any a l/\Region.linearise.go .any a (fuel+1) t l []=i::Region.linearise.go .any a fuel d (l.setIfInBounds i true) []:=by
 have b:t%(Region.ready .any a l).length<(Region.ready .any a l).length:=Nat.mod_lt _ (by cases h:Region.ready .any a l with|nil=>exact absurd h c|cons=>simp);refine⟨(Region.ready .any a l)[t%(Region.ready .any a l).length],t/(Region.ready .any a l).length,fc b,?_⟩;simp only[Region.linearise.go];change(match(Region.ready .any a l)[t%(Region.ready .any a l).length]? with
  |some i=>Region.linearise.go .any a fuel (t/(Region.ready .any a l).length) (l.setIfInBounds i true) [i]
  |none=>[].reverse)=_
 rw[fI b];simp only;rw[linearise_go_acc];simp
def Oi{ag:ij}{Q R T U V:di}{n:Int}{W:dg->di->Prop}(h2:A k)(h3:A i)(hT:B p) (g:nU B A (Lv 241 j) (K2 m k i j o p h I S x y z Q R T U V (.slice a s d) J n D W)) (hn:WK PR 241 j false A ag B (K2 m k i j o p h I S x y z Q R T U V (.slice a s d) J n D W) (G (CH.at (qM m k i j o p h I (.agg #[.slice a s d,.int .i64 J,.int .i64 n,.bool D]) (.agg #[.int .i64 I,.slice a s d,.int .i64 J,.int .i64 n,.bool D]) true true true true true true true) [.inRegion fu [7]]) [bot])):∀(fuel:Nat) (r u C E F H l:Bool) (t:Nat),Cl u C E F H l->fuel=1+ct r+ct u+ct C+ct E+ct F+ct H+ct l->WK PR 241 j false A ag B (K2 m k i j o p h I S x y z Q R T U V (.slice a s d) J n D W) (G (CH.at (qM m k i j o p h I (.agg #[.slice a s d,.int .i64 J,.int .i64 n,.bool D]) (.agg #[.int .i64 I,.slice a s d,.int .i64 J,.int .i64 n,.bool D]) r u C E F H l) [.inRegion fu (Region.linearise.go .any fu fuel t #[r,u,C,E,F,H,l,false] [])]) [bot]):=by
 intro fuel;induction fuel with
 |zero=>intro r u C E F H l t b c;omega
 |succ fuel L=>
  intro r u C E F H l t b c;obtain⟨ah,M,hj,e⟩:=xK (fuel:=fuel) (t:=t) (Fx r u C E F H l b);rw[e];rcases Fy b ah hj with⟨rfl,q⟩|⟨rfl,q⟩|⟨rfl,q⟩|⟨rfl,q,N⟩|⟨rfl,q,N⟩|⟨rfl,q,N⟩|⟨rfl,q,N,X⟩|⟨rfl,Y,Z,aa,ab,ac,ad,ae⟩;subst q;refine WK.load (v:=.chan (some o)) g rfl rfl (by k_ne) (λw K=>?_) (λw K e f=>?_) (L true u C E F H l M b (by simp only[ct]at c⊢;simp at c⊢;omega));have b:=K.kw.o;simp only[fu,qM,jD];go_simp;have b:=K.kw.o;simp only[fu,qM,jD]at f;simp[go_sem,b]at f;exact .inl ⟨_,_,f,.inr (.inl ⟨rfl,h3⟩)⟩;subst q;refine WK.load (v:=.int .i64 I) g rfl rfl (by k_ne) (λw K=>?_) (λw K e f=>?_) (L r true C E F H l M ⟨b.1,b.2.1,b.2.2.1,λaf=>⟨(b.2.2.2 af).1,rfl⟩⟩ (by simp only[ct]at c⊢;simp at c⊢;omega));have b:=K.kw.i;simp only[fu,qM,jD];go_simp;have b:=K.kw.i;simp only[fu,qM,jD]at f;simp[go_sem,b]at f;exact .inl ⟨_,_,f,.inr (.inl ⟨rfl,h2⟩)⟩;subst q;refine WK.val (v:=.pointer (some ⟨p,0,none⟩)) g rfl rfl (by k_ne) (λw=>?_) (λw=>?_) (L r u true E F H l M ⟨λ_=>rfl,b.2.1,b.2.2⟩ (by simp only[ct]at c⊢;simp at c⊢;omega));simp only[fu,qM,jD];go_simp;simp only[fu,qM,jD];simp[go_sem];subst q N;refine WK.val (v:=.pointer (some ⟨p,0,none⟩)) g rfl rfl (by k_ne) (λw=>?_) (λw=>?_) (L r u true true F H l M ⟨λ_=>rfl,λ_=>rfl,b.2.2⟩ (by simp only[ct]at c⊢;simp at c⊢;omega));simp only[fu,qM,jD];go_simp;simp only[fu,qM,jD];simp[go_sem];subst q N;refine WK.val (v:=.pointer (some ⟨p,8,none⟩)) g rfl rfl (by k_ne) (λw=>?_) (λw=>?_) (L r u C true true H l M ⟨b.1,λ_=>rfl,λ_=>rfl,b.2.2.2⟩ (by simp only[ct]at c⊢;simp at c⊢;omega));simp only[fu,qM,jD];go_simp;simp only[fu,qM,jD];simp[go_sem];subst q N;refine WK.load (v:=.agg #[.slice a s d,.int .i64 J,.int .i64 n,.bool D]) g rfl rfl (by k_ne) (λw K=>?_) (λw K e f=>?_) (L r u C E true true l M ⟨b.1,b.2.1,λ_=>rfl,λaf=>⟨rfl,(b.2.2.2 af).2⟩⟩ (by simp only[ct]at c⊢;simp at c⊢;omega));obtain⟨fz,b⟩:=K.t;have c8:w.cell? ⟨p,8,none⟩=some (.slice a s d):=by simp[World.cell?,b]
  have c9:w.cell? ⟨p,9,none⟩=some (.int .i64 J):=by simp[World.cell?,b]
  have O:w.cell? ⟨p,10,none⟩=some (.int .i64 n):=by simp[World.cell?,b]
  have P:w.cell? ⟨p,11,none⟩=some (.bool D):=by simp[World.cell?,b]
  simp only[fu,qM,jD];go_simp;obtain⟨fz,b⟩:=K.t;have c8:w.cell? ⟨p,8,none⟩=some (.slice a s d):=by simp[World.cell?,b]
  have c9:w.cell? ⟨p,9,none⟩=some (.int .i64 J):=by simp[World.cell?,b]
  have O:w.cell? ⟨p,10,none⟩=some (.int .i64 n):=by simp[World.cell?,b]
  have P:w.cell? ⟨p,11,none⟩=some (.bool D):=by simp[World.cell?,b]
  simp only[fu,qM,jD]at f;simp[go_sem,c8,c9,O,P]at f;rcases f with f|f|f|f<;>exact .inl ⟨_,_,f,.inl hT⟩
  ·subst q N X;refine WK.val (v:=.agg #[.int .i64 I,.slice a s d,.int .i64 J,.int .i64 n,.bool D]) g rfl rfl (by k_ne) (λw=>?_) (λw=>?_) (L r true C E F true true M ⟨b.1,b.2.1,b.2.2.1,λ_=>⟨rfl,rfl⟩⟩ (by simp only[ct]at c⊢;simp at c⊢;omega))
   ·simp only[fu,qM,jD];first|(go_simp;done)|(go_simp;have:=K6 I J n D a s d w;rw[this];rfl)
   simp only[fu,qM,jD];have:=IF I J n D a s d w;simp[go_sem,this]
  subst Y Z aa ab ac ad ae;have:fuel=0:=by simp only[ct]at c;simp at c;omega
  subst this;simpa[Region.linearise.go]using hn
end Go.Proofs.W
variable{F:Go.Frame}
namespace Go.dG.Wg
open Go.Conc Go.ConcN Go.RowKit Go.Conc.Lib Go.ConcR.Gen Go.ConcN.Gen Go.dG
open Go.ConcR (KK wgBlock WgAt stA smA mk Payload DC0)
section
variable{L:WgLink}
def Sw(H:WgLib P L){b qt:Nat}{f:List Frame}(d:F.mode=.returning)(i:QuitsD P qt 0 (G F f))(w:dg)(c:True/\WgLive L.tWg b w):Goes P false (ez Cr.dE Cr.dE (Cr.Lv L.tWg b)) DC0 (Cr.R0 P L.tWg b) 43 (G ((baseD L.done).at ⟨#[.pointer (some ⟨b,0,none⟩),undef,undef,undef],[]⟩ [.code (body_done L)]) (F::f)) w:=by have e:∀{w a:dg},True/\WgLive L.tWg b w->ez Cr.dE Cr.dE (Cr.Lv L.tWg b) w a->True/\WgLive L.tWg b a:=λh r=>⟨trivial,r.live h.2⟩;lib_facts;have g:=@Oe L;simp only[body_done,body_add,doneFn,addFn,kF,Nat.reduceSub,Array.replicate,List.replicate,List.append_toArray,oP,so]at g⊢;u_reg e c;u_op e c;u_in e c;refine goes_call rfl rfl (by k_ne) rfl H.f_add (nm_add L) rfl ⟨⟨rfl,rfl⟩,?_⟩;walk_nrmf addFn;refine g H (qt:=qt+3) ?_ _ c;q_c du;q_c stepG_end;exact QuitsD.leaveD rfl rfl H.f_done rfl d i
end
end Go.dG.Wg
namespace Go.Proofs.W
open Go.Conc Go.dG Go.dG.Cr Go.dG.Wg Go.RowKit Go.Conc.Lib Go.ConcR.Gen
open Go.ConcR (KK wgBlock WgAt stA smA mk DC0)
def K8{a:dZ->di}{o:Oper}{b y:dZ}(c:o.op=.send b y)(d:a b=.chan (some m))(e:a y=x)(w:dg):(execOp a o).run PR w=.ok (.comm #[scase m x undef] true .send) w:=by simp only[execOp,c,d,e];simp;rfl
def CM{Ch:Nat}{v:di}{a:dZ->di}{o:Oper}{x y:dZ}(b:o.op=.send x y)(c:a x=.chan (some Ch))(d:a y=v)(w:dg):(execOp a o).events PR w #[]=#[]:=by simp only[execOp,b,c,d];simp
def xL{R:dg->dg->Prop}{S:dm->dg->Prop}{K:dg->Prop}(d:∀{w a:dg},K w->R w a->K a){b:dm}(e:Z.status=.running)(f:∀w,stepG PR false Z w=.go b w #[]) (h:∀w,K w->Goes PR false R DC0 S m b w):∀w,K w->Goes PR false R DC0 S (m+1) Z w:=by intro w g;refine .inr ⟨e,λc i=>?_⟩;rw[f c];exact⟨⟨rfl,rfl⟩,h c (d g i)⟩
def xM{b:Func}(f:ej)(c:PR.funcs[f]? =some b)(a:b.results=#[])(d:Array di)(e:List Item):QuitsD PR 2 0 (G {(baseD f).at ⟨d,[]⟩ e with mode:=.returning} [bot]):=by refine .inr ⟨rfl,G bot [],#[],by simp,λw=>?_,.inr ⟨rfl,{G bot []with status:=.finished},#[],by simp,λw=>?_,⟨rfl,rfl⟩⟩⟩;simp[G,stepG,unwind,doReturn,Frame.at,baseD,c,results,a,bot,goexitEntry,seen,GStep.after,lH];simp[G,stepG,unwind,bot,goexitEntry,Frame.catches];rfl
def Fz:∀(w:dg),Lv 241 j w->Goes PR false (ez dE dE (Lv 241 j)) DC0 (R0 PR 241 j) 46 (G (CH.at (qM m k i j o p h I x y true true true true true true true) [.inRegion fu []]) [bot]) w:=by have b:∀{w a:dg},Lv 241 j w->ez dE dE (Lv 241 j) w a->Lv 241 j a:=λc r=>r.live c;refine xL (K:=Lv 241 j) b rfl (λ_=>du) ?_;refine xL (K:=Lv 241 j) b rfl (λ_=>stepG_end) ?_;refine xL (K:=Lv 241 j) b rfl (λ_=>stepG_unwind_enter rfl Tryz.func189 rfl rfl) ?_;intro w d;exact Sw (L:=Tryz.link) Tryz.vG (qt:=2) rfl (xM 188 Tryz.func188 rfl _ _) w ⟨trivial,d⟩
def Oj{i d f c Ch T u:Nat}{o p q r s:di}{n:Int}{Sc:dg->di->Prop}{l:Nat->di->(Nat->Prop)->dg->Prop}(E:A d)(F:A f)(H:B T) (g:nU B A (Lv 241 c) (K2 i d f c Ch T h I S x y z o p q r s (.slice a m k) J n D Sc)) (K:∀w,K2 i d f c Ch T h I S x y z o p q r s (.slice a m k) J n D Sc w->l u (.agg #[.int .i64 I,.slice a m k,.int .i64 J,.int .i64 n,.bool D]) B w):WK PR 241 c false A (Sends PR 241 c Ch l u) B (K2 i d f c Ch T h I S x y z o p q r s (.slice a m k) J n D Sc) (G ((CK i d f c T h I).finish undef) [bot]):=by
 have e:(CK i d f c T h I).finish undef=CH.at (jD i d f c T h (.pointer (some ⟨T,0,none⟩)) (.int .i64 I) undef undef undef undef undef undef undef undef) [.inRegion CJ [],.code (.region 3 fu true)]:=by unfold CK;rw[Frame.finish_at];rfl
 rw[e];refine WK.ctl (g':=G (CH.at (jD i d f c T h (.pointer (some ⟨T,0,none⟩)) (.int .i64 I) undef undef undef undef undef undef undef undef) [.code (.region 3 fu true)]) [bot]) g rfl (λ_=>du) ?_;intro w L;refine kV rfl λC M=>?_;refine⟨_,_,_,B,stepG_region_draw,⟨rfl,rfl,rfl,dC _,λb=>⟨.inl,λj=>j.elim id λj=>absurd j.2 (Nat.not_lt.2 j.1)⟩,λ_ _ _=>rfl,λe N=>by simp at N⟩,?_⟩;have t:K2 i d f c Ch T h I S x y z o p q r s (.slice a m k) J n D Sc {C with drawn:=C.drawn+1}:=(g w _ (M.trans ⟨rfl,rfl,rfl,dC _,λ_ _ _=>rfl,λj=>j⟩) L);have O:PR.follows .mixedOrders=true:=by kernel_rfl
 simp only[Region.schedule,O,Bool.true_or,ei];refine Oi E F H g ?_ 8 false false false false false false false _ (by decide) rfl _ t;refine WK.stop g λw t=>⟨.agg #[.int .i64 I,.slice a m k,.int .i64 J,.int .i64 n,.bool D],undef,rfl,λw=>?_,K w t,46,?_⟩;refine(stepG_comm rfl rfl (by k_ne) (K8 rfl rfl rfl w)).trans ?_;unfold listed;rw[CM (v:=.agg #[.int .i64 I,.slice a m k,.int .i64 J,.int .i64 n,.bool D]) (Ch:=Ch) rfl rfl rfl w,seen_none];rfl;exact Fz w t.kw.live
def gX{w w':dg}{ad:Addr}(h:w'.heap[ad.block]? =w.heap[ad.block]?):w'.cell? ad=w.cell? ad:=by unfold World.cell?;rw[h]
def worker{Q:dg->Prop}{rd:Nat->Prop}{Sc:(Nat->Prop)->dg->di->Prop}{val:Nat->di->(Nat->Prop)->dg->Prop}(C:rd m)(r:rd i)(z:rd j)(M:wA rd Q)(N:PX rd o h I Q Sc) (O:∀u w a l c D n s,Sc u w (.agg #[.slice a l c,.int .i64 D,.int .i64 n,.bool s])->val k (.agg #[.int .i64 I,.slice a l c,.int .i64 D,.int .i64 n,.bool s]) u w):WK PR 241 o false rd (Sends PR 241 o p val k) dE (KW m i j o p h I Q) (born PR (call188 m i j o)):=by refine Oh C r z M λT=>?_;rintro w ⟨f,P,U,V,W,X⟩;have e:=N (λx=>dE x\/x=T) w T (CK m i j o T h I) [bot] f.q (λb=>⟨λd=>d.elim (λd=>d.elim) id,.inr⟩) P;have e:=Wy.keep (B:=λb=>b=m\/b=i\/b=j) (by rintro b (rfl|rfl|rfl);exact⟨C,λd=>d.elim (λd=>d.elim) (λd=>by omega),rN f.p⟩;exact⟨r,λd=>d.elim (λd=>d.elim) (λd=>by omega),rN f.i⟩;exact⟨z,λd=>d.elim (λd=>d.elim) (λd=>by omega),rN f.o⟩) e;have e:=Wy.Sv (λd=>d.elim (λd=>d.elim) (λd=>by omega)) f.live e;refine e.bind ?_;rintro u g K ⟨⟨⟨rfl,y,Y,Z,p2,p3,p4,p5,p6,p7,a,l,cc,D,n,s,L,E,F⟩,G⟩,R⟩;have H:KW m i j o p h I (λ_=>True) K:=⟨(gX (G m (.inl rfl))).trans f.p,(gX (G i (.inr (.inl rfl)))).trans f.i,(gX (G j (.inr (.inr rfl)))).trans f.o,R,trivial⟩;refine Oj (T:=T) (Sc:=λw v=>∀A,ez u rd (Lv 241 o) w A->Sc u A v) r z y (λw A J d=>⟨KW.rely C r z (λ_ _ _ _ d=>d) w A J d.kw,d.t.imp λL d=>J.obj (.inl y) d,λS r=>d.sc S (J.trans r)⟩) (λw d=>O _ _ _ _ _ _ _ _ (d.sc w (.refl _ _ _ _))) K ⟨H,⟨L,E⟩,F⟩
end Go.Proofs.W
namespace Go.dG.Cr
open Go.Conc Go.dG Go.dG.Kn Go.dG.Wg
open Go.ConcR (KK wgBlock WgAt stA smA mk DC0)
section
variable{P:dq}{own:Nat->Prop}{ty:dn}{Wg Ch:Nat}{rc:Nat->Prop}{qH Fin:dm->dg->Prop}
def xN(q:∀g w,qH g w->∃k,Goes P false (ez own rc (Lv ty Wg)) DC0 (Vh P false (ez own rc (Lv ty Wg)) Wg ty qH Fin) k g w)
 (r:∀g w,Fin g w->Wy P ty Wg false rc (RG P Ch) own g w):Anchor P ty Wg Ch rc λo g w=>o=own/\qH g w:=by
 have f:∀{k:Nat} {g:dm} {w:dg},Goes P false (ez own rc (Lv ty Wg)) DC0 (Ug P false (ez own rc (Lv ty Wg)) Wg Fin) k g w->Wy P ty Wg false rc (Tu P ty Wg Ch rc) own g w:=λh=>
  jh h λg w h=>pE (λh=>jh h λg w h=>pE (λh=>tU h r) h) h
 refine⟨λo g w ⟨s,j⟩=>?_⟩;subst s;obtain⟨k,a⟩:=q g w j;refine jh a λg w ⟨c,d⟩=>⟨c,λv t i=>?_⟩;obtain⟨b,e,j,u⟩:=d v t i;refine⟨b,e,λl=>?_,λl=>?_⟩;obtain⟨k,a⟩:=j l;exact f a;obtain⟨k,a⟩:=u l;refine jh a λg w ⟨c,d⟩=>⟨c,λx m n=>?_⟩;obtain⟨y,z⟩:=d x m n;refine⟨λe=>?_,λe=>?_⟩;obtain⟨b,p,k,a⟩:=y e;refine⟨b,p,jh a λg w h=>pE (λh=>jh h λg w ⟨c,d,A,B⟩=>⟨c,d,A,λi=>?_⟩) h⟩;obtain⟨b,e,k,a⟩:=B i;refine⟨b,e,jh a λg w ⟨c,d⟩=>⟨c,λi=>?_⟩⟩;obtain⟨b,e,k,a⟩:=d i;exact⟨b,e,f a⟩;obtain⟨b,p,k,a⟩:=z e;exact⟨b,p,jh a λg w h=>⟨rfl,h⟩⟩
def CN{m:Nat}{g:dm}{w:dg}(h:Goes P false (ez own rc (Lv ty Wg)) DC0 (Ag P false (ez own rc (Lv ty Wg)) .disable qH) m g w):
 Wy P ty Wg false rc (Tv P ty Wg rc λo g w=>o=own/\qH g w) own g w:=
 jh h λg w h=>pE (λh=>jh h λg w h=>⟨rfl,h⟩) h
end
end Go.dG.Cr
namespace Go.Proofs.W
open Go.Conc Go.dG Go.dG.Cr Go.dG.Wg Go.RowKit Go.Conc.Lib Go.ConcR.Gen
open Go.ConcN Go.ConcN.Gen
open Go.ConcR (KK wgBlock WgAt stA smA mk DC0)
noncomputable def CO:Frame:=baseD 191
noncomputable def call191(a b:Nat):Deferred:={target:=.fn (.func 191) #[.pointer (some ⟨b,0,none⟩),.pointer (some ⟨a,0,none⟩)],args:=#[]}
noncomputable def Bh:Code:=Tryz.f191.body.getD .skip
def Ol(a b:Nat)(w:dg):stepG PR false (born PR (call191 a b)) w=.go (G (CO.at ⟨#[.pointer (some ⟨b,0,none⟩),.pointer (some ⟨a,0,none⟩),undef,undef],[]⟩ [.code Bh]) [bot]) w #[]:=by simp[born,call191,stepG,unwind,callDeferred,invoke,callFunc,Tryz.func191,Tryz.f191,seen,GStep.after,G,Frame.enter,Frame.at,CO,baseD,bot,Bh]
structure KC(oc Wg Ch:Nat)(w:dg):Prop where
 o:w.cell? ⟨oc,0,none⟩=some (.chan (some Ch))
 live:Lv 241 Wg w
def KC.rely{own rd:Nat->Prop}(b:rd m):nU own rd (Lv 241 k) (KC m k i):=λ_ _ a h=>⟨a.cell (.inr b) h.o,a.live h.live⟩
noncomputable def qN:Array Oper:=#[{dst:=some 2,op:=Op.call {callee:=Callee.value (Operand.func 192),args:=#[Operand.tmp 0],argTypes:=#[241]},type:=0,pos:= "plan.go:152",after:=#[],guard:=none}]
noncomputable def ny:Array Oper:=#[{dst:=some 3,op:=Op.load 232 (Operand.tmp 1),type:=232,pos:= "plan.go:153",after:=#[],guard:=none},{dst:=none,op:=Op.call {callee:=Callee.builtin Builtin.close,args:=#[Operand.tmp 3],argTypes:=#[232]},type:=0,pos:= "plan.go:153",after:=#[{on:=0,ground:=Ground.data}],guard:=none}]
noncomputable def nz(a b:Nat)(c d:di):Act:=⟨#[.pointer (some ⟨b,0,none⟩),.pointer (some ⟨a,0,none⟩),c,d],[]⟩
def FA(f:A m):WK PR 241 k false A (RG PR i) dE (KC m k i) (G (CO.at (nz m k (.tuple #[]) undef) [.inRegion qN [],.code (.region 1 ny false)]) [bot]):=by have a:nU dE A (Lv 241 k) (KC m k i):=KC.rely f;refine WK.ctl a rfl (λ_=>du) ?_;refine WK.ctl a rfl (λ_=>gJ) ?_;simp only[ia,fq,gl,Nat.reduceAdd,dB,List.range,List.range.loop];simp only[ny,nz];refine WK.load (v:=.chan (some i)) a rfl rfl (by k_ne) (λw b=>?_) (λw b e g=>?_) ?_;have d:=(λw b=>b.o) w b;go_simp;have d:=(λw b=>b.o) w b;simp[go_sem,d]at g;exact .inl ⟨_,_,g,.inr (.inl ⟨rfl,f⟩)⟩;walk_nrm;refine WK.stop a λw b=>⟨rfl,?_,G (CO.at (nz m k (.tuple #[]) (.chan (some i))) [.inRegion ny []]) [bot],rfl,λs r d=>?_,5,?_⟩;rfl;rw[stepG_close (c:=i) rfl rfl (by k_ne) rfl rfl d (by kernel_rfl)];rfl;refine lJ (n:=4) (by omega) ?_;refine .ctl rfl (λ_=>du) ?_;refine .ctl rfl (λ_=>stepG_end) ?_;exact xM 191 Tryz.func191 rfl _ _
def closer{b Wg d:Nat}{rd:Nat->Prop}(m:rd b)(n:b≠Wg)(w:dg)(l:KC b Wg d w):KD PR 241 Wg d rd dE (born PR (call191 b Wg)) w:=by
 have i:nU dE rd (Lv 241 Wg) (KC b Wg d):=KC.rely m;have p:∀{w e:dg},(w.cell? ⟨b,0,none⟩=some (.chan (some d)))/\WgLive Tryz.link.tWg Wg w->ez dE rd (Lv 241 Wg) w e->(e.cell? ⟨b,0,none⟩=some (.chan (some d)))/\WgLive Tryz.link.tWg Wg e:=λh r=>⟨r.cell (.inr m) h.1,r.live h.2⟩;have j:∀(w:dg) (a:Addr) (x:di),a.block=Wg->w.cell? ⟨b,0,none⟩=some (.chan (some d))->(w.setCell a x).cell? ⟨b,0,none⟩=some (.chan (some d)):=by intro w a x q h;rw[gX];exact h;exact Below.heap_setCell w a x b (by rw[q];exact n)
 have s:=λ(g:dm) (w:dg)=>Fv (L:=Tryz.link) (main:=false) (R:=ez dE rd (Lv 241 Wg)) (Wg:=Wg) (F:=λw=>w.cell? ⟨b,0,none⟩=some (.chan (some d)))
  (b₀:=CO) (a₀:=nz b Wg undef undef) (ops₀:=qN) (i₀:=0) (rest₀:=[]) (k₀:=[.code (.region 1 ny false)]) (cs:=[bot]) Tryz.vG p (λw x h=>j w _ x rfl h) (λw x h=>j w _ x rfl h) rfl g w
 refine⟨_,xN s ?_,?_⟩;rintro g w ⟨rfl,t,u⟩;exact FA m w ⟨t,u⟩;suffices h:WK PR 241 Wg false rd (Tv PR 241 Wg rd λo g w=>o=dE/\AnchWN Tryz.link (λw=>w.cell? ⟨b,0,none⟩=some (.chan (some d))) Wg (CO.at (nz b Wg undef undef) [.inRegion qN [0],.code (.region 1 ny false)]) [bot] g w) dE (KC b Wg d) (born PR (call191 b Wg))from h w l;refine WK.ctl i rfl (Ol b Wg) ?_;simp only[Bh,Tryz.f191,kF];refine WK.ctl i rfl (λ_=>dA) ?_;refine WK.ctl i rfl (λ_=>gJ) ?_;simp only[ia,fq,gl,Nat.reduceAdd,dB,List.range,List.range.loop];refine WK.enter (f:=Tryz.link.wait) (fn:=waitFn Tryz.link) (c:=body_wait Tryz.link) i rfl rfl (by k_ne) rfl Tryz.vG.f_wait (nm_wait Tryz.link) (by kernel_rfl) ?_;intro w l;rw[enter_at (fn:=waitFn Tryz.link) (c:=body_wait Tryz.link) _ Tryz.vG.f_wait (by kernel_rfl)]
 have v:=Fu (L:=Tryz.link) (main:=false) (R:=ez dE rd (Lv 241 Wg)) (Wg:=Wg) (F:=λw=>w.cell? ⟨b,0,none⟩=some (.chan (some d)))
  (b₀:=CO) (a₀:=nz b Wg undef undef) (ops₀:=qN) (i₀:=0) (rest₀:=[]) (k₀:=[.code (.region 1 ny false)]) (cs:=[bot]) Tryz.vG p w ⟨l.o,l.live⟩
 obtain⟨k,y⟩:=v;have z:=CN y;have A:Array.map (nz b Wg undef undef).eval #[Operand.tmp 0]=#[Value.pointer (some ⟨Wg,0,none⟩)]:=by simp[nz,Act.eval]
 change Wy PR 241 Wg false rd _ dE (G ((base Tryz.link.wait).at {tmps:=Array.map (nz b Wg undef undef).eval #[Operand.tmp 0]++Array.replicate ((waitFn Tryz.link).ntmps-(Array.map (nz b Wg undef undef).eval #[Operand.tmp 0]).size) undef,defers:=[]} [.code (body_wait Tryz.link)]) (CO.at (nz b Wg undef undef) [.inRegion qN [0],.code (.region 1 ny false)]::[bot])) w;rw[A];exact z
noncomputable def xO:Array Oper:=(λ(x:Array Oper) (_:gB Tryz.f163 0=.region 0 x false)=>x) _ (by conv=>lhs;whnf)
noncomputable def xP:Array Oper:=(λ(x:Array Oper) (_:gB Tryz.f163 1=.region 1 x false)=>x) _ (by conv=>lhs;whnf)
noncomputable def CP:Array Oper:=(λ(x:Array Oper) (_:gB Tryz.f163 2=.region 2 x false)=>x) _ (by conv=>lhs;whnf)
noncomputable def CQ:Array Oper:=(λ(x:Array Oper) (_:gB Tryz.f163 3=.region 3 x false)=>x) _ (by conv=>lhs;whnf)
noncomputable def CR:Array Oper:=(λ(x:Array Oper) (_:gB Tryz.f163 4=.region 4 x false)=>x) _ (by conv=>lhs;whnf)
noncomputable def CS:Array Oper:=(λ(x:Array Oper) (_:gB Tryz.f163 5=.region 5 x false)=>x) _ (by conv=>lhs;whnf)
noncomputable def xQ:Array Oper:=(λ(x:Array Oper) (_:gB Tryz.f163 6=.region 6 x false)=>x) _ (by conv=>lhs;whnf)
noncomputable def CU:Array Oper:=(λ(x:Array Oper) (_:gB Tryz.f163 7=.region 7 x false)=>x) _ (by conv=>lhs;whnf)
noncomputable def qO:Array Oper:=(λ(x:Array Oper) (_:gB Tryz.f163 8=.region 8 x false)=>x) _ (by conv=>lhs;whnf)
noncomputable def nA:Array Oper:=(λ(x:Array Oper) (_:gB Tryz.f163 9=.region 9 x false)=>x) _ (by conv=>lhs;whnf)
noncomputable def lK:Array Oper:=(λ(x:Array Oper) (_:gB Tryz.f163 10=.region 10 x false)=>x) _ (by conv=>lhs;whnf)
noncomputable def rP:Array Oper:=(λ(x:Array Oper) (_:gB Tryz.f163 11=.region 11 x false)=>x) _ (by conv=>lhs;whnf)
noncomputable def mV:Array Oper:=(λ(x:Array Oper) (_:gB Tryz.f163 12=.region 12 x false)=>x) _ (by conv=>lhs;whnf)
noncomputable def uV:Array Oper:=(λ(x:Array Oper) (_:gB Tryz.f163 13=.region 13 x false)=>x) _ (by conv=>lhs;whnf)
noncomputable def lL:Array Oper:=(λ(x:Array Oper) (_:gB Tryz.f163 14=.region 14 x false)=>x) _ (by conv=>lhs;whnf)
noncomputable def uW:Array Oper:=(λ(x:Array Oper) (_:gB Tryz.f163 15=.region 15 x false)=>x) _ (by conv=>lhs;whnf)
noncomputable def uX:Array Oper:=(λ(x:Array Oper) (_:gB Tryz.f163 16=.region 16 x false)=>x) _ (by conv=>lhs;whnf)
noncomputable def Ah:Array Oper:=(λ(x:Array Oper) (_:gB Tryz.f163 17=.region 17 x false)=>x) _ (by conv=>lhs;whnf)
noncomputable def fZ:Code:=(Go.Code.region 6 xQ false).seq ((Go.Code.cond (Go.Operand.tmp 24) Go.Code.skip (Go.Code.exit 0)).seq ((Go.Code.block 1 ((Go.Code.region 7 CU false).seq ((Go.Code.region 8 qO false).seq (Go.Code.region 9 nA false)))).seq (Go.Code.region 10 lK false)))
noncomputable def od:Code:=(Go.Code.region 14 lL false).seq ((Go.Code.cond (Go.Operand.tmp 40) Go.Code.skip (Go.Code.exit 2)).seq (Go.Code.block 3 ((Go.Code.region 15 uW false).seq (Go.Code.region 16 uX false))))
noncomputable def kX:Code:=(Go.Code.region 17 Ah false).seq Go.Code.ret
noncomputable def iS:Code:=(Go.Code.region 11 rP false).seq ((Go.Code.region 12 mV false).seq (((Go.Code.region 13 uV false).seq (Go.Code.block 2 od.loop)).seq kX))
noncomputable def tV:Code:=(Go.Code.region 0 xO false).seq (((Go.Code.region 1 xP false).seq (Go.Code.cond (Go.Operand.tmp 13) ((Go.Code.region 2 CP false).seq Go.Code.ret) Go.Code.skip)).seq ((Go.Code.region 3 CQ false).seq ((Go.Code.region 4 CR false).seq (((Go.Code.region 5 CS false).seq (Go.Code.block 0 fZ.loop)).seq iS))))
def xR:Tryz.f163.body=some tV:=by kernel_rfl
noncomputable def kL:Frame:=base 163
structure qP where
 (x0 x2 x8 x9 Vi Vj Vk Vl Vm Vn Vo Vp Vq Vr Vs Vt:di)
noncomputable def mK(e:qP)(pc oc Wg n i:Nat)(g a b c d f:di):Act:=
 ⟨#[e.x0,.pointer (some ⟨pc,0,none⟩),e.x2,.pointer (some ⟨oc,0,none⟩),.pointer (some ⟨Wg,0,none⟩),g,undef,undef,e.x8,e.x9,e.Vi,e.Vj,e.Vk,e.Vl,e.Vm,e.Vn,e.Vo,e.Vp,e.Vq,e.Vr,e.Vs,e.Vt,.int .i64 n,.int .i64 i,a,b,c,d,f,undef,undef,undef,undef,undef,undef,undef,undef,undef,undef,undef,undef,undef,undef,undef,undef,undef,undef,undef,undef,undef,undef,undef],[]⟩
structure Om(pc oc Wg Ch:Nat)(pl:Addr)(rd:Nat->Prop)(Q:dg->Prop)(w:dg):Prop where
 p:w.cell? ⟨pc,0,none⟩=some (.pointer (some pl))
 o:w.cell? ⟨oc,0,none⟩=some (.chan (some Ch))
 r:∀b,rd b->b<w.heap.size
 q:Q w
def qQ(rd:Nat->Prop)(Q:dg->Prop):Prop:=∀w a:dg,(∀b,rd b->a.heap[b]? =w.heap[b]?)->Q w->Q a
structure KS(pc oc Wg Ch:Nat)(pl:Addr)(rd:Nat->Prop)(Q:dg->Prop)(w:dg):Prop where
 k:Om pc oc Wg Ch pl rd Q w
 live:Lv 241 Wg w
section
variable{pc oc Wg Ch:Nat}{pl:Addr}{Q:dg->Prop}{own rd:Nat->Prop}
def Om.same{w w':dg}(h:Om pc oc Wg Ch pl rd Q w)(c:rd pc)(d:rd oc)(e:qQ rd Q)(f:w.heap.size<=w'.heap.size)(a:∀b,rd b->w'.heap[b]? =w.heap[b]?):Om pc oc Wg Ch pl rd Q w':=
 ⟨(gX (a pc c)).trans h.p,(gX (a oc d)).trans h.o,λb g=>eh (h.r b g) f,e w w' a h.q⟩
def Om.rely{L:dg->Prop}(d:rd pc)(e:rd oc)(f:qQ rd Q):nU own rd L (Om pc oc Wg Ch pl rd Q):=
 λ_ _ a h=>h.same d e f a.size λb c=>a.heap b (h.r b c) (.inr c)
theorem KS.rely(b:rd pc)(c:rd oc)(d:qQ rd Q):nU own rd (Lv 241 Wg) (KS pc oc Wg Ch pl rd Q):=
 λw e a h=>⟨Om.rely b c d w e a h.k,a.live h.live⟩
end
def FB{e:qP}{pc oc Wg Ch n:Nat}{pl:Addr}{Q:dg->Prop}{rd:Nat->Prop}{S:ij}{f:List Frame}(g:rd pc)(h:rd oc)(i:qQ rd Q){b c d:di} (j:∀y,WK PR 241 Wg true rd S dE (KS pc oc Wg Ch pl rd Q) (G (kL.at (mK e pc oc Wg n n x y z b c d) [.code iS]) f)):WK PR 241 Wg true rd S dE (KS pc oc Wg Ch pl rd Q) (G (kL.at (mK e pc oc Wg n n x y z b c d) [.code fZ,.inLoop fZ,.inBlock 0,.code iS]) f):=by have a:nU dE rd (Lv 241 Wg) (KS pc oc Wg Ch pl rd Q):=KS.rely g h i;refine WK.ctl a rfl (λ_=>dA) ?_;refine WK.ctl a rfl (λ_=>gJ) ?_;simp only[xQ,mK,ia,fq,gl,Nat.reduceAdd,dB,List.range,List.range.loop];refine WK.val (v:=.bool false) a rfl rfl (by k_ne) (λw=>?_) (λw=>?_) ?_;go_simp;simp[go_sem];walk_nrm;refine WK.ctl a rfl (λ_=>du) ?_;refine WK.ctl a rfl (λ_=>dA) ?_;refine WK.ctl a rfl (λ_=>stepG_cond (t:=false) rfl) ?_;refine WK.ctl a rfl (λ_=>stepG_exit rfl) ?_;exact j (.bool false)
def sW{w:dg}{a:Addr}{c Wg:Nat}(h:Wg≠a.block)(b:Lv c Wg w):Lv c Wg (w.setCell a x):=by obtain⟨d,e,b⟩:=b;exact⟨d,e,(eU w a x Wg h).trans b⟩
structure RL(pc oc Wg Ch ic:Nat)(pl:Addr)(rd:Nat->Prop)(Q:dg->Prop)(v:Int)(w:dg):Prop where
 s:Om pc oc Wg Ch pl rd Q w
 i:w.heap[ic]? =some (.cells #[.int .i64 v] 3)
 lr:∀b,rd b->b<ic
 lw:Wg<ic
structure KI(pc oc Wg Ch ic:Nat)(pl:Addr)(rd:Nat->Prop)(Q:dg->Prop)(v:Int)(w:dg):Prop where
 k:RL pc oc Wg Ch ic pl rd Q v w
 live:Lv 241 Wg w
section
variable{pc oc Wg Ch ic:Nat}{pl:Addr}{Q:dg->Prop}{own rd:Nat->Prop}{v:Int}
theorem RL.rely{L:dg->Prop}(b:rd pc)(c:rd oc)(d:own ic)(e:qQ rd Q):nU own rd L (RL pc oc Wg Ch ic pl rd Q v):=
 λw f a h=>⟨Om.rely b c e w f a h.s,a.obj (.inl d) h.i,h.lr,h.lw⟩
theorem KI.rely(b:rd pc)(c:rd oc)(d:own ic)(e:qQ rd Q):nU own rd (Lv 241 Wg) (KI pc oc Wg Ch ic pl rd Q v):=
 λw f a h=>⟨RL.rely b c d e w f a h.k,a.live h.live⟩
end
def Bi{a:dZ->di}{o:Oper}{x:dZ}{f:ej}{cs:Array di}(b:o.op=.go {callee:=.value x,args:=#[],argTypes:=#[]})(c:a x=.func (.func f) #[] cs)(w:dg):(execOp a o).run PR w=.ok (.spawn {target:=.fn (.func f) cs,args:=#[]}) w/\(execOp a o).events PR w #[]=#[]:=by constructor;simp[execOp,b,c,resolve,Deferred.ofValue];simp[execOp,b,c,resolve,Deferred.ofValue]
def FC{e:qP}{pc oc Wg Ch n i:Nat}{pl:Addr}{Q:dg->Prop}{rd:Nat->Prop}{val:Nat->di->(Nat->Prop)->dg->Prop}{S:ij}{cs:List Frame}(I:i<n)(O:n<2^62)(l:rd pc)(u:rd oc)(J:¬rd Wg)(y:qQ rd Q){x5 x24 x25 x26 x27 x28:di}
 (z:∀ic w,KW pc ic oc Wg Ch pl i (λw=>Q w/\∀b,rd b->b<w.heap.size) w->Wy PR 241 Wg false (λb=>rd b\/b=ic) (Sends PR 241 Wg Ch val i) dE (born PR (call188 pc ic oc Wg)) w)
 (A:∀x5 x24 x25 x26 x27 x28,WK PR 241 Wg true rd S dE (KS pc oc Wg Ch pl rd Q) (G (kL.at (mK e pc oc Wg n (i+1) x5 x24 x25 x26 x27 x28) [.code fZ,.inLoop fZ,.inBlock 0,.code iS]) cs)):WK PR 241 Wg true rd (Sm PR 241 Wg Ch rd val i (Wy PR 241 Wg true rd S)) dE (KS pc oc Wg Ch pl rd Q) (G (kL.at (mK e pc oc Wg n i x5 x24 x25 x26 x27 x28) [.code fZ,.inLoop fZ,.inBlock 0,.code iS]) cs):=by
 have a:nU dE rd (Lv 241 Wg) (KS pc oc Wg Ch pl rd Q):=KS.rely l u y;refine WK.ctl a rfl (λ_=>dA) ?_;refine WK.ctl a rfl (λ_=>gJ) ?_;simp only[xQ,mK,ia,fq,gl,Nat.reduceAdd,dB,List.range,List.range.loop];refine WK.val (v:=.bool true) a rfl rfl (by k_ne) (λw=>?_) (λw=>?_) ?_
 ·go_simp;first|done|simp[I]
 simp[go_sem];walk_nrm;refine WK.ctl a rfl (λ_=>du) ?_;refine WK.ctl a rfl (λ_=>dA) ?_;refine WK.ctl a rfl (λ_=>stepG_cond (t:=true) rfl) ?_;simp only[ei];refine WK.ctl a rfl (λ_=>fi) ?_;refine WK.ctl a rfl (λ_=>dA) ?_;refine WK.ctl a rfl (λ_=>qA) ?_;refine WK.ctl a rfl (λ_=>dA) ?_;refine WK.ctl a rfl (λ_=>gJ) ?_;simp only[CU,ia,fq,gl,Nat.reduceAdd,dB,List.range,List.range.loop];refine WK.val (v:=?_) a rfl rfl (by k_ne) (λw=>?_) (λw=>?_) ?_;rotate_left;go_simp;rfl;go_simp;walk_nrm;refine WK.new (f:=λn=>.pointer (some ⟨n,0,none⟩)) (ob:=.cells #[.int .i64 0] 3) a rfl rfl (by k_ne) (λw d=>?_) (λw d e C=>?_) (λic=>?_);go_simp;first|rfl|skip
 simp[go_sem]at C;refine WK.mono (K':=KI pc oc Wg Ch ic pl rd Q 0) ?_ ?_;rotate_left;rintro w ⟨D,d,rfl,K⟩;obtain⟨Z,sm,U⟩:=d.live;have M:KI pc oc Wg Ch D.heap.size pl rd Q 0 {D with heap:=D.heap.push (.cells #[.int .i64 0] 3)}:=⟨⟨d.k.same l u y (by simp) λb B=>by have:=d.k.r b B;show(D.heap.push _)[b]? =_;rw[nX];split;omega;rfl,by simp,d.k.r,lt_of_heap U⟩,rO d.live⟩;exact KI.rely l u (.inr rfl) y _ _ K M;have E:nU (λx=>dE x\/x=ic) rd (Lv 241 Wg) (KI pc oc Wg Ch ic pl rd Q 0):=KI.rely l u (.inr rfl) y;walk_nrm;refine WK.store (ad:=⟨ic,0,none⟩) (x:=.int .i64 i) E rfl rfl (by k_ne) (.inr rfl) (λw d=>?_) (λw d e C=>?_) ?_;have H:w.cell? ⟨ic,0,none⟩=some (.int .i64 0):=by simp[World.cell?,d.k.i]
 have P:w.frozen? ⟨ic,0,none⟩=false:=by simp[World.frozen?,d.k.i]
 go_simp;have H:w.cell? ⟨ic,0,none⟩=some (.int .i64 0):=by simp[World.cell?,d.k.i]
 have P:w.frozen? ⟨ic,0,none⟩=false:=by simp[World.frozen?,d.k.i]
 simp[go_sem,H,P]at C;exact .inl ⟨_,_,C,.inl (.inr rfl)⟩;refine WK.mono (K':=KI pc oc Wg Ch ic pl rd Q i) ?_ ?_;rotate_left;rintro w ⟨D,d,K⟩
 have M:KI pc oc Wg Ch ic pl rd Q i (D.setCell ⟨ic,0,none⟩ (.int .i64 i)):=⟨⟨d.k.s.same l u y (by simp[World.setCell]) λb B=>eU _ _ _ _ (by have:=d.k.lr b B;simp;omega),
  by simp[World.setCell,nd,d.k.i],d.k.lr,d.k.lw⟩,sW (by have:=d.k.lw;simp;omega) d.live⟩
 exact KI.rely l u (.inr rfl) y _ _ K M;have j:nU (λx=>dE x\/x=ic) rd (Lv 241 Wg) (KI pc oc Wg Ch ic pl rd Q i):=KI.rely l u (.inr rfl) y;refine WK.ctl j rfl (λ_=>du) ?_;refine WK.ctl j rfl (λ_=>dA) ?_;refine WK.ctl j rfl (λ_=>gJ) ?_;simp only[qO,ia,fq,gl,Nat.reduceAdd,dB,List.range,List.range.loop];refine WK.enter (f:=Tryz.link.add) (fn:=addFn Tryz.link) (c:=body_add Tryz.link) j rfl rfl (by k_ne) rfl Tryz.vG.f_add (nm_add Tryz.link) (by kernel_rfl) ?_;intro w T;rw[enter_at (fn:=addFn Tryz.link) (c:=body_add Tryz.link) _ Tryz.vG.f_add (by kernel_rfl)]
 obtain⟨m,C⟩:=Uf (L:=Tryz.link) (main:=true) (R:=ez (λx=>dE x\/x=ic) rd (Lv 241 Wg)) (Wg:=Wg) (F:=RL pc oc Wg Ch ic pl rd Q i)
  (b₀:=kL) (a₀:=mK e pc oc Wg n i (.pointer (some ⟨ic,0,none⟩)) (.bool true) (.int .i64 i) x26 x27 x28) (ops₀:=qO) (i₀:=0) (rest₀:=[]) (k₀:=[.code (Go.Code.region 9 nA false),.inBlock 1,.code (Go.Code.region 10 lK false),.inLoop fZ,.inBlock 0,.code iS]) (cs:=cs) Tryz.vG (λh r=>⟨RL.rely l u (.inr rfl) y _ _ r h.1,r.live h.2⟩) (λw x h=>⟨h.s.same l u y (by simp[World.setCell]) λb B=>eU _ _ _ _ (λe=>J (by rw[show Wg=b from e.symm];exact B)),(eU _ _ _ _ (by have:=h.lw;simp[stA];omega)).trans h.i,h.lr,h.lw⟩) rfl w ⟨T.k,T.live⟩
 have H:=Fw (Ch:=Ch) (val:=val) (i:=i) (Next:=Wy PR 241 Wg true rd S) C ?_;have V:Array.map (mK e pc oc Wg n i (.pointer (some ⟨ic,0,none⟩)) (.bool true) (.int .i64 i) x26 x27 x28).eval #[Operand.tmp 4,Operand.const (Value.int IntKind.i64 1)]=#[Value.pointer (some ⟨Wg,0,none⟩),.int .i64 1]:=by simp[mK,Act.eval]
 change Wy PR 241 Wg true rd _ (λx=>dE x\/x=ic) (G ((base Tryz.link.add).at {tmps:=Array.map (mK e pc oc Wg n i (.pointer (some ⟨ic,0,none⟩)) (.bool true) (.int .i64 i) x26 x27 x28).eval #[Operand.tmp 4,Operand.const (Value.int IntKind.i64 1)]++Array.replicate ((addFn Tryz.link).ntmps-(Array.map (mK e pc oc Wg n i (.pointer (some ⟨ic,0,none⟩)) (.bool true) (.int .i64 i) x26 x27 x28).eval #[Operand.tmp 4,Operand.const (Value.int IntKind.i64 1)]).size) undef,defers:=[]} [.code (body_add Tryz.link)])
  (kL.at (mK e pc oc Wg n i (.pointer (some ⟨ic,0,none⟩)) (.bool true) (.int .i64 i) x26 x27 x28) [.inRegion qO [0],.code (Go.Code.region 9 nA false),.inBlock 1,.code (Go.Code.region 10 lK false),.inLoop fZ,.inBlock 0,.code iS]::cs)) w
 rw[V];exact H
 ·rintro g w ⟨rfl,N,W⟩
  suffices h:WK PR 241 Wg true rd (Tw PR 241 Wg Ch rd val i (Wy PR 241 Wg true rd S)) (λx=>dE x\/x=ic) (KI pc oc Wg Ch ic pl rd Q i)
   (G (kL.at (mK e pc oc Wg n i (.pointer (some ⟨ic,0,none⟩)) (.bool true) (.int .i64 i) (.tuple #[]) x27 x28) [.inRegion qO [],.code (Go.Code.region 9 nA false),.inBlock 1,.code (Go.Code.region 10 lK false),.inLoop fZ,.inBlock 0,.code iS]) cs)from h w ⟨N,W⟩
  refine WK.ctl j rfl (λ_=>du) ?_;refine WK.ctl j rfl (λ_=>gJ) ?_;simp only[nA,mK,ia,fq,gl,Nat.reduceAdd,dB,List.range,List.range.loop];refine WK.val (v:=?_) j rfl rfl (by k_ne) (λw=>?_) (λw=>?_) ?_;rotate_left;go_simp;rfl;rfl;walk_nrm;refine WK.stop j λw d=>⟨rfl,G (kL.at (mK e pc oc Wg n i (.pointer (some ⟨ic,0,none⟩)) (.bool true) (.int .i64 i) (.tuple #[]) (.func (.func 188) #[] (CI pc ic oc Wg)) x28) [.inRegion nA [],.inBlock 1,.code (Go.Code.region 10 lK false),.inLoop fZ,.inBlock 0,.code iS]) cs,born PR (call188 pc ic oc Wg),λx=>x=ic,(stepG_spawn rfl rfl (by k_ne) (Bi (f:=188) (cs:=CI pc ic oc Wg) rfl rfl w).1 rfl).trans ?_,rfl,λb B=>.inr B,?_,?_⟩;unfold listed;rw[(Bi (f:=188) (cs:=CI pc ic oc Wg) rfl rfl w).2,seen_none];rfl;exact z ic w ⟨d.k.s.p,by simp[World.cell?,d.k.i],d.k.s.o,d.live,d.k.s.q,d.k.s.r⟩
  ·have X:(λb=>(dE b\/b=ic)/\¬b=ic)=dE:=by
    funext b;exact propext ⟨λ⟨h,Y⟩=>h.elim id λh=>Y h,λh=>h.elim⟩
   rw[X];suffices h:WK PR 241 Wg true rd S dE (KS pc oc Wg Ch pl rd Q) (G (kL.at (mK e pc oc Wg n i (.pointer (some ⟨ic,0,none⟩)) (.bool true) (.int .i64 i) (.tuple #[]) (.func (.func 188) #[] (CI pc ic oc Wg)) x28) [.inRegion nA [],.inBlock 1,.code (Go.Code.region 10 lK false),.inLoop fZ,.inBlock 0,.code iS]) cs)from h w ⟨d.k.s,d.live⟩;refine WK.ctl a rfl (λ_=>du) ?_;refine WK.ctl a rfl (λ_=>stepG_inBlock) ?_;refine WK.ctl a rfl (λ_=>gJ) ?_;simp only[lK,mK,ia,fq,gl,Nat.reduceAdd,dB,List.range,List.range.loop];refine WK.val (v:=.int .i64 ((i+1:Nat):Int)) a rfl rfl (by k_ne) (λw=>?_) (λw=>?_) ?_;go_simp;rw[IntKind.wrap_i64];omega;simp[go_sem];walk_nrm;refine WK.val (v:=?_) a rfl rfl (by k_ne) (λw=>?_) (λw=>?_) ?_;rotate_left;go_simp;rfl;go_simp;walk_nrm;refine WK.ctl a rfl (λ_=>du) ?_;refine WK.ctl a rfl (λ_=>stepG_inLoop) ?_;exact A _ _ _ _ _ _
def Sr(c d n:Nat)(e:Nat->Prop)(a:Nat->di->(Nat->Prop)->dg->Prop)(b:ij):Nat->ij
 |0=>KE PR 241 c d n e a b
 |r+1=>Sm PR 241 c d e a (n-(r+1)) (oA PR 241 c d n e a b r)
def Ai(c e n:Nat)(d:Nat->Prop)(a:Nat->di->(Nat->Prop)->dg->Prop)(b:ij):∀r,oA PR 241 c e n d a b r=Wy PR 241 c true d (Sr c e n d a b r)
 |0=>rfl
 |_+1=>rfl
def QV{e:qP}{pl:Addr}{Q:dg->Prop}{val:Nat->di->(Nat->Prop)->dg->Prop}{End:ij}{cs:List Frame}(d:p<2^62)(l:A m)(n:A k)(g:¬A j)(q:qQ A Q)
 (a:∀i f w,i<p->KW m f k j o pl i (λw=>Q w/\∀b,A b->b<w.heap.size) w->Wy PR 241 j false (λb=>A b\/b=f) (Sends PR 241 j o val i) dE (born PR (call188 m f k j)) w)
 (c:∀x5 x24 x25 x26 x27 x28,WK PR 241 j true A (KE PR 241 j o p A val End) dE (KS m k j o pl A Q) (G (kL.at (mK e m k j p p x5 x24 x25 x26 x27 x28) [.code iS]) cs)):∀r,r<=p->∀x5 x24 x25 x26 x27 x28,WK PR 241 j true A (Sr j o p A val End r) dE (KS m k j o pl A Q) (G (kL.at (mK e m k j p (p-r) x5 x24 x25 x26 x27 x28) [.code fZ,.inLoop fZ,.inBlock 0,.code iS]) cs):=by
 intro r;induction r with
 |zero=>
  intro _ x5 x24 x25 x26 x27 x28;rw[Nat.sub_zero];exact FB l n q λx24=>c _ _ _ _ _ _
 |succ r s=>
  intro u x5 x24 x25 x26 x27 x28;have h:=FC (e:=e) (cs:=cs) (val:=val) (i:=p-(r+1)) (S:=Sr j o p A val End r) (by omega) d l n g q (x5:=x5) (x24:=x24) (x25:=x25) (x26:=x26) (x27:=x27) (x28:=x28) (λf w t=>a _ f w (by omega) t) (λx5 x24 x25 x26 x27 x28=>by have:=s (by omega) x5 x24 x25 x26 x27 x28;rwa[show p-r=p-(r+1)+1 by omega]at this);rw[<-Ai]at h;exact h
noncomputable def xS(e:qP)(B C D n:Nat)(E F G a b c d f g h i j k l m o p q r s t u v w x y z A:di):Act:=
 ⟨#[e.x0,.pointer (some ⟨B,0,none⟩),e.x2,.pointer (some ⟨C,0,none⟩),.pointer (some ⟨D,0,none⟩),E,F,G,e.x8,e.x9,e.Vi,e.Vj,e.Vk,e.Vl,e.Vm,e.Vn,e.Vo,e.Vp,e.Vq,e.Vr,e.Vs,e.Vt,.int .i64 n,a,b,c,d,f,g,h,i,j,k,l,m,o,p,q,r,s,t,u,v,w,x,y,z,A,undef,undef,undef,undef],[]⟩
structure K9(pb:Nat)(la:Addr)(L C:Nat)(a0:Option Addr)(n c0:Nat)(w:dg):Prop where
 f2:w.cell? ⟨pb,2,none⟩=some (.slice (some la) L C)
 l0:w.cell? la=some (.slice a0 n c0)
noncomputable def nB:Code:=((Go.Code.region 13 uV false).seq (Go.Code.block 2 od.loop))
def CV{e:qP}{rd:Nat->Prop}{q:Nat->di->(Nat->Prop)->dg->Prop}{r:ij}{cs:List Frame}(C:rd m)(u:rd k)(x:¬rd i)(D:qQ rd S)
 (s:∀t y c d g l n A,WK PR 241 i true rd (n7 PR 241 i j o rd q r z o (λ_=>false)) dE (KS m k i j ⟨p,0,none⟩ rd S)
  (G (kL.at (xS e m k i o t undef undef y c d g l n A undef undef undef undef undef undef undef undef undef undef undef undef undef undef undef undef undef undef) [.code (Go.Code.region 12 mV false),.code (nB.seq kX)]) cs))
 (t c d g l n:di):WK PR 241 i true rd (KE PR 241 i j o rd q r) dE (KS m k i j ⟨p,0,none⟩ rd S) (G (kL.at (mK e m k i o o t c d g l n) [.code iS]) cs):=by
 have a:nU dE rd (Lv 241 i) (KS m k i j ⟨p,0,none⟩ rd S):=KS.rely C u D;refine WK.ctl a rfl (λ_=>dA) ?_;refine WK.ctl a rfl (λ_=>gJ) ?_;simp only[rP,mK,ia,fq,gl,Nat.reduceAdd,dB,List.range,List.range.loop];refine WK.val (v:=?_) a rfl rfl (by k_ne) (λw=>?_) (λw=>?_) ?_;rotate_left;go_simp;rfl;rfl;walk_nrm
 refine WK.stop a λw B=>⟨rfl,G (kL.at (xS e m k i o t undef undef (.int .i64 o) c d g l n (.func (.func 191) #[] #[.pointer (some ⟨i,0,none⟩),.pointer (some ⟨k,0,none⟩)]) undef undef undef undef undef undef undef undef undef undef undef undef undef undef undef undef undef undef)
  [.inRegion rP [],.code ((Go.Code.region 12 mV false).seq (nB.seq kX))]) cs,born PR (call191 k i),dE,z,(stepG_spawn rfl rfl (by k_ne) (Bi (f:=191) (cs:=#[.pointer (some ⟨i,0,none⟩),.pointer (some ⟨k,0,none⟩)]) rfl rfl w).1 rfl).trans ?_,rfl,λb E=>E.elim,?_,?_⟩
 unfold listed;rw[(Bi (f:=191) (cs:=#[.pointer (some ⟨i,0,none⟩),.pointer (some ⟨k,0,none⟩)]) rfl rfl w).2,seen_none];rfl;refine closer (rd:=λb=>rd b\/dE b) (.inl u) (λe=>x (by rw[<-e];exact u)) w ⟨B.k.o,B.live⟩;have F:(λb=>dE b/\¬dE b)=dE:=by funext b;exact propext ⟨λh=>h.1,λh=>h.elim⟩
 rw[F]
 suffices h:WK PR 241 i true rd (n7 PR 241 i j o rd q r z o (λ_=>false)) dE (KS m k i j ⟨p,0,none⟩ rd S) (G (kL.at (xS e m k i o t undef undef (.int .i64 o) c d g l n (.func (.func 191) #[] #[.pointer (some ⟨i,0,none⟩),.pointer (some ⟨k,0,none⟩)]) undef undef undef undef undef undef undef undef undef undef undef undef undef undef undef undef undef undef)
  [.inRegion rP [],.code ((Go.Code.region 12 mV false).seq (nB.seq kX))]) cs)from h w B
 refine WK.ctl a rfl (λ_=>du) ?_;refine WK.ctl a rfl (λ_=>dA) ?_;exact s _ _ _ _ _ _ _ _
end Go.Proofs.W
namespace Go.Proofs.W
open Go.Conc Go.dG Go.dG.Cr Go.dG.Wg Go.RowKit Go.Conc.Lib Go.ConcR.Gen
def mu:di:=.agg #[.slice none 0 0,.int .i64 0,.int .i64 0,.bool false]
noncomputable def i199:TypeInfo:=(PR.info? 199).getD default
def Hk:PR.info? 199=some i199:=by kernel_rfl
def On:i199.size=4:=by kernel_rfl
def xT:i199.bytes=48:=by kernel_rfl
def Hl:i199.zero=some mu:=by kernel_rfl
def CW:PR.underlying 248=some (.slice 199):=by kernel_rfl
def Oo(a:m<=65536)(w:dg):(Instr.makeSlice 248 (.int .i64 m) (.int .i64 m)).run PR w=.ok (.slice (some ⟨w.heap.size,0,none⟩) m m) (w.alloc (.cells (madeCells mu.cells (m*4)) 199)):=by have:=run_make (P:=PR) w 248 199 i199 mu CW Hk Hl .i64 .i64 (m:Int) (m:Int) (by omega) (by omega) (by rw[xT];omega) (by omega);simpa[On]using this
def La(a:m<=65536)(w:dg):(Instr.makeSlice 248 (.int .i64 m) (.int .i64 m)).events PR w #[]=#[]:=
 events_make (P:=PR) w 248 199 i199 mu CW Hk Hl .i64 .i64 (m:Int) (m:Int) (by omega) (by omega) (by rw[xT];omega) (by omega) (by rw[xT];omega) #[]
end Go.Proofs.W
namespace Go.Proofs.W
open Go.Conc Go.dG Go.dG.Cr Go.dG.Wg Go.RowKit Go.Conc.Lib Go.ConcR.Gen
open Go.ConcN Go.ConcN.Gen
open Go.ConcR (KK wgBlock WgAt stA smA mk DC0)
structure KA(pc oc Wg Ch A pb:Nat)(rd:Nat->Prop)(Q:dg->Prop)(R:Array di->Prop)(w:dg):Prop where
 s:KS pc oc Wg Ch ⟨pb,0,none⟩ rd Q w
 a:∃cs,w.heap[A]? =some (.cells cs 199)/\R cs
 lr:∀b,rd b->b<A
 lw:Wg<A
theorem KA.rely{b c d f A pb:Nat}{Q:dg->Prop}{R:Array di->Prop}{own rd:Nat->Prop}(g:rd b)(i:rd c)(j:own A)(k:qQ rd Q):nU own rd (Lv 241 d) (KA b c d f A pb rd Q R):=
 λw l e h=>⟨KS.rely g i k w l e h.s,h.a.imp λ_ h=>⟨e.obj (.inl j) h.1,h.2⟩,h.lr,h.lw⟩
def FD{e:qP}{Y:Nat}{Z:ij}{cs:List Frame}(hn:o<=65536)(B:A m)(K:A k)(L:qQ A S)(hL:0<s) (z:∀w,S w->K9 p h s d a o Y w)(O:A p)(P:A h.block) (x5 C D E F H I J:di)
 (y:∀n Q R T U V W X,WK PR 241 i true A Z (λx=>dE x\/x=n) (KA m k i j n p A S (·=madeCells mu.cells (o*4)))
  (G (kL.at (xS e m k i o x5 (.slice (some ⟨n,0,none⟩) o o) undef C D E F H I J Q R T U V W X (.slice (some ⟨n,0,none⟩) o o) undef undef undef undef undef undef undef undef undef undef) [.code (nB.seq kX)]) cs)):
 WK PR 241 i true A Z dE (KS m k i j ⟨p,0,none⟩ A S) (G (kL.at (xS e m k i o x5 undef undef C D E F H I J undef undef undef undef undef undef undef undef undef undef undef undef undef undef undef undef undef undef) [.code (Go.Code.region 12 mV false),.code (nB.seq kX)]) cs):=by
 have g:nU dE A (Lv 241 i) (KS m k i j ⟨p,0,none⟩ A S):=KS.rely B K L;refine WK.ctl g rfl (λ_=>gJ) ?_;simp only[mV,xS,ia,fq,gl,Nat.reduceAdd,dB,List.range,List.range.loop];refine WK.load (v:=.pointer (some ⟨p,0,none⟩)) g rfl rfl (by k_ne) (λw c=>?_) (λw c e l=>?_) ?_;have t:=(λw c=>c.k.p) w c;go_simp;have t:=(λw c=>c.k.p) w c;simp[go_sem,t]at l;exact .inl ⟨_,_,l,.inr (.inl ⟨rfl,B⟩)⟩;walk_nrm;refine WK.val (v:=?_) g rfl rfl (by k_ne) (λw=>?_) (λw=>?_) ?_;rotate_left;go_simp;rfl;go_simp;walk_nrm;refine WK.val (v:=?_) g rfl rfl (by k_ne) (λw=>?_) (λw=>?_) ?_;rotate_left;go_simp;rfl;go_simp;walk_nrm;refine WK.load (v:=.slice (some h) s d) g rfl rfl (by k_ne) (λw c=>?_) (λw c e l=>?_) ?_;have t:=(λw c=>(z w c.k.q).f2) w c;go_simp;have t:=(λw c=>(z w c.k.q).f2) w c;simp[go_sem,t]at l;exact .inl ⟨_,_,l,.inr (.inl ⟨rfl,O⟩)⟩;walk_nrm;refine WK.val (v:=.pointer (some h)) g rfl rfl (by k_ne) (λw=>?_) (λw=>?_) ?_;go_simp;simp[go_sem];exact events_indexAt_slice _ _ _ _ _ _ (by kernel_rfl) ⟨by omega,by omega⟩;walk_nrm;refine WK.load (v:=.slice a o Y) g rfl rfl (by k_ne) (λw c=>?_) (λw c e l=>?_) ?_;have t:=(λw c=>(z w c.k.q).l0) w c;go_simp;have t:=(λw c=>(z w c.k.q).l0) w c;simp[go_sem,t]at l;exact .inl ⟨_,_,l,.inr (.inl ⟨rfl,P⟩)⟩;walk_nrm;refine WK.val (v:=?_) g rfl rfl (by k_ne) (λw=>?_) (λw=>?_) ?_;rotate_left;go_simp;rfl;go_simp;walk_nrm;refine WK.new (f:=λN=>.slice (some ⟨N,0,none⟩) o o) (ob:=.cells (madeCells mu.cells (o*4)) 199) g rfl rfl (by k_ne) (λw c=>?_) (λw c e l=>?_) (λn=>?_);have:=Oo hn w;go_simp;have:=La hn w;simp[go_sem,this]at l;refine WK.mono (K':=KA m k i j n p A S (·=madeCells mu.cells (o*4))) ?_ ?_;rotate_left;rintro w ⟨M,c,rfl,hr⟩;obtain⟨st,sm,z⟩:=c.live;have hk:KA m k i j M.heap.size p A S (·=madeCells mu.cells (o*4)) {M with heap:=M.heap.push (.cells (madeCells mu.cells (o*4)) 199)}:=⟨⟨c.k.same B K L (by simp) λb hb=>by have:=c.k.r b hb;show(M.heap.push _)[b]? =_;rw[nX];split;omega;rfl,rO c.live⟩,⟨_,by simp,rfl⟩,c.k.r,lt_of_heap z⟩;exact KA.rely B K (.inr rfl) L _ _ hr hk;have u:nU (λx=>dE x\/x=n) A (Lv 241 i) (KA m k i j n p A S (·=madeCells mu.cells (o*4))):=KA.rely B K (.inr rfl) L;walk_nrm;refine WK.val (v:=?_) u rfl rfl (by k_ne) (λw=>?_) (λw=>?_) ?_;rotate_left;go_simp;rfl;go_simp;walk_nrm;refine WK.ctl u rfl (λ_=>du) ?_;exact y _ _ _ _ _ _ _ _
end Go.Proofs.W
namespace Go.Proofs.W
open Go.Conc Go.dG Go.dG.Cr Go.dG.Wg Go.RowKit Go.Conc.Lib Go.ConcR.Gen
def qR:di:=.agg #[.int .i64 0,.slice none 0 0,.int .i64 0,.int .i64 0,.bool false]
def CX{Ch:Nat}{a:dZ->di}{o:Oper}{x:dZ}(b:o.op=.recv 232 x true)(c:a x=.chan (some Ch))(w:dg):(execOp a o).run PR w=.ok (.comm #[rcase Ch qR] true (.recv true)) w:=by
 simp only[execOp,b,c];have d:(zeroValue 247).run PR w=.ok qR w:=by kernel_rfl
 have e:(underlying 232).run PR w=.ok (.chan .both 247) w:=by kernel_rfl
 simp[d,e,rcase]
def vL{Ch:Nat}{c:dZ->di}{o:Oper}{x:dZ}(d:o.op=.recv 232 x true)(e:c x=.chan (some Ch))(w:dg):(execOp c o).events PR w #[]=#[]:=by
 simp only[execOp,d,e];have f:(zeroValue 247).run PR w=.ok qR w:=by kernel_rfl
 have g:(underlying 232).run PR w=.ok (.chan .both 247) w:=by kernel_rfl
 have a:(zeroValue 247).events PR w #[]=#[]:=by kernel_rfl
 have b:(underlying 232).events PR w #[]=#[]:=by kernel_rfl
 simp[f,g,a,b]
end Go.Proofs.W
namespace Go.Proofs.W
open Go.Conc Go.dG Go.dG.Cr Go.dG.Wg Go.RowKit Go.Conc.Lib Go.ConcR.Gen
open Go.ConcN Go.ConcN.Gen
open Go.ConcR (KK wgBlock WgAt stA smA mk DC0)
def xU(Pv:Nat->(Nat->Prop)->dg->di->Prop):Prop:=∀j o w a v,(∀b,o b->a.heap[b]? =w.heap[b]?)->Pv j o w v->Pv j o a v
def nC(a:Option Addr)(c d:Nat)(m k:Int)(b:Bool):di:=.agg #[.slice a c d,.int .i64 m,.int .i64 k,.bool b]
def Bj(i:Int)(a:Option Addr)(c d:Nat)(m k:Int)(b:Bool):di:=.agg #[.int .i64 i,.slice a c d,.int .i64 m,.int .i64 k,.bool b]
def CY(Pv:Nat->(Nat->Prop)->dg->di->Prop):Nat->di->(Nat->Prop)->dg->Prop:=λi v own w=>
 ∃a c d m k b e,v=Bj i a c d m k b/\(∀x,e x->own x/\x<w.heap.size)/\Pv i e w (nC a c d m k b)
def Lb(Pv:Nat->(Nat->Prop)->dg->di->Prop)(own:Nat->Prop)(A:Nat)(w:dg)(a:Array di)(j:Nat):Prop:=
 ∃c d e m k b f,(∀x,f x->own x/\x≠A/\x<w.heap.size)/\a[4*j]? =some (.slice c d e)/\a[4*j+1]? =some (.int .i64 m)/\a[4*j+2]? =some (.int .i64 k)/\a[4*j+3]? =some (.bool b)/\Pv j f w (nC c d e m k b)
structure KR(pc oc Wg Ch A pb n:Nat)(rd:Nat->Prop)(Q:dg->Prop)(Pv:Nat->(Nat->Prop)->dg->di->Prop)(own:Nat->Prop)(S:Nat->Bool)(w:dg):Prop where
 s:KS pc oc Wg Ch ⟨pb,0,none⟩ rd Q w
 a:∃cs,w.heap[A]? =some (.cells cs 199)/\cs.size=n*4/\∀j,j<n->S j=true->Lb Pv own A w cs j
 oa:own A
 lr:∀b,rd b->b<A
 lw:Wg<A
section
variable{pc oc Wg Ch A pb n:Nat}{Q:dg->Prop}{Pv:Nat->(Nat->Prop)->dg->di->Prop}{S:Nat->Bool}{own own' rd:Nat->Prop}
theorem Lb.same(g:xU Pv){w w':dg}{e:Array di}{j:Nat}(h:Lb Pv own A w e j)(i:∀b,own b->own' b)(l:w.heap.size<=w'.heap.size)(n:∀b,own b->b≠A->b<w.heap.size->w'.heap[b]? =w.heap[b]?):Lb Pv own' A w' e j:=by obtain⟨o,p,q,m,k,b,f,a,r,s,t,u,v⟩:=h;exact⟨o,p,q,m,k,b,f,λx c=>⟨i x (a x c).1,(a x c).2.1,eh (a x c).2.2 l⟩,r,s,t,u,g j f w w' _ (λb d=>n b (a b d).1 (a b d).2.1 (a b d).2.2) v⟩
theorem KR.rely(f:rd pc)(g:rd oc)(i:qQ rd Q)(k:xU Pv):nU own rd (Lv 241 Wg) (KR pc oc Wg Ch A pb n rd Q Pv own S):=λw l c h=>by obtain⟨m,o,d,p⟩:=h.a;exact⟨KS.rely f g i w l c h.s,⟨m,c.obj (.inl h.oa) o,d,λj q r=>(p j q r).same k (λ_ h=>h) c.size λb t _ e=>c.heap b e (.inl t)⟩,h.oa,h.lr,h.lw⟩
end
end Go.Proofs.W
namespace Go.Proofs.W
open Go.RowKit
structure SV where
 (sa:Option Addr)(sl sc:Nat)(m k:Int)(b:Bool)
def SV.val(s:SV):di:=.agg #[.slice s.sa s.sl s.sc,.int .i64 s.m,.int .i64 s.k,.bool s.b]
def ik(x y:SV):Bool:=if !x.b||!y.b then x.b else if x.m≠y.m then decide (x.m<y.m)else decide (x.k<y.k)
theorem FE(p:Value)(x y:SV)(w:World):Calls V.prog 194 #[p,x.val,y.val] w λe a=>e=.returned (.bool (ik x y))/\Below w.heap.size w a:=by
 obtain⟨b,c,d,f,g,h⟩:=x
 obtain⟨i,j,k,l,m,n⟩:=y
 simp only[SV.val,ik]
 go_enter V.func194,Tryz.ntmps194
 go_wp2
 all_goals
  go_ret
  exact⟨by simp_all,((Below.refl _ _).alloc (Nat.le_refl _) _).alloc (by simp) _⟩
theorem Bl(p:Value)(x y:SV)(w:World):Calls V.prog 194 #[p,x.val,y.val] w λe a=>e=.returned (.bool (ik x y))/\Below w.heap.size w a/\w.drawn<=a.drawn:=by
 obtain⟨b,c,d,f,g,h⟩:=x
 obtain⟨i,j,k,l,m,n⟩:=y
 simp only[SV.val,ik]
 go_enter V.func194,Tryz.ntmps194
 go_wp2
 all_goals
  go_ret
  exact⟨by simp_all,((Below.refl _ _).alloc (Nat.le_refl _) _).alloc (by simp) _,Nat.le_refl _⟩
def dR:List SV->SV
 |[]=>⟨none,0,0,0,0,false⟩
 |x::b=>b.foldl (λa y=>if ik y a then y else a) x
def tW(l:List SV)(y:SV)(h:l≠[]):dR (l++[y])=if ik y (dR l)=true then y else dR l:=by
 cases l with
 |nil=>exact absurd rfl h
 |cons x a=>rw[dR,oP,dR,xm];rfl
def wB(w:dg)(b o:Nat)(s:SV):Prop:=w.cell? ⟨b,o,none⟩=some (.slice s.sa s.sl s.sc)/\w.cell? ⟨b,o+1,none⟩=some (.int .i64 s.m)/\w.cell? ⟨b,o+2,none⟩=some (.int .i64 s.k)/\w.cell? ⟨b,o+3,none⟩=some (.bool s.b)
def Wd(w:dg)(A:Nat)(a:List SV):Prop:=∀j (h:j<a.length),wB w A (j*4) a[j]
def eI(s:SV):Obj:=.cells #[.slice s.sa s.sl s.sc,.int .i64 s.m,.int .i64 s.k,.bool s.b] 199
def eE{s:SV}(h:w.heap[m]? =some (eI s)):w.cell? ⟨m,0,none⟩=some (.slice s.sa s.sl s.sc)/\w.cell? ⟨m,1,none⟩=some (.int .i64 s.m)/\w.cell? ⟨m,2,none⟩=some (.int .i64 s.k)/\w.cell? ⟨m,3,none⟩=some (.bool s.b)/\w.frozen? ⟨m,0,none⟩=false/\w.frozen? ⟨m,1,none⟩=false/\w.frozen? ⟨m,2,none⟩=false/\w.frozen? ⟨m,3,none⟩=false:=by simp[World.cell?,World.frozen?,h,eI]
def Aj(a:Below m w t):(∀b o,b<m->t.cell? ⟨b,o,none⟩=w.cell? ⟨b,o,none⟩)/\(∀b o,b<m->t.frozen? ⟨b,o,none⟩=w.frozen? ⟨b,o,none⟩):=
 ⟨λb o h=>a.cell (p:=⟨b,o,none⟩) h,λb o h=>a.frozen (p:=⟨b,o,none⟩) h⟩
def wB.below{s:SV}(h:wB w k o s)(a:Below m w t)(b:k<m):wB t k o s:=by unfold wB at*;rw[(Aj a).1 _ _ b,(Aj a).1 _ _ b,(Aj a).1 _ _ b,(Aj a).1 _ _ b];exact h
def fM(w:dg)(o:Obj):(w.alloc o).heap[w.heap.size]? =some o:=by show(w.heap.push o)[w.heap.size]? =_;simp
def alloc_old(w:dg)(o:Obj){b:Nat}(h:b<w.heap.size):(w.alloc o).heap[b]? =w.heap[b]? :=by show(w.heap.push o)[b]? =_;rw[nX];split;omega;rfl
def jg(w:dg)(b:Nat)(s:SV):dg:=(((w.setCell ⟨b,0,none⟩ (.slice s.sa s.sl s.sc)).setCell ⟨b,1,none⟩ (.int .i64 s.m)).setCell ⟨b,2,none⟩ (.int .i64 s.k)).setCell ⟨b,3,none⟩ (.bool s.b)
def kP{s a:SV}(h:w.heap[m]? =some (eI a)):(jg w m s).heap[m]? =some (eI s):=by simp[jg,World.setCell,nd,h,eI]
def oZ(w:dg)(b:Nat)(s:SV){c:Nat}(h:c≠b):(jg w b s).heap[c]? =w.heap[c]? :=by unfold jg;rw[dG.Cr.eU _ _ _ _ h,dG.Cr.eU _ _ _ _ h,dG.Cr.eU _ _ _ _ h,dG.Cr.eU _ _ _ _ h]
def pF(w:dg)(b:Nat)(s:SV):(jg w b s).heap.size=w.heap.size:=by simp[jg,World.setCell]
def kQ{s:SV}(h:Below m t w)(a:m<=k):Below m t (jg w k s):=
 (((h.setCell a _).setCell a _).setCell a _).setCell a _
def lM{a:Type}(l:List a)(k:Nat)(h:k<l.length):l.take (k+1)=l.take k++[l[k]]:=by rw[jM h]
theorem IG(p:Value)(A:Nat)(ys:List SV)(w:World)(hn:ys.length<=65536)(hA:A<w.heap.size)(hy:Wd w A ys):
 Calls V.prog 193 #[.slice (some ⟨A,0,none⟩) ys.length ys.length,.func (.func 194) #[p] #[]] w λe w'=>e=.returned (dR ys).val/\Below w.heap.size w w':=by
 go_enter V.func193,Tryz.ntmps193;go_wp2
 go_loopw [10] (λi wr=>∃k:Nat,k<=ys.length/\i=.int .i64 k/\Below w.heap.size w wr/\w.heap.size+2<=wr.heap.size/\wr.heap[w.heap.size+1]? =some (eI (dR (ys.take k)))/\
  wr.heap[w.heap.size]? =some (eI (dR []))) (λi _=>ys.length-(intOf i).toNat)
 case atStart=>
  refine⟨0,Nat.zero_le _,rfl,((Below.refl _ _).alloc (Nat.le_refl _) _).alloc (by simp) _,by simp,?_,?_⟩
  ·have:=fM (w.alloc (eI (dR []))) (eI (dR []));rw[World.size_alloc]at this;exact this
  ·exact(alloc_old (w.alloc (eI (dR []))) _ (by simp)).trans (fM _ _)
 case round=>
  obtain⟨k,hk,rfl,hb,Vu,ho,hr⟩:=hrel;by_cases J9:k<ys.length
  ·obtain⟨y1,y2,y3,y4⟩:=(hy k J9).below hb hA;obtain⟨o1,o2,o3,o4,f1,f2,f3,f4⟩:=eE ho;have HO:=Go.Lib.hid ho;have HR:=Go.Lib.hid hr;clear ho hr hy;have l1:w.heap.size+1<wr.heap.size:=by omega
   have l3:w.heap.size<wr.heap.size:=by omega
   have l2:¬(w.heap.size+1=wr.heap.size):=by omega
   by_cases T6:k=0
   ·subst T6;go_wp2;go_roundw;case rel=>
     have hp:=kP (s:=ys[0]) HO.out;have Uh:=(oZ wr (w.heap.size+1) ys[0] (c:=w.heap.size) (by omega)).trans HR.out;have PY:=pF wr (w.heap.size+1) ys[0];refine⟨1,by omega,rfl,(kQ hb (Nat.le_succ _)).alloc (by rw[PY];omega) _,by simp;omega,?_,?_⟩
     ·refine(alloc_old (jg wr (w.heap.size+1) ys[0]) _ (by rw[PY];omega)).trans ?_;rw[hp,lM _ _ J9];rfl
     ·exact(alloc_old (jg wr (w.heap.size+1) ys[0]) _ (by rw[PY];omega)).trans Uh
    case measure=>simp[intOf];omega
   ·have T7:((k:Int)==0)=false:=by simp;omega
    go_wp2_with (go_at_call 194;refine(FE _ ys[k] (dR (ys.take k)) _).mono ?_;rintro e w' ⟨rfl,Hm⟩;obtain⟨hc,hf⟩:=Aj Hm);all_goals go_roundw
    case rel=>
     have Ui:ik ys[k] (dR (ys.take k))=true:=by assumption
     have hO:=(Hm.block (w.heap.size+1) (by simp;omega)).trans ((alloc_old wr _ (by omega)).trans HO.out);have hR:=(Hm.block w.heap.size (by simp;omega)).trans ((alloc_old wr _ (by omega)).trans HR.out);have hz:=Hm.size;rw[World.size_alloc]at hz;have hp:=kP (s:=ys[k]) hO;have Uh:=(oZ w' (w.heap.size+1) ys[k] (c:=w.heap.size) (by omega)).trans hR;have PY:=pF w' (w.heap.size+1) ys[k];refine⟨k+1,by omega,by go_num,kQ ((hb.alloc (by omega) _).trans (Hm.mono (by simp;omega))) (Nat.le_succ _),(by show w.heap.size+2<=(jg w' (w.heap.size+1) ys[k]).heap.size;rw[PY];omega),?_,Uh⟩;refine hp.trans ?_;rw[lM _ _ J9,tW _ _ (λh=>by have:=congrArg List.length h;rw[List.length_take,List.length_nil]at this;omega),if_pos Ui]
    case measure=>simp[intOf];omega
    case rel=>
     have Ui:ik ys[k] (dR (ys.take k))=false:=by assumption
     have hO:=(Hm.block (w.heap.size+1) (by simp;omega)).trans ((alloc_old wr _ (by omega)).trans HO.out);have hR:=(Hm.block w.heap.size (by simp;omega)).trans ((alloc_old wr _ (by omega)).trans HR.out);have hz:=Hm.size;rw[World.size_alloc]at hz;refine⟨k+1,by omega,by go_num,(hb.alloc (by omega) _).trans (Hm.mono (by simp;omega)),by omega,?_,hR⟩;refine hO.trans ?_;rw[lM _ _ J9,tW _ _ (λh=>by have:=congrArg List.length h;rw[List.length_take,List.length_nil]at this;omega),if_neg (by simp[Ui])]
    case measure=>simp[intOf];omega
  ·obtain⟨o1,o2,o3,o4,f1,f2,f3,f4⟩:=eE ho;obtain⟨r1,r2,r3,r4,g1,g2,g3,g4⟩:=eE hr;have HO:=Go.Lib.hid ho;have HR:=Go.Lib.hid hr;clear ho hr hy;have l2:¬(w.heap.size+1=w.heap.size):=by omega
   go_wp2;have We:ys.take k=ys:=List.take_of_length_le (by omega);have hp:=kP (s:=dR (ys.take k)) HR.out;obtain⟨q1,q2,q3,q4,_⟩:=eE hp;unfold jg at q1 q2 q3 q4;refine bodyPost_ret (v:=(dR (ys.take k)).val) (by simp[results,Tryz.results193,go_sem,q1,q2,q3,q4,SV.val]) rfl ⟨by rw[We],kQ hb (Nat.le_refl _)⟩
end Go.Proofs.W
namespace Go.dG
open Go.Conc
open Go.ConcN (sumTo upd sumTo_upd upd_ne upd_same)
section
variable{P:dq}{X:Nat->Prop}
structure CZ(P:dq)(X:Nat->Prop)(gs:Array dm)(a:dm)(w:dg)(t:Trace)(q:Nat->Nat):Prop where
 at0:gs[0]? =some a
 run:a.status=.running
 leavers:Leavers P t gs q
 past:Past (n6 X) w.heap.size t
 low:∀b,X b->b<w.heap.size
def FF{f l:Nat->Prop}{n m:Nat}(j:∀b,f b\/l b->¬X b/\b<m)(o:∀c,X c->c<n){e:Event}(h:EvW f l n m e):EvL (n6 X) m e:=by
 rcases h with⟨a,p,rfl,h⟩|⟨r,p,rfl,h⟩|rfl;have g:¬X a.block/\a.block<m:=by rcases h with h|⟨_,h⟩|⟨q,k⟩;exact j _ (.inl h);exact j _ (.inr h);exact⟨λd=>by have:=o _ d;omega,k⟩
 refine⟨λx d i=>?_,by simp,by simp,g.2⟩;simp only[MemAct.ofEvent,MemAct.touch?,gx]at d;subst d;exact absurd i g.1;have g:¬X r/\r<m:=by rcases h with h|⟨q,k⟩;exact j _ (.inl h);exact⟨λd=>by have:=o _ d;omega,k⟩
 refine⟨λx d i=>?_,by simp,by simp,by simpa[MemAct.ofEvent,MemAct.low,Loc.low]using g.2⟩;simp only[MemAct.ofEvent,MemAct.touch?,gx]at d;subst d;exact absurd i g.1;refine⟨λx d i=>?_,by simp,by simp,trivial⟩;simp[MemAct.ofEvent,MemAct.touch?]at d
def CZ.pick{c:Array dm}{t:Trace}{q:Nat->Nat}(h:CZ P X c Z w t q)(sl:Option (Nat×Nat)):(∃d a,stepT P (crowd c w sl)=runT P (crowd c (w.at d) a) 0)\/∃d a m u M,stepT P (crowd c w sl)=(.next (crowd m (w.at d) a),u)/\CZ P X m Z (w.at d) (t++u) M/\sumTo m.size M+1=sumTo c.size q:=by
 have b:=h.run;have G:=h.at0;have C:=h.leavers;have H:∀g∈c,awake g:=by
  intro g r;obtain⟨i,s,rfl⟩:=Array.mem_iff_getElem.1 r;rcases n4 i with rfl|f;have:c[0]=Z:=by simpa[jp s]using G
  rw[this];exact awake_of (.inl b);exact awake_of ((C.old i _ f (jp s)).status.elim .inl λx=>.inr (.inr x))
 obtain⟨i,g,d,a,s,r,v⟩:=crowd_pick (P:=P) (w:=w) (sl:=sl) H ⟨0,Z,G,b⟩;rcases n4 i with rfl|f;exact .inl ⟨d,a,v⟩;have D:=C.old i g f s;have I:(i==0)=false:=by simp;omega
 have z:i<c.size:=(fF.1 s).1;cases n:q i with
 |zero=>rw[n]at D;rw[D.1]at r;cases r
 |succ k=>
  rw[n]at D;rcases D with⟨O,_⟩|⟨_,g',Q,R,A,J⟩;rw[O]at r;cases r;have o:=runT_crowd_go (P:=P) (sl:=a) (i:=i) s (by rw[I];exact A (w.at d));have K:((c.map (woken P g g' (w.at d))).setIfInBounds i g').size=c.size:=by simp
  have N:sumTo c.size (upd q i k)+(k+1)=sumTo c.size q+k:=by have:=sumTo_upd q k id z;simpa[n]using this
  refine .inr ⟨d,a,_,_,upd q i k,v.trans o,⟨?_,b,⟨λj x E F=>?_,λj E=>?_⟩,h.past.mute (by omega) R,h.low⟩,by rw[K];omega⟩;have L:i≠0:=by omega
  rw[eG L,qq,G];simp[woken_run b];by_cases l:i=j;subst l;rw[kq (by simpa using z)]at F;obtain rfl:=dH F;rw[upd_same,Deaf_own];exact J;rw[eG l,qq]at F;obtain⟨y,S,rfl⟩:=ix.1 F;have B:=C.old j y E S;rw[woken_quitsD B,upd_ne q k (gH l),Deaf_other t l _ (λT p=>by obtain⟨e,_,rfl⟩:=Go.Conc.mem_ofEvents p;rfl)];exact B;rw[Deaf_other t (g:=j) (g':=i) (by simp at E;omega) (MemOp.ofEvents i g.frame.fn g.frame.place Q) (λT p=>by obtain⟨e,_,rfl⟩:=Go.Conc.mem_ofEvents p;rfl)];exact C.above j (by simpa using E)
structure xV(own:Nat->Prop)(w:dg)(own':Nat->Prop)(w':dg):Prop where
 tape:w'.tape=w.tape
 os:w'.os=w.os
 output:w'.output=w.output
 size:w.heap.size<=w'.heap.size
 heap:∀b,b<w.heap.size->¬own b->w'.heap[b]? =w.heap[b]?
 new:∀b,own' b->own b\/(w.heap.size<=b/\b<w'.heap.size)
 keep:∀b,own b->own' b
def xV.refl(a:Nat->Prop)(w:dg)(d:Nat):xV a w a (w.at d):=⟨rfl,rfl,rfl,dC _,λ_ _ _=>rfl,λ_ h=>.inl h,λ_ h=>h⟩
theorem xV.trans{c d f:Nat->Prop}(h:xV c w d t)(k:xV d t f e):xV c w f e:=
 ⟨k.tape.trans h.tape,k.os.trans h.os,k.output.trans h.output,dS h.size k.size,λb a g=>(k.heap b (eh a h.size) λi=>(h.new b i).elim g λx=>by omega).trans (h.heap b a g),
  λb a=>(k.new b a).elim (λx=>(h.new b x).imp id λy=>⟨y.1,eh y.2 k.size⟩) λx=>.inr ⟨dS h.size x.1,x.2⟩,λb a=>k.keep b (h.keep b a)⟩
def CZ.step{u:Array dm}{a o:dm}{w l:dg}{t:Trace}{q:Nat->Nat}{own rd i:Nat->Prop}{p:Array Event}{d:Nat}(h:CZ P X u a w t q)(n:∀b,own b\/rd b->¬X b/\b<w.heap.size) (e:stepG P true a (w.at d)=.go o l p)(m:J7 own rd (w.at d) l p i)(E:o.status=.running):CZ P X ((u.map (woken P a o l)).setIfInBounds 0 o) o l (t++MemOp.ofEvents 0 a.frame.fn a.frame.place p) q/\∀b,i b\/rd b->¬X b/\b<l.heap.size:=by
 have f:w.heap.size<=l.heap.size:=m.size;have v:0<u.size:=(fF.1 h.at0).1;refine⟨⟨by simp[v],E,⟨λj x r s=>?_,λj r=>?_⟩,(h.past.mono f).own λe F=>FF (λb c=>⟨(n b c).1,eh (n b c).2 f⟩) h.low (m.evs e F),λb c=>eh (h.low b c) f⟩,λb c=>?_⟩;have z:0≠j:=by omega
 rw[eG z,qq]at s;obtain⟨y,G,rfl⟩:=ix.1 s;have C:=h.leavers.old j y r G;rw[woken_quitsD C,Deaf_other t (by omega) _ (λH k=>by obtain⟨e,_,rfl⟩:=Go.Conc.mem_ofEvents k;rfl)];exact C;rw[Deaf_other t (g:=j) (g':=0) (by simp at r;omega) (MemOp.ofEvents 0 a.frame.fn a.frame.place p) (λH k=>by obtain⟨e,_,rfl⟩:=Go.Conc.mem_ofEvents k;rfl)];exact h.leavers.above j (by simpa using r);rcases c with c|c;rcases(m.owns b).1 c with c|⟨A,B⟩;exact⟨(n b (.inl c)).1,eh (n b (.inl c)).2 f⟩;have D:w.heap.size<=b:=A;exact⟨λs=>by have:=h.low b s;omega,B⟩;exact⟨(n b (.inr c)).1,eh (n b (.inr c)).2 f⟩
def sX{rd:Nat->Prop}{L:dg->Prop}(E:∀w d,L w->L (w.at d)){k:(Nat->Prop)->dm->dg->Prop}(G:∀o g w,k o g w->g.status=.running):∀{H:WT} {own:Nat->Prop} {a:dm} {w:dg},Way P true rd L k H own a w->∀(r:Array dm) (sl:Option (Nat×Nat)) (t:Trace) (q:Nat->Nat),CZ P X r a w t q->(∀b,own b\/rd b->¬X b/\b<w.heap.size)->∃(N:Nat) (l:Array dm) (s:dg) (c:Option (Nat×Nat)) (I:Trace) (F:Nat->Nat) (j:Nat->Prop) (J:dm),runNT P N (crowd r w sl) t=(.next (crowd l s c),I)/\CZ P X l J s I F/\k j J s/\xV own w j s/\∀b,j b\/rd b->¬X b/\b<s.heap.size:=by
 intro H own a w hw;induction hw with
 | @here H own a w h=>
  intro r sl t q u z;exact⟨0,r,w,sl,t,q,own,a,rfl,u,h w (.refl _ _ _ _),xV.refl own w w.drawn,z⟩
 | @step f own a w hs h1 h2 ih=>
  have p:∀{own a w} {H},Way P true rd L k H own a w->a.status=.running:=λh=>by
   cases h with
   |here h=>exact G _ _ _ (h _ (.refl _ _ _ _))
   |step hs _ _=>exact hs
  have K:∀(M:Nat) (r:Array dm) (A:Nat) (sl:Option (Nat×Nat)) (t:Trace) (q:Nat->Nat),sumTo r.size q<=M->CZ P X r a (w.at A) t q->(∀b,own b\/rd b->¬X b/\b<w.heap.size)->∃(N:Nat) (l:Array dm) (s:dg) (c:Option (Nat×Nat)) (I:Trace) (F:Nat->Nat) (j:Nat->Prop) (J:dm),runNT P N (crowd r (w.at A) sl) t=(.next (crowd l s c),I)/\CZ P X l J s I F/\k j J s/\xV own w j s/\∀b,j b\/rd b->¬X b/\b<s.heap.size:=by
   intro M;induction M with
   |zero=>
    intro r A sl t q hM u z;rcases u.pick sl with⟨d,c,v⟩|⟨d,c,l,O,F,_,_,Q⟩;obtain⟨a1,w1,es,R,e,m⟩:=h1 (w.at d) (ez.at own rd E w d);have S:stepG P true a ((w.at A).at d)=.go a1 w1 es:=e;obtain⟨B,C⟩:=u.step (own:=own) (rd:=rd) z S m (p (h2 _ _ _ _ _ (ez.at own rd E w d) e m));obtain⟨N,x,T,y,U,V,n,W,Y,Z,r3,r4,r5⟩:=ih _ _ _ _ _ (ez.at own rd E w d) e m _ c _ q B C;have hr:=v.trans (runT_crowd_go (P:=P) (sl:=c) (i:=0) u.at0 (show stepG P (0==0) a ((w.at A).at d)=_ from S));refine⟨1+N,x,T,y,U,V,n,W,runNT_add (kO hr) Y,Z,r3,xV.trans ⟨m.tape,m.os,m.output,m.size,m.same,λb D=>(m.owns b).1 D,λb D=>(m.owns b).2 (.inl D)⟩ r4,r5⟩;omega
   |succ M aa=>
    intro r A sl t q hM u z;rcases u.pick sl with⟨d,c,v⟩|⟨d,c,l,O,F,v,ab,Q⟩;obtain⟨a1,w1,es,R,e,m⟩:=h1 (w.at d) (ez.at own rd E w d);have S:stepG P true a ((w.at A).at d)=.go a1 w1 es:=e;obtain⟨B,C⟩:=u.step (own:=own) (rd:=rd) z S m (p (h2 _ _ _ _ _ (ez.at own rd E w d) e m));obtain⟨N,x,T,y,U,V,n,W,Y,Z,r3,r4,r5⟩:=ih _ _ _ _ _ (ez.at own rd E w d) e m _ c _ q B C;have hr:=v.trans (runT_crowd_go (P:=P) (sl:=c) (i:=0) u.at0 (show stepG P (0==0) a ((w.at A).at d)=_ from S));refine⟨1+N,x,T,y,U,V,n,W,runNT_add (kO hr) Y,Z,r3,xV.trans ⟨m.tape,m.os,m.output,m.size,m.same,λb D=>(m.owns b).1 D,λb D=>(m.owns b).2 (.inl D)⟩ r4,r5⟩;obtain⟨N,x,T,y,U,V,n,W,Y,Z,r3,r4,r5⟩:=aa l d c (t++O) F (by omega) ab z;exact⟨1+N,x,T,y,U,V,n,W,runNT_add (kO v) Y,Z,r3,r4,r5⟩
  intro r sl t q u z;exact K _ r w.drawn sl t q (dC _) u z
end
end Go.dG
namespace Go.dG
open Go
def jE(z:di):Bool:=z.cells.all (fe 2)&&fe 3 z
theorem Ak{g c:Type}(I:c->Prop)(f:g->c->Option (ForInStep c))(i:∀a b s,I b->f a b=some s->I s.value):∀(l:List g) (init:c),I init->∀r,forIn l init f=some r->I r
 |[],init,d,r,h=>by simp at h;exact h▸d
 |a::l,init,d,r,h=>by
  rw[List.forIn_cons]at h;cases e:f a init with
  |none=>rw[e]at h;cases h
  |some s=>
   rw[e]at h;have:=i a init s d e;cases s with
   |done b=>simp at h;exact h▸this
   |yield b=>exact Ak I f i l b this r h
theorem Bm{info:TypeId->Option TypeInfo}(h:∀t i z,info t=some i->i.zero=some z->jE z=true)(d:TypeDesc)(i:TypeInfo)(z:Value)(a:Made.reckon info d=some i)(q:i.zero=some z):jE z=true:=by
 have m:∀(d:TypeDesc) (s:String) (u:Value) (b:Bool) (n:Nat),jE u=true->Made.word d s u b n=i->jE z=true:=λd s u b n D e=>by
  subst e
  have:some u=some z:=q
  cases this
  exact D
 cases d with
 |pointer e=>
  simp only[Made.reckon,Option.bind_eq_bind,Option.bind_eq_some_iff]at a
  obtain⟨j,_,a⟩:=a
  split at a
  ·cases a
  ·split at a
   ·cases a
   ·simp only[Option.bind_eq_some_iff]at a
    obtain⟨s,_,a⟩:=a
    exact m _ _ _ _ _ (by simp[jE,fe,Value.cells]) (Option.some.inj a)
  ·simp only[Option.bind_eq_some_iff]at a
   obtain⟨s,_,a⟩:=a
   exact m _ _ _ _ _ (by simp[jE,fe,Value.cells]) (Option.some.inj a)
 |slice e=>
  simp only[Made.reckon,Option.bind_eq_bind,Option.bind_eq_some_iff]at a
  obtain⟨j,_,s,_,a⟩:=a
  exact m _ _ _ _ _ (by simp[jE,fe,Value.cells]) (Option.some.inj a)
 |map k e=>
  simp only[Made.reckon,Option.bind_eq_bind,Option.bind_eq_some_iff]at a
  obtain⟨j,_,s,_,M,_,N,_,a⟩:=a
  exact m _ _ _ _ _ (by simp[jE,fe,Value.cells]) (Option.some.inj a)
 |chan d e=>
  simp only[Made.reckon,Option.bind_eq_bind,Option.bind_eq_some_iff]at a
  obtain⟨j,_,s,_,a⟩:=a
  cases d<;>exact m _ _ _ _ _ (by simp[jE,fe,Value.cells]) (Option.some.inj a)
 |func O P v=>
  simp only[Made.reckon,Option.bind_eq_bind,Option.bind_eq_some_iff]at a
  obtain⟨s,_,a⟩:=a
  exact m _ _ _ _ _ (by simp[jE,fe,Value.cells]) (Option.some.inj a)
 |array n e=>
  simp only[Made.reckon,Option.bind_eq_bind,Option.bind_eq_some_iff]at a
  obtain⟨j,E,s,_,a⟩:=a
  have a:=Option.some.inj a
  subst a
  simp only at q
  split at q
  ·cases q
  ·split at q
   ·cases q;simp[jE,fe,Value.cells]
   ·obtain⟨y,A,rfl⟩:=Option.map_eq_some_iff.1 q
    have:=h e j y E A
    simp only[jE,Bool.and_eq_true,Array.all_eq_true_iff_forall_mem]at this
    have p:((Array.replicate n y.cells).flatten).all (fe 2)=true:=by
     simp only[Array.all_eq_true_iff_forall_mem,Array.mem_flatten]
     rintro x ⟨o,g,w⟩
     rw[Array.eq_of_mem_replicate g]at w
     exact this.1 x w
    have F:fe 3 (.agg (Array.replicate n y.cells).flatten)=(Array.replicate n y.cells).flatten.all (fe 2):=rfl
    show((Array.replicate n y.cells).flatten.all (fe 2)&&fe 3 (.agg (Array.replicate n y.cells).flatten))=true
    rw[F,p]
    rfl
 |struct G=>
  simp only[Made.reckon,Made.reckonStruct]at a
  obtain⟨H,r,a⟩:=Option.bind_eq_some_iff.1 a
  rw[<-Array.forIn_toList]at r
  have I:=Ak (λb:Array Field×Nat×Nat×Nat×Nat×Bool×Bool×Option (Array Value)×String=>∀o,b.2.2.2.2.2.2.2.1=some o->o.all (fe 2)=true) _ ?_ G.toList _ ?_ H r
  ·split at a
   all_goals
    simp only[Option.bind_eq_bind,Option.pure_def,Option.some.injEq,Option.bind_some]at a
    subst a
    simp only at q
    obtain⟨o,g,rfl⟩:=Option.map_eq_some_iff.1 q
    have p:=I o g
    show(o.all (fe 2)&&o.all (fe 2))=true
    rw[p];rfl
  ·rintro f b s J l
   simp only[Option.bind_eq_bind,Option.bind_eq_some_iff]at l
   obtain⟨i,a,l⟩:=l
   have B:∀(c:Nat) o,(if c>Made.mostCells then none else do pure ((<-b.2.2.2.2.2.2.2.1)++(<-i.zero).cells))=some o->o.all (fe 2)=true:=by
    intro c o g
    split at g
    ·cases g
    ·simp only[Option.bind_eq_bind,Option.bind_eq_some_iff]at g
     obtain⟨x,w,y,A,g⟩:=g
     have g:=Option.some.inj g
     subst g
     have K:=J x w
     have C:=h f.type i y a A
     simp only[jE,Bool.and_eq_true]at C
     rw[Array.all_append,K,C.1]
     rfl
   split at l
   ·simp only[Option.bind_eq_some_iff]at l
    obtain⟨_,l,_⟩:=l
    cases l
   ·split at l
    ·simp only[Option.bind_eq_some_iff]at l
     obtain⟨_,l,_⟩:=l
     cases l
    ·split at l
     all_goals
      simp only[Option.bind_eq_some_iff]at l
      obtain⟨L,_,l⟩:=l
      split at l
      all_goals
       have l:=Option.some.inj l
       subst l
       exact B _
  ·intro o g
   cases g
   simp
 |_=>cases a
def FG{T:Tables}(h:∀(t:Nat) (i:TypeInfo) (z:di),T.types[t]? =some i->i.zero=some z->jE z=true):∀(t:dn) (i:TypeInfo) (z:di),T.info? t=some i->i.zero=some z->fe 3 z=true:=by
 have c:∀(f:Nat) (t:dn) (i:TypeInfo) (z:di),Made.infoAt T f t=some i->i.zero=some z->jE z=true:=by
  intro f;induction f with
  |zero=>intro t i z a _;cases a
  |succ f e=>
   intro t i z a b;simp only[Made.infoAt]at a;split at a;exact h t i z a b;obtain⟨d,_,a⟩:=sL.1 a;exact Bm e d i z a b
 intro t i z a b;have:jE z=true:=by unfold Tables.info? at a;split at a;exact h t i z a b;exact c _ t i z a b
 simp only[jE,eL]at this;exact this.2
end Go.dG
variable{l f:List Nat}
namespace Go.Proofs.W
open Go Go.dG
noncomputable def okF(L:List Nat)(a:Bool)(d:Nat->Bool)(f:Nat):Bool:=match V.prog.funcs[f]? with
 |some b=>match b.body with
  |some c=>gZ V.prog (λg=>L.contains g) a (d f) c&&!(b.name== "runtime.NumGoroutine")
  |none=>false
 |none=>false
def tX{b:Nat->Bool}(h:l.all (okF l D b)=true)(f:Nat)(d:l.contains f=true):
 ∃a c,V.prog.funcs[f]? =some a/\a.body=some c/\gZ V.prog (λg=>l.contains g) D (b f) c=true/\(a.name== "runtime.NumGoroutine")=false:=by
 have:=nY.1 h f (by simpa using d);unfold okF at this;split at this;rename_i a e;split at this;rename_i c i;simp only[eL,xl]at this;exact⟨a,c,e,i,this.1,this.2⟩;cases this;cases this
def V.Lc(P:dq)(f:Nat)(x:Func)(n:Nat)(h:f≠n):(V.sub P (P.funcs.setIfInBounds n x)).funcs[f]? =P.funcs[f]? :=by show(P.funcs.setIfInBounds n x)[f]? =P.funcs[f]?;rw[eG (gH h)]
def V.wT(f:Nat)(h:f≠163):V.prog.funcs[f]? =PR.funcs[f]? :=V.Lc Tryz.prog f V.f163 163 h
noncomputable def Vv(t:Nat):Bool:=match Tryz.prog.types[t]? with
 |some i=>match i.zero with
  |some a=>jE a
  |none=>true
 |none=>true
def Sy:(List.range 291).all Vv=true:=by kernel_rfl
theorem V.zero(t:dn)(i:TypeInfo)(z:di)(a:V.prog.info? t=some i)(c:i.zero=some z):fe 3 z=true:=by rw[V.G7]at a;refine FG (T:=Tryz.prog.toTables) (λt i z a c=>?_) t i z a c;have b:t<Tryz.prog.types.size:=(fF.1 a).1;rw[Tryz.types_size]at b;have:=nY.1 Sy t (jL.2 b);unfold Vv at this;rw[a]at this;simp only[c]at this;exact this
def V.C0:V.prog.globals.size=0:=by rw[show V.prog.globals=Tryz.prog.globals from dQ Tables.globals V.z9,Tryz.globals_size]
def Al(P:dq):5<=P.depth:=by have h:P.depth=2*(P.types.size+100)+2:=rfl;omega
def _root_.Go.dG.G5.obj{m:Option Nat}(h:G5 R m O Q)(a:m=none):jP R O Q:=by rcases h with⟨_,h⟩|⟨n,e,_⟩;exact h;rw[a]at e;cases e
def V.bad:V.prog.info? sP=none:=by kernel_rfl
def V.fit{a:Nat->Bool}(h:l.all (okF l D a)=true):Fit V.prog (λg=>l.contains g) D:=
 ⟨V.zero,λf b=>by obtain⟨d,c,e,i,_,j⟩:=tX h f b;exact⟨d,c,e,j,i⟩,V.C0,Al _,V.bad⟩
noncomputable def o7(L:List Nat)(df:Nat->Bool)(B:Nat->Prop):dV where
 S:=λg=>L.contains g
 dim:=true
 ok:=λf=>gZ V.prog (λg=>L.contains g) true (df f)
 df:=df
 fs:=PR.funcs
 hole:=λ_=>false
 r:=λb c=>b=c/\B b
 mo:=λ_ _ _ h a=>h.1.symm.trans a.1
 ow:=λ_ _ _ h a=>.inl (h.1.trans a.1.symm)
def Am{k:Nat->Bool}(h:l.all (okF l true k)=true)(d:¬l.contains 163=true):Go.dG.Good V.prog (o7 l k B):=by refine⟨V.fit h,rfl,λf a _=>?_,⟨λf a=>?_⟩,λ_ _=>rfl⟩;obtain⟨g,c,b,i,m,_⟩:=tX h f a;exact⟨g,c,b,i,m⟩;obtain⟨g,c,b,i,_,n⟩:=tX h f a;have j:f≠163:=λe=>d (by subst e;exact a);exact⟨g,c,(V.wT f j).symm.trans b,n,i,λ_=>b⟩
def Oq(P Q:dq)(h:Q.toTables=P.toTables):Q.iC P.funcs=P:=by cases P;cases Q;simp only at h;subst h;rfl
def Ot:V.prog.iC PR.funcs=PR:=Oq Tryz.prog V.prog V.z9
end Go.Proofs.W
namespace Go.Proofs.W
open Go.Conc Go.dG Go.dG.Cr Go.dG.Wg Go.RowKit Go.Conc.Lib Go.ConcR.Gen
open Go.ConcR (KK wgBlock WgAt stA smA mk DC0)
structure KO(bl:List (Nat×Obj))(Q:dg->Prop)(m0:Nat)(w:dg):Prop where
 at_:∀x∈bl,w.heap[x.1]? =some x.2
 inc:(bl.map (·.1)).Pairwise (·>·)
 lo:∀x∈bl,m0<=x.1
 sz:m0<=w.heap.size
 q:Q w
section
variable{P:dq}{ty:dn}{Wg:Nat}{main:Bool}{own rd:Nat->Prop}{S:ij}{Q:dg->Prop}{m0:Nat}{bl:List (Nat×Obj)}{g:dm} {b:Frame}{a:Act}{k:List Item}{cs:List Frame}{ops:Array Oper}{i:Nat}{rest:List Nat}{o:Oper}{v:di}
theorem KO.rely{L:dg->Prop}(a:∀x∈bl,own x.1)(d:wA rd Q):nU own rd L (KO bl Q m0):=λ_ _ b h=>
 ⟨λx c=>b.obj (.inl (a x c)) (h.at_ x c),h.inc,h.lo,dS h.sz b.size,d.rely b h.q⟩
theorem WK.FH{ob:Obj}{f:Nat->di}(g:∀x∈bl,own x.1)(r:wA rd Q)(v:ops[i]? =some o)(z:Region.wanted o (yielded ops a.tmps)=true)(A:b.kind≠ .early) (B:∀w,KO bl Q m0 w->(execOp a.eval o).run P w=.ok (.value (f w.heap.size)) {w with heap:=w.heap.push ob})
 (C:∀w,KO bl Q m0 w->∀e∈(execOp a.eval o).events P w #[],EvW own rd w.heap.size (w.heap.size+1) e) (D:∀c,(∀x∈bl,x.1<c)->m0<=c->WK P ty Wg main rd S (λx=>own x\/x=c) (KO ((c,ob)::bl) Q m0) (G (b.at (a.put o.dst (f c)) (.inRegion ops rest::k)) cs)):
 WK P ty Wg main rd S own (KO bl Q m0) (G (b.at a (.inRegion ops (i::rest)::k)) cs):=by
 refine WK.new (f:=f) (ob:=ob) (KO.rely g r) v z A B C λc=>?_;rintro w ⟨l,m,rfl,n⟩;have p:∀x∈bl,x.1<l.heap.size:=λx d=>lt_of_heap (m.at_ x d)
 have j:ez (λx=>own x\/x=l.heap.size) rd (Lv ty Wg) l {l with heap:=l.heap.push ob}:=⟨rfl,rfl,rfl,by simp,λb F _=>by
  show(l.heap.push ob)[b]? =_;rw[nX];split;omega;rfl,λh=>by
  obtain⟨s,t,h⟩:=h;refine⟨s,t,?_⟩;have u:l.heap[Wg]? =some (wgBlock ty s t):=h;show(l.heap.push ob)[Wg]? =_;rw[nX];split;have:=lt_of_heap u;omega;exact u⟩
 refine D l.heap.size p m.sz w (KO.rely (λx d=>?_) r _ _ n ⟨λx d=>?_,?_,λx d=>?_,?_,r.rely j m.q⟩);rcases ft.1 d with rfl|d;exact .inr rfl;exact .inl (g x d);rcases ft.1 d with rfl|d;simp;exact j.obj (.inl (.inl (g x d))) (m.at_ x d);simp only[lA,List.pairwise_cons];exact⟨λy E=>by obtain⟨x,d,rfl⟩:=nh.1 E;exact p x d,m.inc⟩;rcases ft.1 d with rfl|d;exact m.sz;exact m.lo x d;have:=m.sz;simp;omega
theorem WK.Ld{pre:List (Nat×Obj)}{c:Nat}{ob ob':Obj}(g:∀x∈pre++(c,ob)::bl,own x.1)(r:wA rd Q)(s:∀b,own b->¬rd b)(u:ops[i]? =some o)(v:Region.wanted o (yielded ops a.tmps)=true)(y:b.kind≠ .early) (z:∀w,KO (pre++(c,ob)::bl) Q m0 w->∃j,(execOp a.eval o).run P w=.ok .skip j/\j.tape=w.tape/\j.os=w.os/\j.output=w.output/\j.heap.size=w.heap.size/\(∀d,d≠c->j.heap[d]? =w.heap[d]?)/\j.heap[c]? =some ob') (A:∀w,KO (pre++(c,ob)::bl) Q m0 w->∀e∈(execOp a.eval o).events P w #[],EvW own rd w.heap.size w.heap.size e) (B:WK P ty Wg main rd S own (KO (pre++(c,ob')::bl) Q m0) (G (b.at (a.put o.dst undef) (.inRegion ops rest::k)) cs)):WK P ty Wg main rd S own (KO (pre++(c,ob)::bl) Q m0) (G (b.at a (.inRegion ops (i::rest)::k)) cs):=by
 refine WK.write (bl:=c) (W:=λ_ j=>j.heap[c]? =some ob') (KO.rely g r) u v y (g (c,ob) (by simp)) (λw m=>?_) A ?_;obtain⟨j,C,D,E,F,H,I,J⟩:=z w m;exact⟨j,C,D,E,F,H,I,J⟩;refine WK.mono B ?_;rintro w ⟨K,L,m,M,t,l,p⟩;have n:∀x∈pre++(c,ob')::bl,own x.1:=λx f=>by rcases j8.1 f with f|f;exact g x (j8.2 (.inl f));rcases ft.1 f with rfl|f;exact g (c,ob) (by simp);exact g x (by simp[f])
 have h:=m.inc;simp only[vB,lA,List.pairwise_append,List.pairwise_cons]at h;refine KO.rely n r _ _ p ⟨λx f=>?_,?_,λx f=>?_,?_,?_⟩;rcases j8.1 f with f|f;have:x.1>c:=h.2.2 x.1 (nh.2 ⟨x,f,rfl⟩) c (by simp);rw[l _ (by omega)];exact m.at_ x (j8.2 (.inl f));rcases ft.1 f with rfl|f;exact M;have:c>x.1:=h.2.1.1 x.1 (nh.2 ⟨x,f,rfl⟩);rw[l _ (by omega)];exact m.at_ x (by simp[f]);simp only[vB,lA,List.pairwise_append,List.pairwise_cons];exact h;rcases j8.1 f with f|f;exact m.lo x (j8.2 (.inl f));rcases ft.1 f with rfl|f;exact m.lo (c,ob) (by simp);exact m.lo x (by simp[f]);rw[t];exact m.sz;refine r K L (by rw[t];exact dC _) (λb _ N=>l b λe=>?_) m.q;subst e;exact s b (g (b,ob) (by simp)) N
end
end Go.Proofs.W
variable{W X:Array di}
namespace Go.Proofs.W
open Go.Conc Go.dG Go.dG.Cr Go.dG.Wg Go.RowKit Go.Conc.Lib Go.ConcR.Gen
open Go.ConcN Go.ConcN.Gen
open Go.ConcR (KK wgBlock WgAt stA smA mk DC0)
noncomputable def C1:Code:=(Go.Code.cond (Go.Operand.tmp 40) Go.Code.skip (Go.Code.exit 2)).seq (Go.Code.block 3 ((Go.Code.region 15 uW false).seq (Go.Code.region 16 uX false)))
structure IH where
 (x5 Wh x24 x25 x26 x27 x28 Wi Wj Wk Wl Wm Wn Wo Wp Wq:di)
noncomputable def An(e:qP)(m:IH)(k l o p n A:Nat)(q a b c d f g h i j:di):Act:=
 xS e k l o n m.x5 (.slice (some ⟨A,0,none⟩) n n) q m.Wh m.x24 m.x25 m.x26 m.x27 m.x28 m.Wi m.Wj m.Wk m.Wl m.Wm m.Wn m.Wo m.Wp m.Wq (.chan (some p)) a b c d f g h i j
structure KB(Wg lc:Nat)(rd own:Nat->Prop)(K0:dg->Prop)(lv:Array di)(w:dg):Prop where
 was:∃w0,K0 w0/\lc=w0.heap.size/\w0.heap.size<=w.heap.size/\∀x,x<w0.heap.size->own x\/rd x->w.heap[x]? =w0.heap[x]?
 live:Lv 241 Wg w
 l:w.heap[lc]? =some (.cells lv 247)
def KB.rely{rd own:Nat->Prop}:nU (λx=>own x\/x=k) rd (Lv 241 m) (KB m k rd own S W):=λw j a h=>by obtain⟨c,d,e,f,g⟩:=h.was;exact⟨⟨c,d,e,dS f a.size,λx i b=>(a.heap x (by omega) (b.imp .inl id)).trans (g x i b)⟩,a.live h.live,a.obj (.inl (.inr rfl)) h.l⟩
def II{e:qP}{m:IH}{M N Wg Ch n pb A i:Nat}{Q:dg->Prop}{D own:Nat->Prop}{J:Nat->(Nat->Prop)->dg->di->Prop}{S:ij}{Sb:Nat->Bool}{cs:List Frame}(hn:n<=65536)(hi:i<n)(ai:own A)(h1:D M)(h3:D N)(hQ:qQ D Q)(hP:xU J) {sa:Option Addr}{sl sc:Nat}{mm k:Int}{b:Bool} (x7 Y Z aa ab ac ad ae af:di) (ag:∀own' x7 am Y Z aa ab ac ad ae af,WK PR 241 Wg true D S own' (KR M N Wg Ch A pb n D Q J own' (upd Sb i true)) (G (kL.at (An e m M N Wg Ch n A x7 am Y Z aa ab ac ad ae af) [.code od,.inLoop od,.inBlock 2,.code kX]) cs)):
 WK PR 241 Wg true D S own (λw=>KR M N Wg Ch A pb n D Q J own Sb w/\∃H,(∀x,H x->own x/\x≠A/\x<w.heap.size)/\J i H w (nC sa sl sc mm k b))
  (G (kL.at (An e m M N Wg Ch n A x7 (.tuple #[Bj i sa sl sc mm k b,.bool true]) Y Z aa ab ac ad ae af) [.inRegion lL [1],.code C1,.inLoop od,.inBlock 2,.code kX]) cs):=by
 have C:nU own D (Lv 241 Wg) (λw=>KR M N Wg Ch A pb n D Q J own Sb w/\∃H,(∀x,H x->own x/\x≠A/\x<w.heap.size)/\J i H w (nC sa sl sc mm k b)):=λw w1 I h=>⟨KR.rely h1 h3 hQ hP w w1 I h.1,h.2.imp λH h=>⟨λx z=>⟨(h.1 x z).1,(h.1 x z).2.1,eh (h.1 x z).2.2 I.size⟩,hP _ _ _ _ _ (λx z=>I.heap x (h.1 x z).2.2 (.inl (h.1 x z).1)) h.2⟩⟩;have K:∀d lv,nU (λx=>own x\/x=d) D (Lv 241 Wg) (KB Wg d D own (λw=>KR M N Wg Ch A pb n D Q J own Sb w/\∃H,(∀x,H x->own x/\x≠A/\x<w.heap.size)/\J i H w (nC sa sl sc mm k b)) lv):=λ_ _=>KB.rely;simp only[lL,An,xS];refine WK.val (v:=?_) C rfl rfl (by k_ne) (λw=>?_) (λw=>?_) ?_;rotate_left;go_simp;rfl;go_simp;walk_nrm;refine WK.ctl C rfl (λ_=>du) ?_;refine WK.ctl C rfl (λ_=>dA) ?_;refine WK.ctl C rfl (λ_=>stepG_cond (t:=true) rfl) ?_;simp only[ei];refine WK.ctl C rfl (λ_=>fi) ?_;refine WK.ctl C rfl (λ_=>qA) ?_;refine WK.ctl C rfl (λ_=>dA) ?_;refine WK.ctl C rfl (λ_=>gJ) ?_;simp only[uW,ia,fq,gl,Nat.reduceAdd,dB,List.range,List.range.loop];refine WK.val (v:=?_) C rfl rfl (by k_ne) (λw=>?_) (λw=>?_) ?_;rotate_left;go_simp;rfl;go_simp;walk_nrm;refine WK.new (f:=λn=>.pointer (some ⟨n,0,none⟩)) (ob:=.cells #[.int .i64 0,.slice none 0 0,.int .i64 0,.int .i64 0,.bool false] 247) C rfl rfl (by k_ne) (λw q=>?_) (λw q e o=>?_) (λd=>?_)
 ·go_simp;first|done|rfl
 simp[go_sem]at o;refine WK.mono (K':=KB Wg d D own (λw=>KR M N Wg Ch A pb n D Q J own Sb w/\∃H,(∀x,H x->own x/\x≠A/\x<w.heap.size)/\J i H w (nC sa sl sc mm k b)) #[.int .i64 0,.slice none 0 0,.int .i64 0,.int .i64 0,.bool false]) ?_ ?_;rotate_left;rintro w ⟨P,q,rfl,I⟩;refine K _ _ _ _ I ⟨⟨P,q,rfl,by simp,λx z _=>?_⟩,rO q.1.s.live,by simp⟩;show(P.heap.push _)[x]? =_;rw[nX];split;omega;rfl;walk_nrm;refine WK.write (bl:=d) (W:=λ_ w'=>w'.heap[d]? =some (.cells #[.int .i64 i,.slice sa sl sc,.int .i64 mm,.int .i64 k,.bool b] 247)) (K _ _) rfl rfl (by k_ne) (.inr rfl) (λw q=>?_) (λw q e o=>?_) ?_;have g:=q.l;have c0:w.cell? ⟨d,0,none⟩=some (.int .i64 0):=by simp[World.cell?,g]
 have f0:w.frozen? ⟨d,0,none⟩=false:=by simp[World.frozen?,g]
 have R:w.cell? ⟨d,1,none⟩=some (.slice none 0 0):=by simp[World.cell?,g]
 have f1:w.frozen? ⟨d,1,none⟩=false:=by simp[World.frozen?,g]
 have T:w.cell? ⟨d,2,none⟩=some (.int .i64 0):=by simp[World.cell?,g]
 have f2:w.frozen? ⟨d,2,none⟩=false:=by simp[World.frozen?,g]
 have U:w.cell? ⟨d,3,none⟩=some (.int .i64 0):=by simp[World.cell?,g]
 have f3:w.frozen? ⟨d,3,none⟩=false:=by simp[World.frozen?,g]
 have c4:w.cell? ⟨d,4,none⟩=some (.bool false):=by simp[World.cell?,g]
 have f4:w.frozen? ⟨d,4,none⟩=false:=by simp[World.frozen?,g]
 simp only[Bj];go_simp;refine⟨by simp[World.setCell],by simp[World.setCell],λc ah=>?_,?_⟩;simp[World.setCell,nd,gH ah];simp[World.setCell,nd,g];have g:=q.l;have c0:w.cell? ⟨d,0,none⟩=some (.int .i64 0):=by simp[World.cell?,g]
 have f0:w.frozen? ⟨d,0,none⟩=false:=by simp[World.frozen?,g]
 have R:w.cell? ⟨d,1,none⟩=some (.slice none 0 0):=by simp[World.cell?,g]
 have f1:w.frozen? ⟨d,1,none⟩=false:=by simp[World.frozen?,g]
 have T:w.cell? ⟨d,2,none⟩=some (.int .i64 0):=by simp[World.cell?,g]
 have f2:w.frozen? ⟨d,2,none⟩=false:=by simp[World.frozen?,g]
 have U:w.cell? ⟨d,3,none⟩=some (.int .i64 0):=by simp[World.cell?,g]
 have f3:w.frozen? ⟨d,3,none⟩=false:=by simp[World.frozen?,g]
 have c4:w.cell? ⟨d,4,none⟩=some (.bool false):=by simp[World.cell?,g]
 have f4:w.frozen? ⟨d,4,none⟩=false:=by simp[World.frozen?,g]
 simp only[Bj]at o;have B:∀(w:dg) (B:Array Event) (a:Addr) (m:Mode) (x:Option Addr) (l c:Nat),(store a (.slice x l c) m).events PR w B=storedEv PR w B a (.slice x l c) m:=λw B a m x l c=>events_store PR w B a _ m rfl;have eb:∀(w:dg) (B:Array Event) (a:Addr) (m:Mode) (x:Bool),(store a (.bool x) m).events PR w B=storedEv PR w B a (.bool x) m:=λw B a m x=>events_store PR w B a _ m rfl;simp[go_sem,B,eb,c0,R,T,U,c4,f0,f1,f2,f3,f4]at o;rcases o with o|o|o|o|o<;>exact .inl ⟨_,_,o,.inl (.inr rfl)⟩;refine WK.mono (K':=KB Wg d D own (λw=>KR M N Wg Ch A pb n D Q J own Sb w/\∃H,(∀x,H x->own x/\x≠A/\x<w.heap.size)/\J i H w (nC sa sl sc mm k b)) #[.int .i64 i,.slice sa sl sc,.int .i64 mm,.int .i64 k,.bool b]) ?_ ?_;rotate_left;rintro w ⟨P,w1,q,hW,hs,ho,I⟩;obtain⟨an,k1,k2,k3,k4⟩:=q.was;obtain⟨st,sm,hl⟩:=q.live;refine K _ _ _ _ I ⟨⟨an,k1,k2,by omega,λx z ao=>(ho x (by omega)).trans (k4 x z ao)⟩,⟨st,sm,(ho Wg ?_).trans hl⟩,hW⟩;have:=k1.1.lw;obtain⟨aB,aC,ap⟩:=k1.1.s.live;have:=lt_of_heap ap;omega;walk_nrm;have u:=K d #[.int .i64 i,.slice sa sl sc,.int .i64 mm,.int .i64 k,.bool b];refine WK.ctl u rfl (λ_=>du) ?_;refine WK.ctl u rfl (λ_=>gJ) ?_;simp only[uX,ia,fq,gl,Nat.reduceAdd,dB,List.range,List.range.loop];refine WK.val (v:=?_) u rfl rfl (by k_ne) (λw=>?_) (λw=>?_) ?_;rotate_left;go_simp;rfl;go_simp;walk_nrm;refine WK.val (v:=?_) u rfl rfl (by k_ne) (λw=>?_) (λw=>?_) ?_;rotate_left;go_simp;rfl;go_simp;walk_nrm;refine WK.load (v:=.int .i64 i) u rfl rfl (by k_ne) (λw q=>?_) (λw q e o=>?_) ?_;have g:=(λw q=>(show w.cell? ⟨d,0,none⟩=some (.int .i64 i) by simp[World.cell?,q.l])) w q;go_simp;have g:=(λw q=>(show w.cell? ⟨d,0,none⟩=some (.int .i64 i) by simp[World.cell?,q.l])) w q;simp[go_sem,g]at o;exact .inl ⟨_,_,o,.inl (.inr rfl)⟩;walk_nrm;refine WK.val (v:=?_) u rfl rfl (by k_ne) (λw=>?_) (λw=>?_) ?_;rotate_left;go_simp;rfl;go_simp;walk_nrm;refine WK.load (v:=nC sa sl sc mm k b) u rfl rfl (by k_ne) (λw q=>?_) (λw q e o=>?_) ?_
 ·have g:=q.l;have R:w.cell? ⟨d,1,none⟩=some (.slice sa sl sc):=by simp[World.cell?,g]
  have T:w.cell? ⟨d,2,none⟩=some (.int .i64 mm):=by simp[World.cell?,g]
  have U:w.cell? ⟨d,3,none⟩=some (.int .i64 k):=by simp[World.cell?,g]
  have c4:w.cell? ⟨d,4,none⟩=some (.bool b):=by simp[World.cell?,g]
  go_simp;first|done|rfl
 have g:=q.l;have R:w.cell? ⟨d,1,none⟩=some (.slice sa sl sc):=by simp[World.cell?,g]
 have T:w.cell? ⟨d,2,none⟩=some (.int .i64 mm):=by simp[World.cell?,g]
 have U:w.cell? ⟨d,3,none⟩=some (.int .i64 k):=by simp[World.cell?,g]
 have c4:w.cell? ⟨d,4,none⟩=some (.bool b):=by simp[World.cell?,g]
 simp[go_sem,R,T,U,c4]at o;rcases o with o|o|o|o<;>exact .inl ⟨_,_,o,.inl (.inr rfl)⟩;walk_nrm;refine WK.val (v:=.pointer (some ⟨A,4*i,none⟩)) u rfl rfl (by k_ne) (λw=>?_) (λw=>?_) ?_;go_simp<;>omega;simp[go_sem];exact events_indexAt_slice _ _ _ _ _ _ (by kernel_rfl) ⟨by omega,by omega⟩;walk_nrm;refine WK.write (bl:=A) (W:=λw w'=>∀cs:Array di,w.heap[A]? =some (.cells cs 199)->w'.heap[A]? =some (.cells ((((cs.setIfInBounds (4*i) (.slice sa sl sc)).setIfInBounds (4*i+1) (.int .i64 mm)).setIfInBounds (4*i+2) (.int .i64 k)).setIfInBounds (4*i+3) (.bool b)) 199)) u rfl rfl (by k_ne) (.inl ai) (λw q=>?_) (λw q e o=>?_) ?_;obtain⟨P,⟨I,_⟩,_,_,p⟩:=q.was;obtain⟨y,V,aj,_⟩:=I.a;have F:w.heap[A]? =some (.cells y 199):=(p A (lt_of_heap V) (.inl I.oa)).trans V;have c0:w.cell? ⟨A,4*i,none⟩=some (y[4*i]'(by omega)):=by simp[World.cell?,F]
 have R:w.cell? ⟨A,4*i+1,none⟩=some (y[4*i+1]'(by omega)):=by simp[World.cell?,F]
 have T:w.cell? ⟨A,4*i+2,none⟩=some (y[4*i+2]'(by omega)):=by simp[World.cell?,F]
 have U:w.cell? ⟨A,4*i+3,none⟩=some (y[4*i+3]'(by omega)):=by simp[World.cell?,F]
 have f0:w.frozen? ⟨A,4*i,none⟩=false:=by simp[World.frozen?,F]
 have f1:w.frozen? ⟨A,4*i+1,none⟩=false:=by simp[World.frozen?,F]
 have f2:w.frozen? ⟨A,4*i+2,none⟩=false:=by simp[World.frozen?,F]
 have f3:w.frozen? ⟨A,4*i+3,none⟩=false:=by simp[World.frozen?,F]
 simp only[nC];go_simp;refine⟨by simp[World.setCell],by simp[World.setCell],λc ah=>?_,?_⟩;simp[World.setCell,nd,gH ah];simp[World.setCell,nd,F];obtain⟨P,⟨I,_⟩,_,_,p⟩:=q.was;obtain⟨y,V,aj,_⟩:=I.a;have F:w.heap[A]? =some (.cells y 199):=(p A (lt_of_heap V) (.inl I.oa)).trans V;have c0:w.cell? ⟨A,4*i,none⟩=some (y[4*i]'(by omega)):=by simp[World.cell?,F]
 have R:w.cell? ⟨A,4*i+1,none⟩=some (y[4*i+1]'(by omega)):=by simp[World.cell?,F]
 have T:w.cell? ⟨A,4*i+2,none⟩=some (y[4*i+2]'(by omega)):=by simp[World.cell?,F]
 have U:w.cell? ⟨A,4*i+3,none⟩=some (y[4*i+3]'(by omega)):=by simp[World.cell?,F]
 have f0:w.frozen? ⟨A,4*i,none⟩=false:=by simp[World.frozen?,F]
 have f1:w.frozen? ⟨A,4*i+1,none⟩=false:=by simp[World.frozen?,F]
 have f2:w.frozen? ⟨A,4*i+2,none⟩=false:=by simp[World.frozen?,F]
 have f3:w.frozen? ⟨A,4*i+3,none⟩=false:=by simp[World.frozen?,F]
 have B:∀(w:dg) (B:Array Event) (a:Addr) (m:Mode) (x:Option Addr) (l c:Nat),(store a (.slice x l c) m).events PR w B=storedEv PR w B a (.slice x l c) m:=λw B a m x l c=>events_store PR w B a _ m rfl;have eb:∀(w:dg) (B:Array Event) (a:Addr) (m:Mode) (x:Bool),(store a (.bool x) m).events PR w B=storedEv PR w B a (.bool x) m:=λw B a m x=>events_store PR w B a _ m rfl;simp only[nC]at o;simp[go_sem,B,eb,c0,R,T,U,f0,f1,f2,f3]at o;rcases o with o|o|o|o<;>exact .inl ⟨_,_,o,.inl (.inl ai)⟩;refine WK.mono (K':=KR M N Wg Ch A pb n D Q J (λx=>own x\/x=d) (upd Sb i true)) ?_ ?_;rotate_left;rintro w ⟨w1,w2,q,hW,hs,ho,I⟩;refine KR.rely h1 h3 hQ hP _ _ I ?_;obtain⟨P,⟨E,H,L,aq⟩,aD,aj,p⟩:=q.was;obtain⟨y,V,ak,al⟩:=E.a;have ar:w1.heap[A]? =some (.cells y 199):=(p A (lt_of_heap V) (.inl E.oa)).trans V;have X:∀x,own x->x≠A->x<P.heap.size->w2.heap[x]? =P.heap[x]? :=λx z au av=>(ho x au).trans (p x av (.inl z));obtain⟨st,sm,hl⟩:=q.live;refine⟨⟨E.s.k.same h1 h3 hQ (by omega) λx z=>(ho x (by have:=E.lr x z;omega)).trans (p x (E.s.k.r x z) (.inr z)),⟨st,sm,(ho Wg (by have:=E.lw;omega)).trans hl⟩⟩,⟨_,hW y ar,by simp[ak],λj hj hS=>?_⟩,.inl E.oa,E.lr,E.lw⟩;by_cases e:j=i;subst e
 refine⟨sa,sl,sc,mm,k,b,H,λx z=>⟨.inl (L x z).1,(L x z).2.1,by have:=(L x z).2.2;omega⟩,?_,?_,?_,?_,hP _ _ _ _ _ (λx z=>X x (L x z).1 (L x z).2.1 (L x z).2.2) aq⟩<;>
  simp[Array.getElem?_setIfInBounds,ak]<;>omega
 have aw:Sb j=true:=by rwa[upd_ne _ _ e]at hS
 obtain⟨ax,ay,az,m',k',b',aA,g1,g2,g3,g4,g5,g6⟩:=Lb.same (own':=λx=>own x\/x=d) hP (al j hj aw) (λ_ h=>.inl h) (by omega:P.heap.size<=w2.heap.size) X;refine⟨ax,ay,az,m',k',b',aA,g1,?_,?_,?_,?_,g6⟩;rw[eG (by omega),eG (by omega),eG (by omega),eG (by omega)];exact g2;rw[eG (by omega),eG (by omega),eG (by omega),eG (by omega)];exact g3;rw[eG (by omega),eG (by omega),eG (by omega),eG (by omega)];exact g4;rw[eG (by omega),eG (by omega),eG (by omega),eG (by omega)];exact g5;have O:nU (λx=>own x\/x=d) D (Lv 241 Wg) (KR M N Wg Ch A pb n D Q J (λx=>own x\/x=d) (upd Sb i true)):=KR.rely h1 h3 hQ hP;refine WK.ctl O rfl (λ_=>du) ?_;refine WK.ctl O rfl (λ_=>stepG_inBlock) ?_;refine WK.ctl O rfl (λ_=>stepG_inLoop) ?_;exact ag _ _ _ _ _ _ _ _ _ _ _
def qS(S:Nat->Bool)(n:Nat):Nat:=sumTo n λj=>if S j=true then 1 else 0
theorem Hn(S:Nat->Bool):∀n,qS S n<=n
 |0=>by simp[qS,sumTo]
 |n+1=>by have:=Hn S n;simp only[qS,sumTo]at*;split<;>omega
theorem C2(S:Nat->Bool):∀n,qS S n=n->∀j,j<n->S j=true
 |0,_,j,c=>by omega
 |n+1,h,j,c=>by
  have a:=Hn S n;simp only[qS,sumTo]at h a;by_cases e:S n=true;rw[dr e]at h;rcases fO j n with b|b;exact C2 S n (by simp only[qS];omega) j b;obtain rfl:j=n:=by omega
  exact e;rw[dp e]at h;omega
theorem C3(S:Nat->Bool)(i:Nat)(a:S i=false):∀n,i<n->qS (upd S i true) n=qS S n+1
 |0,h=>by omega
 |n+1,h=>by
  by_cases e:i=n;subst e;have b:qS (upd S i true) i=qS S i:=sumTo_congr λj d=>by rw[upd_ne _ _ (by omega)]
  simp only[qS,sumTo]at b⊢;rw[b,upd_same,a];simp;have c:=C3 S i a n (by omega);simp only[qS,sumTo]at c⊢;rw[c,upd_ne _ _ (by omega)];omega
noncomputable def Ho(e:qP)(m:IH)(j k l o n A:Nat)(p a b c d f g h i:di)(q:List Frame):dm:=
 G (kL.at (An e m j k l o n A p (.tuple #[qR,.bool false]) a b c d f g h i) [.inRegion lL [1],.code C1,.inLoop od,.inBlock 2,.code kX]) q
def Sz(e:qP)(m:IH)(l o p q A r n:Nat)(s:Nat->Prop)(Q:dg->Prop)(t:Nat->(Nat->Prop)->dg->di->Prop)(u:List Frame):ij:=λa g w=>
 ∃v b c d f h i j k,g=Ho e m l o p q n A v b c d f h i j k u/\KR l o p q A r n s Q t a (λ_=>true) w
def KR.all{e:Nat->(Nat->Prop)->dg->di->Prop}{f g:Nat->Bool}(h:KR m k i j o p s B S e A f w)(n:∀b,b<s->g b=true->f b=true):KR m k i j o p s B S e A g w:=by obtain⟨q,r,c,t⟩:=h.a;exact⟨h.s,⟨q,r,c,λb l d=>t b l (n b l d)⟩,h.oa,h.lr,h.lw⟩
def hears{e:qP}{m:IH}{F H Wg Ch n pb A:Nat}{Q:dg->Prop}{C:Nat->(Nat->Prop)->dg->di->Prop}{cs:List Frame}{D:ij}(J:∀own g w,Sz e m F H Wg Ch A pb n B Q C cs own g w->D own g w)(hn:n<=65536)(P:B F)(R:B H)(T:qQ B Q)(O:xU C):∀(r:Nat) (S:Nat->Bool) (own:Nat->Prop) (I y d f l o p q t u:di),qS S n+r=n->WK PR 241 Wg true B (n7 PR 241 Wg Ch n B (CY C) D qR r S) own (KR F H Wg Ch A pb n B Q C own S) (G (kL.at (An e m F H Wg Ch n A I y d f l o p q t u) [.code od,.inLoop od,.inBlock 2,.code kX]) cs):=by
 intro r;induction r with
 |zero=>
  intro S own I y d f l o p q t u hc;have c:nU own B (Lv 241 Wg) (KR F H Wg Ch A pb n B Q C own S):=KR.rely P R T O;refine WK.ctl c rfl (λ_=>dA) ?_;refine WK.ctl c rfl (λ_=>gJ) ?_;rw[show List.range lL.size=[0,1]from rfl];refine WK.stop c λw z=>⟨rfl,λw=>?_,?_⟩;refine(stepG_comm rfl rfl (by k_ne) (CX (Ch:=Ch) rfl rfl w)).trans ?_;unfold listed;rw[vL (Ch:=Ch) rfl rfl w,seen_none];rw[served_G];exact J _ _ _ ⟨I,d,f,l,o,p,q,t,u,rfl,z.all λj U _=>C2 S n (by omega) j U⟩
 |succ r ih=>
  intro S own I y d f l o p q t u hc;have c:nU own B (Lv 241 Wg) (KR F H Wg Ch A pb n B Q C own S):=KR.rely P R T O;refine WK.ctl c rfl (λ_=>dA) ?_;refine WK.ctl c rfl (λ_=>gJ) ?_;rw[show List.range lL.size=[0,1]from rfl];refine WK.stop c λw z=>⟨rfl,λw=>?_,λi v K Z V L M=>?_⟩;refine(stepG_comm rfl rfl (by k_ne) (CX (Ch:=Ch) rfl rfl w)).trans ?_;unfold listed;rw[vL (Ch:=Ch) rfl rfl w,seen_none];rw[served_G];obtain⟨sa,sl,sc,mm,k,b,oj,rfl,E,W⟩:=L
  have hl:=II (e:=e) (m:=m) (Wg:=Wg) (Ch:=Ch) (n:=n) (pb:=pb) (A:=A) (i:=i) (own:=λb=>own b\/K b) (S:=n7 PR 241 Wg Ch n B (CY C) D qR r (upd S i true)) (Sb:=S) (cs:=cs) hn Z (.inl z.oa) P R T O (sa:=sa) (sl:=sl) (sc:=sc) (mm:=mm) (k:=k) (b:=b)
   I d f l o p q t u λaa I y d f l o p q t u=>ih _ _ _ _ _ _ _ _ _ _ _ _ (by rw[C3 S i V n Z];omega)
  obtain⟨ca,ha,X,N⟩:=z.a;refine hl w ⟨⟨z.s,⟨ca,ha,X,λj U V=>(N j U V).same O (λ_ h=>.inl h) (dC _) λ_ _ _ _=>rfl⟩,.inl z.oa,z.lr,z.lw⟩,oj,λx Y=>⟨.inr (E x Y).1,λe=>M x (E x Y).1 (e▸z.oa),(E x Y).2⟩,W⟩
structure C4(pb:Nat)(oa:Option Addr)(on oc:Nat)(la:Addr)(L C:Nat)(a0:Option Addr)(n c0:Nat)(w:dg):Prop where
 f1:w.cell? ⟨pb,1,none⟩=some (.slice oa on oc)
 ls:K9 pb la L C a0 n c0 w
noncomputable def Ou(o p q r s t u a b c d e f g h i j k l m n:di):Act:=
 ⟨#[o,p,q,r,s,undef,undef,undef,t,u,a,b,c,d,e,f,g,h,i,j,k,l,m,n,undef,undef,undef,undef,undef,undef,undef,undef,undef,undef,undef,undef,undef,undef,undef,undef,undef,undef,undef,undef,undef,undef,undef,undef,undef,undef,undef,undef],[]⟩
def C5(x:di)(a:List Frame):G (Frame.enter PR 163 #[x] .normal) a=G (kL.at (Ou x undef undef undef undef undef undef undef undef undef undef undef undef undef undef undef undef undef undef undef undef) [.code tV]) a:=by rw[enter_at (fn:=Tryz.f163) (c:=tV) _ Tryz.func163 xR,Tryz.ntmps163];simp only[Ou,ia,fq,gl,Nat.reduceAdd,Nat.reduceSub,Array.replicate,List.replicate,List.append_toArray,oP,so,kL]
noncomputable def i247:TypeInfo:=(PR.info? 247).getD default
def Hp:PR.info? 247=some i247:=by kernel_rfl
def QX(k:Nat)(n:Nat)(Q:dg->Prop)(l:Nat)(m:List Frame):ij:=λa g w=>
 ∃(e:qP) (d f h i j c:Nat),g=G (kL.at (mK e d h i n 0 undef undef undef undef undef undef) [.code fZ,.inLoop fZ,.inBlock 0,.code iS]) m/\e.x2=.pointer (some ⟨f,0,none⟩)/\KO [(i,wgBlock 241 0 0),(h,.cells #[.chan (some j)] 232),(j,.chan 0 #[] false c c false),(f,.cells #[.slice none 0 0,.int .i64 0,.int .i64 0,.bool false] 199),(d,.cells #[.pointer (some ⟨k,0,none⟩)] 200)] Q l w/\∀b,a b↔b=i\/b=h\/b=j\/b=f\/b=d
def Lf{u U J L C n K m0:Nat}{a0:Option Addr}{Q:dg->Prop}{rd:Nat->Prop}{cs:List Frame}(D:wA rd Q)(aa:0<U)(hL:0<L) (H:∀w,Q w->C4 u a U J h L C a0 n K w)(M:rd u)(V:rd h.block)(W:∀b,rd b->b<m0):WK PR 241 0 true rd (QX u n Q m0 cs) dE (KO [] Q m0) (G (Frame.enter PR 163 #[.pointer (some ⟨u,0,none⟩)] .normal) cs):=by
 rw[C5];have h0:∀x∈([]:List (Nat×Obj)),dE x.1:=λx s=>by cases s
 have N:=KO.rely (Q:=Q) (m0:=m0) (rd:=rd) (own:=dE) (L:=Lv 241 0) h0 D;simp only[tV,Ou];refine WK.ctl N rfl (λ_=>dA) ?_;refine WK.ctl N rfl (λ_=>gJ) ?_;simp only[xO,ia,fq,gl,Nat.reduceAdd,dB,List.range,List.range.loop];refine WK.FH (f:=λn=>.pointer (some ⟨n,0,none⟩)) (ob:=.cells #[.pointer (some ⟨u,0,none⟩)] 200) h0 D rfl rfl (by k_ne) (λw c=>?_) (λw c e l=>?_) λr _ _=>?_
 ·go_simp;first|done|rfl
 simp[go_sem]at l;walk_nrm;have h1:∀x∈[(r,Obj.cells #[.pointer (some ⟨u,0,none⟩)] 200)],(λx=>dE x\/x=r) x.1:=λx s=>by rw[iQ.1 s];exact .inr rfl
 refine WK.FH (f:=λn=>.pointer (some ⟨n,0,none⟩)) (ob:=.cells #[.slice none 0 0,.int .i64 0,.int .i64 0,.bool false] 199) h1 D rfl rfl (by k_ne) (λw c=>?_) (λw c e l=>?_) λz _ _=>?_
 ·go_simp;first|done|rfl
 simp[go_sem]at l;walk_nrm;have X:∀x∈[(z,Obj.cells #[.slice none 0 0,.int .i64 0,.int .i64 0,.bool false] 199),(r,Obj.cells #[.pointer (some ⟨u,0,none⟩)] 200)],(λx=>(dE x\/x=r)\/x=z) x.1:=λx s=>by rcases ft.1 s with rfl|s;exact .inr rfl;rw[iQ.1 s];exact .inl (.inr rfl)
 have j:=KO.rely (m0:=m0) (L:=Lv 241 0) (own:=λx=>(dE x\/x=r)\/x=z) X D;have O:∀w,KO [(z,Obj.cells #[.slice none 0 0,.int .i64 0,.int .i64 0,.bool false] 199),(r,Obj.cells #[.pointer (some ⟨u,0,none⟩)] 200)] Q m0 w->w.cell? ⟨r,0,none⟩=some (.pointer (some ⟨u,0,none⟩)):=λw c=>by have:=c.at_ (r,Obj.cells #[.pointer (some ⟨u,0,none⟩)] 200) (by simp);simp[World.cell?,this]
 refine WK.ctl j rfl (λ_=>du) ?_;refine WK.ctl j rfl (λ_=>dA) ?_;refine WK.ctl j rfl (λ_=>dA) ?_;refine WK.ctl j rfl (λ_=>gJ) ?_;simp only[xP,ia,fq,gl,Nat.reduceAdd,dB,List.range,List.range.loop];refine WK.load (v:=.pointer (some ⟨u,0,none⟩)) j rfl rfl (by k_ne) (λw c=>?_) (λw c e l=>?_) ?_;have p:=(O) w c;go_simp;have p:=(O) w c;simp[go_sem,p]at l;exact .inl ⟨_,_,l,.inl (.inl (.inr rfl))⟩;walk_nrm;refine WK.val (v:=?_) j rfl rfl (by k_ne) (λw=>?_) (λw=>?_) ?_;rotate_left;go_simp;rfl;go_simp;walk_nrm;refine WK.val (v:=?_) j rfl rfl (by k_ne) (λw=>?_) (λw=>?_) ?_;rotate_left;go_simp;rfl;go_simp;walk_nrm;refine WK.load (v:=.slice a U J) j rfl rfl (by k_ne) (λw c=>?_) (λw c e l=>?_) ?_;have p:=(λw c=>(H w c.q).f1) w c;go_simp;have p:=(λw c=>(H w c.q).f1) w c;simp[go_sem,p]at l;exact .inl ⟨_,_,l,.inr (.inl ⟨rfl,M⟩)⟩;walk_nrm;refine WK.val (v:=?_) j rfl rfl (by k_ne) (λw=>?_) (λw=>?_) ?_;rotate_left;go_simp;rfl;go_simp;walk_nrm;refine WK.val (v:=.bool false) j rfl rfl (by k_ne) (λw=>?_) (λw=>?_) ?_;go_simp;omega;simp[go_sem];walk_nrm;refine WK.ctl j rfl (λ_=>du) ?_;refine WK.ctl j rfl (λ_=>stepG_cond (t:=false) rfl) ?_;simp only[iw,fp];refine WK.ctl j rfl (λ_=>fi) ?_;refine WK.ctl j rfl (λ_=>dA) ?_;refine WK.ctl j rfl (λ_=>gJ) ?_;simp only[CQ,ia,fq,gl,Nat.reduceAdd,dB,List.range,List.range.loop];refine WK.FH (f:=λn=>.chan (some n)) (ob:=.chan 0 #[] false 0 0 false) X D rfl rfl (by k_ne) (λw c=>?_) (λw c e l=>?_) λA _ _=>?_
 ·have:=run_makeChan (P:=PR) (w:=w) (t:=232) (e:=247) (dir:=.both) (i:=i247) (by kernel_rfl) Hp .i64 0 (by omega) (by omega);go_simp;first|done|rfl|(rw[this];rfl)
 have Y:(Instr.makeChan 232 (.int .i64 0)).events PR w #[]=#[]:=by have Y:=events_makeChan (P:=PR) (w:=w) (t:=232) (e:=247) (dir:=.both) (i:=i247) (by kernel_rfl) Hp .i64 0 (by omega) (by omega) #[];simpa using Y
 have F:e∈(do Pure.pure (Next.value (<-Instr.makeChan 232 (.int .i64 0))):Sem Next).events PR w #[]:=l;simp at F;rw[Y]at F;simp at F;walk_nrm;have h3:∀x∈[(A,Obj.chan 0 #[] false 0 0 false),(z,Obj.cells #[.slice none 0 0,.int .i64 0,.int .i64 0,.bool false] 199),(r,Obj.cells #[.pointer (some ⟨u,0,none⟩)] 200)],(λx=>((dE x\/x=r)\/x=z)\/x=A) x.1:=λx s=>by rcases ft.1 s with rfl|s;exact .inr rfl;exact .inl (X x s)
 refine WK.FH (f:=λn=>.pointer (some ⟨n,0,none⟩)) (ob:=.cells #[.chan none] 232) h3 D rfl rfl (by k_ne) (λw c=>?_) (λw c e l=>?_) λy _ _=>?_
 ·go_simp;first|done|rfl
 simp[go_sem]at l;walk_nrm;have S:∀o,∀x∈[(y,o),(A,Obj.chan 0 #[] false 0 0 false),(z,Obj.cells #[.slice none 0 0,.int .i64 0,.int .i64 0,.bool false] 199),(r,Obj.cells #[.pointer (some ⟨u,0,none⟩)] 200)],(λx=>(((dE x\/x=r)\/x=z)\/x=A)\/x=y) x.1:=λo x s=>by rcases ft.1 s with rfl|s;exact .inr rfl;exact .inl (h3 x s)
 refine WK.Ld (pre:=[]) (ob':=.cells #[.chan (some A)] 232) (S _) D (λb k Z=>?_) rfl rfl (by k_ne) (λw c=>?_) (λw c e l=>?_) ?_
 ·have:=W b Z;rcases k with(((k|k)|k)|k)|k;exact k;all_goals omega
 have p:=c.at_ (y,Obj.cells #[.chan none] 232) (by simp);have K:w.cell? ⟨y,0,none⟩=some (.chan none):=by simp[World.cell?,p]
 have f0:w.frozen? ⟨y,0,none⟩=false:=by simp[World.frozen?,p]
 go_simp;refine⟨by simp[World.setCell],by simp[World.setCell],λd hd=>eU w ⟨y,0,none⟩ _ d hd,?_⟩;simp[World.setCell,nd,p];have p:=c.at_ (y,Obj.cells #[.chan none] 232) (by simp);have K:w.cell? ⟨y,0,none⟩=some (.chan none):=by simp[World.cell?,p]
 have f0:w.frozen? ⟨y,0,none⟩=false:=by simp[World.frozen?,p]
 have I:∀(w:dg) (I:Array Event) (T:Addr) (m:Mode) (x:Option Nat),(store T (.chan x) m).events PR w I=storedEv PR w I T (.chan x) m:=λw I T m x=>events_store PR w I T _ m rfl;simp[go_sem,I,K,f0]at l;exact .inl ⟨_,_,l,.inl (.inr rfl)⟩;walk_nrm;have B:=KO.rely (m0:=m0) (L:=Lv 241 0) (own:=λx=>(((dE x\/x=r)\/x=z)\/x=A)\/x=y) (S (Obj.cells #[.chan (some A)] 232)) D;refine WK.ctl B rfl (λ_=>du) ?_;refine WK.ctl B rfl (λ_=>dA) ?_;refine WK.ctl B rfl (λ_=>gJ) ?_;simp only[CR,ia,fq,gl,Nat.reduceAdd,dB,List.range,List.range.loop];refine WK.FH (f:=λn=>.pointer (some ⟨n,0,none⟩)) (ob:=wgBlock 241 0 0) (S _) D rfl rfl (by k_ne) (λw c=>?_) (λw c e l=>?_) λR _ _=>?_
 ·go_simp;first|done|rfl
 simp[go_sem]at l;walk_nrm;have h5:∀x∈[(R,wgBlock 241 0 0),(y,Obj.cells #[.chan (some A)] 232),(A,Obj.chan 0 #[] false 0 0 false),(z,Obj.cells #[.slice none 0 0,.int .i64 0,.int .i64 0,.bool false] 199),(r,Obj.cells #[.pointer (some ⟨u,0,none⟩)] 200)],(λx=>((((dE x\/x=r)\/x=z)\/x=A)\/x=y)\/x=R) x.1:=λx s=>by rcases ft.1 s with rfl|s;exact .inr rfl;exact .inl (S _ x s)
 have g:=KO.rely (m0:=m0) (L:=Lv 241 0) (own:=λx=>((((dE x\/x=r)\/x=z)\/x=A)\/x=y)\/x=R) h5 D;refine WK.ctl g rfl (λ_=>du) ?_;refine WK.ctl g rfl (λ_=>dA) ?_;refine WK.ctl g rfl (λ_=>dA) ?_;refine WK.ctl g rfl (λ_=>gJ) ?_;simp only[CS,ia,fq,gl,Nat.reduceAdd,dB,List.range,List.range.loop];have E:∀w,KO [(R,wgBlock 241 0 0),(y,Obj.cells #[.chan (some A)] 232),(A,Obj.chan 0 #[] false 0 0 false),(z,Obj.cells #[.slice none 0 0,.int .i64 0,.int .i64 0,.bool false] 199),(r,Obj.cells #[.pointer (some ⟨u,0,none⟩)] 200)] Q m0 w->w.cell? ⟨r,0,none⟩=some (.pointer (some ⟨u,0,none⟩)):=λw c=>by have:=c.at_ (r,Obj.cells #[.pointer (some ⟨u,0,none⟩)] 200) (by simp);simp[World.cell?,this]
 refine WK.load (v:=.pointer (some ⟨u,0,none⟩)) g rfl rfl (by k_ne) (λw c=>?_) (λw c e l=>?_) ?_;have p:=(E) w c;go_simp;have p:=(E) w c;simp[go_sem,p]at l;exact .inl ⟨_,_,l,.inl (.inl (.inl (.inl (.inl (.inr rfl)))))⟩;walk_nrm;refine WK.val (v:=?_) g rfl rfl (by k_ne) (λw=>?_) (λw=>?_) ?_;rotate_left;go_simp;rfl;go_simp;walk_nrm;refine WK.val (v:=?_) g rfl rfl (by k_ne) (λw=>?_) (λw=>?_) ?_;rotate_left;go_simp;rfl;go_simp;walk_nrm;refine WK.load (v:=.slice (some h) L C) g rfl rfl (by k_ne) (λw c=>?_) (λw c e l=>?_) ?_;have p:=(λw c=>(H w c.q).ls.f2) w c;go_simp;have p:=(λw c=>(H w c.q).ls.f2) w c;simp[go_sem,p]at l;exact .inl ⟨_,_,l,.inr (.inl ⟨rfl,M⟩)⟩;walk_nrm;refine WK.val (v:=.pointer (some h)) g rfl rfl (by k_ne) (λw=>?_) (λw=>?_) ?_;go_simp;simp[go_sem];exact events_indexAt_slice _ _ _ _ _ _ (by kernel_rfl) ⟨by omega,by omega⟩;walk_nrm;refine WK.load (v:=.slice a0 n K) g rfl rfl (by k_ne) (λw c=>?_) (λw c e l=>?_) ?_;have p:=(λw c=>(H w c.q).ls.l0) w c;go_simp;have p:=(λw c=>(H w c.q).ls.l0) w c;simp[go_sem,p]at l;exact .inl ⟨_,_,l,.inr (.inl ⟨rfl,V⟩)⟩;walk_nrm;refine WK.val (v:=?_) g rfl rfl (by k_ne) (λw=>?_) (λw=>?_) ?_;rotate_left;go_simp;rfl;go_simp;walk_nrm;refine WK.val (v:=?_) g rfl rfl (by k_ne) (λw=>?_) (λw=>?_) ?_;rotate_left;go_simp;rfl;go_simp;walk_nrm;refine WK.ctl g rfl (λ_=>du) ?_;refine WK.ctl g rfl (λ_=>qA) ?_;refine WK.ctl g rfl (λ_=>stepG_loop) ?_;refine WK.stop g λw c=>⟨⟨_,_,_,_,_,_,_,_,_,_,_,_,_,_,_,_⟩,r,z,y,R,A,0,rfl,rfl,c,λb=>⟨?_,?_⟩⟩;rintro(((((k|k)|k)|k)|k)|k);exact k.elim;exact .inr (.inr (.inr (.inr k)));exact .inr (.inr (.inr (.inl k)));exact .inr (.inr (.inl k));exact .inr (.inl k);exact .inl k;rintro(k|k|k|k|k);exact .inr k;exact .inl (.inr k);exact .inl (.inl (.inr k));exact .inl (.inl (.inl (.inr k)));exact .inl (.inl (.inl (.inl (.inr k))))
theorem xW{rc:Nat}{f:Array di}{a b c d:di}{w:dg}(g:f[2]? =some (.pointer (some ⟨rc,0,none⟩)))(e:w.heap[rc]? =some (.cells #[a,b,c,d] 199)):(results Tryz.f163 f).run PR w=.ok (.agg #[a,b,c,d]) w:=by
 have h:w.cell? ⟨rc,0,none⟩=some a:=by simp[World.cell?,e]
 have i:w.cell? ⟨rc,1,none⟩=some b:=by simp[World.cell?,e]
 have j:w.cell? ⟨rc,2,none⟩=some c:=by simp[World.cell?,e]
 have k:w.cell? ⟨rc,3,none⟩=some d:=by simp[World.cell?,e]
 simp[results,Tryz.results163,go_sem,g,h,i,j,k]
theorem tY{rc:Nat}{h:Array di}{a b c d:di}{w:dg}(j:h[2]? =some (.pointer (some ⟨rc,0,none⟩)))(g:w.heap[rc]? =some (.cells #[a,b,c,d] 199)):∀e∈(results Tryz.f163 h).events PR w #[],∃i k,e=⟨.cell i,k,false⟩/\i.block=rc:=by
 have l:w.cell? ⟨rc,0,none⟩=some a:=by simp[World.cell?,g]
 have m:w.cell? ⟨rc,1,none⟩=some b:=by simp[World.cell?,g]
 have n:w.cell? ⟨rc,2,none⟩=some c:=by simp[World.cell?,g]
 have o:w.cell? ⟨rc,3,none⟩=some d:=by simp[World.cell?,g]
 intro e f;simp[results,Tryz.results163,go_sem,j,l,m,n,o]at f;rcases f with f|f|f|f<;>exact⟨_,_,f,rfl⟩
section
variable{Wg:Nat}{own rd:Nat->Prop}{S:ij}{Q:dg->Prop}{m0 rc:Nat}{bl pre:List (Nat×Obj)}{caller:Frame}{cs:List Frame}{va vb vc vd:di}{act:Act}
theorem Lg{k:List Item}{K:dg->Prop}(a:nU own rd (Lv 241 Wg) K)(f:∀w,K w->w.heap[rc]? =some (.cells #[va,vb,vc,vd] 199))(c:own rc)(g:act.tmps[2]? =some (.pointer (some ⟨rc,0,none⟩)))(i:act.defers=[]) (j:WK PR 241 Wg true rd S own K (G (caller.finish (.agg #[va,vb,vc,vd])) cs)):WK PR 241 Wg true rd S own K (G (kL.at act (.code .ret::k)) (caller::cs)):=by refine WK.ctl (g':=G {kL.at act (.code .ret::k)with mode:=.returning} (caller::cs)) a rfl (λw=>?_) ?_;simp[stepG,stepG.exec,G,Frame.at,kL,base];refine WK.step a rfl λw d=>?_;have l:=xW g (f w d);refine⟨G (caller.finish (.agg #[va,vb,vc,vd])) cs,w,seen PR 163 ((results Tryz.f163 act.tmps).events PR w #[]),own,?_,⟨rfl,rfl,rfl,dC _,λb=>⟨.inl,λh=>h.elim id λh=>absurd h.2 (Nat.not_lt.2 h.1)⟩,λ_ _ _=>rfl,λe m=>?_⟩,j w d⟩;simp[stepG,unwind,doReturn,G,Frame.at,kL,base,i,Tryz.func163,lH,l,GStep.after];have:=ky m;obtain⟨n,o,rfl,p⟩:=tY g (f w d) e this;exact .inl ⟨n,o,rfl,.inl (by rw[p];exact c)⟩
end
end Go.Proofs.W
variable{T U:dn}
namespace Go.Proofs.W
open Go.Conc Go.dG Go.dG.Cr Go.dG.Wg Go.RowKit Go.Conc.Lib Go.ConcR.Gen
open Go.ConcN Go.ConcN.Gen
open Go.ConcR (KK wgBlock WgAt stA smA mk DC0)
abbrev Sp:=Option (List Int×Int×Int)
def lV(x y:Sp):Bool:=match x,y with
 |none,_=>false
 |some _,none=>true
 |some (_,m,k),some (_,a,b)=>if m≠a then decide (m<a)else decide (k<b)
def oD:List Sp->Sp
 |[]=>none
 |x::b=>b.foldl (λa y=>if lV y a then y else a) x
def gy(l:List Int)(c:Nat):Array di:=(l.map (Value.int .i64)++List.replicate (c-l.length) (Value.int .i64 0)).toArray
def Lh(b:Nat×Nat):Prop:=∀a,¬Ci b a
def dW(o:Nat->Prop)(w:dg)(s:Sp)(y:SV):Prop:=match s with
 |none=>y=⟨none,0,0,0,0,false⟩
 |some (l,m,k)=>y.m=m/\y.k=k/\y.b=true/\y.sl=l.length/\((l=[]/\y.sa=none/\y.sc=0)\/
  (l≠[]/\∃a,o a/\y.sa=some ⟨a,0,none⟩/\l.length<=y.sc/\y.sc<2^63/\∃c,Lh c/\w.heap[a]? =some (.cells (gy l y.sc) 3 c)))
def dW.better{s a:Sp}{x y:SV}(h:dW A w s x)(k:dW B t a y):ik x y=lV s a:=by
 cases s with
 |none=>
  have:x=⟨none,0,0,0,0,false⟩:=h;subst this;cases a with
  |none=>rfl
  |some a=>rfl
 |some s=>
  obtain⟨l,m,n⟩:=s;obtain⟨c,d,b,_⟩:=h;cases a with
  |none=>
   have:y=⟨none,0,0,0,0,false⟩:=k;subst this;simp[ik,lV,b]
  |some a=>
   obtain⟨i,j,o⟩:=a;obtain⟨e,f,g,_⟩:=k;simp[ik,lV,c,d,b,e,f,g]
theorem vM:∀(b:List SV) (c:List Sp) (x:SV) (s:Sp),dW A w s x->b.length=c.length->(∀j (h:j<b.length) (k:j<c.length),dW A w c[j] b[j])->
 dW A w (c.foldl (λa y=>if lV y a then y else a) s) (b.foldl (λa y=>if ik y a then y else a) x)
 |[],[],x,s,h,_,_=>h
 |y::b,t::c,x,s,h,d,g=>by simp only[pZ];have e:=g 0 (by simp) (by simp);simp only[qb]at e;rw[e.better h];refine vM b c _ _ ?_ (by simpa using d) λj i f=>g (j+1) (by simpa using i) (by simpa using f);split;exact e;exact h
 |[],_::_,_,_,_,d,_=>by simp at d
 |_::_,[],_,_,_,d,_=>by simp at d
def C6(b:List SV)(a:List Sp)(c:b.length=a.length)(e:∀j (h:j<b.length) (g:j<a.length),dW A w a[j] b[j]):dW A w (oD a) (dR b):=by
 cases b with
 |nil=>cases a with
  |nil=>rfl
  |cons _ _=>simp at c
 |cons y b=>cases a with
  |nil=>simp at c
  |cons s a=>
   exact vM b a y s (e 0 (by simp) (by simp)) (by simpa using c) λj f d=>e (j+1) (by simpa using f) (by simpa using d)
def Wy.PZ{S:ij}(h:Wy P T m D A S B Z w):Wy P T m D A (λo Z c=>S o Z c/\∀b,B b->o b) B Z w:=by
 obtain⟨t,h⟩:=h
 have g:∀i:Nat->Prop,(∀b,i b->B b)->Wy P T m D A (λo Z c=>S o Z c/\∀b,i b->o b) B Z w:=by
  intro i k;induction h with
  |here h=>exact n9 λd f=>⟨h d f,k⟩
  |step p q u r=>
   refine kV p λd f=>?_;obtain⟨l,c,n,a,e,j⟩:=q d f;exact⟨l,c,n,a,e,j,r d l c n a f e j λb s=>(j.owns b).2 (.inl (k b s))⟩
 exact g B λ_ h=>h
end Go.Proofs.W
namespace Go.Proofs.W
open Go.RowKit
def V.vF:V.prog.underlying 27=some (.slice 3):=by rw[V.sv,Tryz.underlying27]
def tZ:Tryz.t3.bytes=8:=by kernel_rfl
def IJ(w:dg):Calls V.prog 128 #[.slice none 0 0] w λe a=>e=.returned (.slice none 0 0)/\a=w:=by have b:=λ(w:dg)=>Go.Lib.run_eql_slice_nil (P:=V.prog) w 27 3 none 0 0 0 0 V.vF;go_enter V.func128,Tryz.ntmps128;go_wp2;go_ret;exact⟨rfl,rfl⟩
def vN(w:dg)(a b:Nat):Nat:=(Question.appendCap a b 3).cut (w.tape w.drawn (.appendCap a b 3))
def Li(w:dg)(a b:Nat):a<=vN w a b:=by simp[vN,Question.cut]
def Lj(w:dg)(a b:Nat)(h:a<=65536):vN w a b<2^63:=by
 have:0<2^63-a:=by omega
 have:=Nat.mod_lt (w.tape w.drawn (.appendCap a b 3)) this;simp only[vN,Question.cut];omega
def zK(n:Nat):Builtin.zeroCells #[.int .i64 0] n=(List.replicate n (Value.int .i64 0)).toArray:=by apply A1;simp[Builtin.zeroCells];exact List.ext_getElem (by simp) λi a b=>by simp[Nat.mod_one]
def Bn(l:List Int)(c:Nat):(l.map (Value.int .i64)).toArray++Builtin.zeroCells #[.int .i64 0] (c-l.length)=gy l c:=by rw[zK];simp[gy]
def FI(b c:Nat)(l:List Int)(w:dg)(g:0<l.length)(m:l.length<=65536)(n:b<w.heap.size)(d:∀k (h:k<l.length),w.cell? ⟨b,k,none⟩=some (.int .i64 l[k])):
 Calls V.prog 128 #[.slice (some ⟨b,0,none⟩) l.length c] w λe w'=>e=.returned (.slice (some ⟨w.heap.size+1,0,none⟩) l.length (vN w l.length 0))/\
  w'=((w.alloc (.cells #[] 3)).alloc (.cells (gy l (vN w l.length 0)) 3)).drew:=by
 have s:=λ(w:dg)=>Go.Lib.run_eql_slice_nil (P:=V.prog) w 27 3 (some ⟨b,0,none⟩) l.length c 0 0 V.vF;have o:Sem.run V.prog (loadCellsFrom ⟨b,0,none⟩ 0 l.length #[]) (w.alloc (.cells #[] 3)).drew=.ok (l.map (Value.int .i64)).toArray (w.alloc (.cells #[] 3)).drew:=by
  have:=run_loadCellsFrom (P:=V.prog) (w.alloc (.cells #[] 3)).drew ⟨b,0,none⟩ (λj=>.int .i64 (l.getD j 0)) l.length 0 #[] λj f=>by
   have h:=d j f;have e:(w.alloc (.cells #[] 3)).drew.cell? ⟨b,j,none⟩=w.cell? ⟨b,j,none⟩:=gX (w:=w) (w':=(w.alloc (.cells #[] 3)).drew) (ad:=⟨b,j,none⟩) (alloc_old w _ n);have p:(⟨b,0,none⟩:Addr).add j=⟨b,j,none⟩:=by unfold Addr.add;split;rename_i h;subst h;rfl;simp
   simp only[dB];rw[p,e,h,ng,fI f];rfl
  rw[this];congr 1;apply A1;simp;exact List.ext_getElem (by simp) λi a q=>by simp at a;simp[a]
 have a:¬(9223372036854775807<(l.length:Int)/\Tryz.t3.bytes=0):=by rw[tZ];omega
 have q:¬(281474976710656<Builtin.nextslicecap l.length 0*Tryz.t3.bytes):=by rw[tZ,nextslicecap_zero g];omega
 have t:¬l.length=0:=by omega
 have r:=Go.Lib.hid (Bn l (vN w l.length 0));clear d m;go_enter V.func128,Tryz.ntmps128;go_wp2;go_ret;exact⟨rfl,by rw[<-r.out];rfl⟩
def qi(x d:Nat):Nat:=x|||(1<<<d)
def qT(x d:Nat):Nat:=x-(x&&&(1<<<d))
theorem Ov:∀x:Nat,x<32->∀d:Nat,d<5->bits .or .u8 (x:Int) ((2:Int)^d%256)=(qi x d:Int):=by decide+kernel
def C7:∀x:Nat,x<32->∀d:Nat,d<5->bits .andNot .u8 (x:Int) ((2:Int)^d%256)=(qT x d:Int):=by decide+kernel
def FJ:∀x,x<32->∀d,d<5->qi x d<32:=by decide+kernel
def Ow:∀x,x<32->∀d,d<5->qT x d<32:=by decide+kernel
theorem C8(x d:Nat)(w:World)(hx:x<32)(hd:d<5):Calls V.prog 164 #[.int .u8 x,.int .i64 d] w λe w'=>e=.returned (.int .u8 (qi x d))/\w'=w:=by have h:=Go.Lib.hid (Ov x hx d hd);go_enter V.func164,Tryz.ntmps164;go_wp2;go_ret;exact⟨by rw[h.out];rfl,rfl⟩
def C9(x d:Nat)(w:dg)(a:x<32)(b:d<5):Calls V.prog 228 #[.int .u8 x,.int .i64 d] w λe c=>e=.returned (.int .u8 (qT x d))/\c=w:=by have h:=Go.Lib.hid (C7 x a d b);go_enter V.func228,Tryz.ntmps228;go_wp2;go_ret;exact⟨by rw[h.out];rfl,rfl⟩
def jq{d:Type}(e:Nat->Prop)(E:dg->di->d->Prop)(z:di)(t:dn)(w:dg)(v:di)(l:List d):Prop:=
 (l=[]/\v=.slice none 0 0)\/∃b c a f,e b/\v=.slice (some ⟨b,0,none⟩) l.length c/\w.heap[b]? =some (.cells a t f)/\a.size=c/\l.length<=c/\(∀k (h:k<l.length),∃u,a[k]? =some u/\E w u l[k])/\∀k,l.length<=k->k<c->a[k]? =some z
def SA(_:dg)(u:di)(n:Nat):Prop:=u=.int .i64 n
abbrev uY(a:Nat->Prop):=jq a SA (.int .i64 0) 3
abbrev xX(a:Nat->Prop):=jq a (uY a) (.slice none 0 0) 27
abbrev ue(a:Nat->Prop):=jq a (xX a) (.slice none 0 0) 66
def jq.same{a:Type}{E:dg->di->a->Prop}{w w':dg}{l:List a}(f:∀b,A b->w'.heap[b]? =w.heap[b]?)(g:∀u d,E w u d->E w' u d)(h:jq A E z T w x l):jq A E z T w' x l:=by rcases h with h|⟨b,c,i,j,e,m,n,o,p,q,r⟩;exact .inl h;refine .inr ⟨b,c,i,j,e,m,(f b e).trans n,o,p,λk s=>?_,r⟩;obtain⟨u,t,v⟩:=q k s;exact⟨u,t,g _ _ v⟩
def Uj(b:di):Prop:=b=undef\/∃a,b=.pointer (some a)
structure eN where
 opn:List Nat
 lists:List (List (List Nat))
 counts:List Int
structure eN.Ok(D:eN):Prop where
 len:D.lists.length=D.opn.length
 five:D.opn.length<=5
 nodup:D.opn.Nodup
 door:∀d∈D.opn,d<5
 many:∀ls∈D.lists,ls.length<=65536
 long:∀ls∈D.lists,∀l∈ls,l.length<=65536
 shift:∀ls∈D.lists,∀l∈ls,∀s∈l,s<6
 cnt:D.counts.length=32
 cval:∀c∈D.counts,-1<=c/\c<=5
 zero:D.counts.getD 0 0=0
def dX(b c d:di)(a:List Int):Array di:=([b,c,d]++a.map (Value.int .i64)).toArray
structure fH(n0:Nat->Prop)(pb:Nat)(D:eN)(w:dg):Prop where
 ok:D.Ok
 lt:n0 pb
 at_:∃wk u1 u2 fz,Uj wk/\w.heap[pb]? =some (.cells (dX wk u1 u2 D.counts) 207 fz)/\uY n0 w u1 D.opn/\ue n0 w u2 D.lists
theorem fH.same{D:eN}{w w':dg}(a:∀b,A b->w'.heap[b]? =w.heap[b]?)(h:fH A m D w):fH A m D w':=by obtain⟨c,d,e,f,g,i,j,k⟩:=h.at_;refine⟨h.ok,h.lt,c,d,e,f,g,(a _ h.lt).trans i,j.same a λ_ _ h=>h,k.same a λ_ _ h=>h.same a λ_ _ h=>h.same a λ_ _ h=>h⟩
def Hq(T:Nat)(w:dg)(e:Option Addr)(b:Nat)(a:List Nat):Prop:=(e=none/\a=[]/\b=0)\/∃c d,e=some ⟨c,0,none⟩/\T<c/\w.heap[c]? =some (.cells d 3)/\d.size=b/\a.length<=b/\∀k (h:k<a.length),d[k]? =some (.int .i64 a[k])
def Ao(L:Nat->Nat):List Nat:=[L 0,L 1,L 2,L 3,L 4,L 5]
def Lk(L:Nat->Nat):di:=.agg #[.int .u8 (L 0),.int .u8 (L 1),.int .u8 (L 2),.int .u8 (L 3),.int .u8 (L 4),.int .u8 (L 5)]
def il(D:eN)(L:Nat->Nat):List Int:=(Ao L).map λx=>D.counts.getD x 0
def eV(D:eN)(L:Nat->Nat)(a:List Nat):Sp:=if(il D L).any (·<0)then none else some (a.map Int.ofNat,(il D L).foldl max 0,(il D L).sum)
def vO(a:Nat)(w:dg)(s:Sp)(y:SV):Prop:=∀l m k,s=some (l,m,k)->l≠[]->∃j,a<=j/\y.sc=(Question.appendCap l.length 0 3).cut (w.tape j (.appendCap l.length 0 3))
def FK{D:eN}(h:fH A m D w)(x:Nat)(i:x<32):w.cell? ⟨m,3+x,none⟩=some (.int .i64 (D.counts.getD x 0)):=by
 obtain⟨b,c,d,j,_,f,_,_⟩:=h.at_;have k:=h.ok.cnt;have e:(dX b c d D.counts)[3+x]? =some (.int .i64 (D.counts.getD x 0)):=by
  have a:x<D.counts.length:=by omega
  have g:(dX b c d D.counts)[3+x]? =(b::c::d::D.counts.map (Value.int .i64))[3+x]? :=by simp[dX]
  rw[g,show 3+x=x+1+1+1 by omega,zZ,zZ,zZ,sn,fI a,ng,fI a];rfl
 simp only[World.cell?,f];exact e
def FL(D:eN)(L:Nat->Nat):(il D L).length=6:=rfl
def xY(D:eN)(L:Nat->Nat)(k:Nat)(h:k<(il D L).length):(il D L)[k]=D.counts.getD (L k) 0:=by
 have a:k<6:=h;have:k=0\/k=1\/k=2\/k=3\/k=4\/k=5:=by omega
 rcases this with rfl|rfl|rfl|rfl|rfl|rfl<;>rfl
theorem Ll:∀(l:List Int),(∀c∈l,c<=5)->l.any (·<0)=false->0<=l.sum/\l.sum<=5*l.length
 |[],_,_=>by simp
 |x::l,h,a=>by simp only[List.any_cons,Bool.or_eq_false_iff,decide_eq_false_iff_not]at a;have:=Ll l (λc b=>h c (iF _ b)) a.2;have d:=h x (iV ..);simp only[List.sum_cons,fq];omega
theorem Lm:∀(l:List Int) (a:Int),(∀c∈l,c<=5)->0<=a->a<=5->0<=l.foldl max a/\l.foldl max a<=5
 |[],a,_,b,d=>⟨b,d⟩
 |x::l,a,h,b,d=>by have f:=h x (iV ..);exact Lm l (max a x) (λc e=>h c (iF _ e)) (by omega) (by omega)
def Ap{D:eN}(h:D.Ok)(x:Nat)(b:x<32): -1<=D.counts.getD x 0/\D.counts.getD x 0<=5:=by
 have a:x<D.counts.length:=by rw[h.cnt];exact b
 rw[ng,fI a];exact h.cval _ (fc a)
def Hr{D:eN}(h:D.Ok){L:Nat->Nat}(b:∀s,s<6->L s<32):∀c∈il D L,c<=5:=by
 intro c d;obtain⟨x,a,rfl⟩:=nh.1 d;have:x<32:=by simp only[Ao,ft,lZ,jN]at a;rcases a with rfl|rfl|rfl|rfl|rfl|rfl<;>exact b _ (by omega)
 exact(Ap h x this).2
def Da(a b c d e f:di)(w:dg):(Instr.index 204 (.agg #[a,b,c,d,e,f]) (.int .i64 0)).run V.prog w=.ok a w:=by kernel_rfl
def Db(b a c d e f:di)(w:dg):(Instr.index 204 (.agg #[b,a,c,d,e,f]) (.int .i64 1)).run V.prog w=.ok a w:=by kernel_rfl
def Dc(b c a d e f:di)(w:dg):(Instr.index 204 (.agg #[b,c,a,d,e,f]) (.int .i64 2)).run V.prog w=.ok a w:=by kernel_rfl
def Dd(b c d a e f:di)(w:dg):(Instr.index 204 (.agg #[b,c,d,a,e,f]) (.int .i64 3)).run V.prog w=.ok a w:=by kernel_rfl
def De(b c d e a f:di)(w:dg):(Instr.index 204 (.agg #[b,c,d,e,a,f]) (.int .i64 4)).run V.prog w=.ok a w:=by kernel_rfl
def Df(b c d e f a:di)(w:dg):(Instr.index 204 (.agg #[b,c,d,e,f,a]) (.int .i64 5)).run V.prog w=.ok a w:=by kernel_rfl
def IK(w:dg):(Instr.build 199 #[(3,.bool true)]).run V.prog w=.ok (.agg #[.slice none 0 0,.int .i64 0,.int .i64 0,.bool true]) w:=by kernel_rfl
def FM(w:dg):(Instr.build 199 #[]).run V.prog w=.ok (.agg #[.slice none 0 0,.int .i64 0,.int .i64 0,.bool false]) w:=by kernel_rfl
def Hs(D:eN)(L:Nat->Nat)(c:List Nat)(d:Nat)(w:dg)(e:Ending)(a:dg):Prop:=
 ∃y:SV,e=.returned y.val/\dW (λb=>w.heap.size<=b) a (eV D L c) y/\vO d a (eV D L c) y/\Below w.heap.size w a/\w.drawn<=a.drawn
theorem FN(n0:Nat->Prop)(pb T:Nat)(D:eN)(L:Nat->Nat)(ps:List Nat)(pa:Option Addr)(pc j0:Nat)(w:World)(hP:fH n0 pb D w)(Wr:∀b,n0 b->b<w.heap.size)(hL:∀s,s<6->L s<32)(PY:Hq T w pa pc ps)(N7:ps=[]->pa=none)(ff:ps.length<=65536)(hj:j0<=w.drawn):Calls V.prog 229 #[.pointer (some ⟨pb,0,none⟩),.slice pa ps.length pc,Lk L] w (Hs D L ps j0 w):=by
 have TA:=IK;have Hm:=FM;have Ws:pb<w.heap.size:=Wr _ hP.lt;unfold Lk;go_enter V.func229,Tryz.ntmps229;go_wp2
 go_loopw [13] (λi wr=>∃k:Nat,k<=6/\i=.int .i64 k/\Below w.heap.size w wr/\w.heap.size+3<=wr.heap.size/\wr.heap[w.heap.size+1+1]? =some (eI ⟨none,0,0,((il D L).take k).foldl max 0,((il D L).take k).sum,true⟩)/\
  wr.heap[w.heap.size+1]? =some (eI (dR []))/\((il D L).take k).any (·<0)=false/\wr.drawn=w.drawn) (λi _=>6-(intOf i).toNat)
 case atStart=>
  refine⟨0,by omega,rfl,(((Below.refl _ _).alloc (Nat.le_refl _) _).alloc (by simp) _).alloc (by simp;omega) _,by simp,?_,?_,rfl,rfl⟩
  ·have:=fM ((w.alloc (.cells #[.int .u8 (L 0),.int .u8 (L 1),.int .u8 (L 2),.int .u8 (L 3),.int .u8 (L 4),.int .u8 (L 5)] 204)).alloc (eI (dR []))) (eI ⟨none,0,0,0,0,true⟩);rw[World.size_alloc,World.size_alloc]at this;exact this
  ·have h2:=fM (w.alloc (.cells #[.int .u8 (L 0),.int .u8 (L 1),.int .u8 (L 2),.int .u8 (L 3),.int .u8 (L 4),.int .u8 (L 5)] 204)) (eI (dR []));rw[World.size_alloc]at h2;have h3:=alloc_old ((w.alloc (.cells #[.int .u8 (L 0),.int .u8 (L 1),.int .u8 (L 2),.int .u8 (L 3),.int .u8 (L 4),.int .u8 (L 5)] 204)).alloc (eI (dR []))) (eI ⟨none,0,0,0,0,true⟩) (b:=w.heap.size+1) (by simp);exact h3.trans h2
 case round=>
  obtain⟨k,hk,rfl,hb,Vu,ho,hr,QY,Vw⟩:=hrel;have Vx:=Lm ((il D L).take k) 0 (λc hc=>Hr hP.ok hL c (List.mem_of_mem_take hc)) (by omega) (by omega);have Uk:=Ll ((il D L).take k) (λc hc=>Hr hP.ok hL c (List.mem_of_mem_take hc)) QY;rw[List.length_take,FL]at Uk;obtain⟨mx,TB⟩:∃mx,mx=((il D L).take k).foldl max 0:=⟨_,rfl⟩;obtain⟨sm,TC⟩:∃sm,sm=((il D L).take k).sum:=⟨_,rfl⟩;rw[<-TB,<-TC]at ho;rw[<-TB]at Vx;rw[<-TC]at Uk;obtain⟨o1,o2,o3,o4,f1,f2,f3,f4⟩:=eE ho;obtain⟨r1,r2,r3,r4,g1,g2,g3,g4⟩:=eE hr;have HO:=Go.Lib.hid ho;have HR:=Go.Lib.hid hr;have HA:=Go.Lib.hid QY;have HD:=Go.Lib.hid Vw;have HM:=Go.Lib.hid TB;have HS:=Go.Lib.hid TC;clear ho hr QY Vw TB TC;obtain⟨m0,m5⟩:=Vx;obtain⟨s0,s5⟩:=Uk;have Xf:sm<=30:=by omega
  clear s5;by_cases J9:k<6
  ·have hx:=hL k J9;have Vy:=Ap hP.ok (L k) hx;have SB:wr.cell? ⟨pb,3+L k,none⟩=some (.int .i64 (D.counts.getD (L k) 0)):=((Aj hb).1 _ _ Ws).trans (FK hP _ hx);obtain⟨cv,Ul⟩:∃cv,cv=D.counts.getD (L k) 0:=⟨_,rfl⟩;rw[<-Ul]at SB Vy;obtain⟨c0,c5⟩:=Vy;have Wt:∀w,(Instr.index 204 (.agg #[.int .u8 (L 0),.int .u8 (L 1),.int .u8 (L 2),.int .u8 (L 3),.int .u8 (L 4),.int .u8 (L 5)]) (.int .i64 k)).run V.prog w=.ok (.int .u8 (L k)) w:=by
    intro w;have:k=0\/k=1\/k=2\/k=3\/k=4\/k=5:=by omega
    rcases this with rfl|rfl|rfl|rfl|rfl|rfl
    ·exact Da ..
    ·exact Db ..
    ·exact Dc ..
    ·exact Dd ..
    ·exact De ..
    ·exact Df ..
   have HC:=Go.Lib.hid Ul;clear Ul hP PY;by_cases SC:cv<0
   ·go_wp2;have hp:=kP (s:=dR []) HR.out;have hB:Below w.heap.size w (jg wr (w.heap.size+1) (dR [])):=kQ hb (Nat.le_succ _);obtain⟨q1,q2,q3,q4,_⟩:=eE hp;simp only[jg,dR]at q1 q2 q3 q4;have vP:eV D L ps=none:=by
     have Um:cv∈il D L:=by have h:=xY D L k J9;rw[<-HC.out]at h;exact h▸List.getElem_mem J9
     unfold eV;rw[if_pos (List.any_eq_true.2 ⟨cv,Um,by simpa using SC⟩)]
    refine bodyPost_ret (v:=(dR []).val) (by simp[results,Tryz.results229,go_sem,q1,q2,q3,q4,SV.val,dR]) rfl ?_;refine(show Hs D L ps j0 w (.returned (dR []).val) (jg wr (w.heap.size+1) (dR []))from⟨dR [],rfl,?_,?_,hB,?_⟩)
    ·rw[vP];rfl
    ·rw[vP];intro l m k h;cases h
    ·show w.drawn<=wr.drawn;rw[HD.out];exact Nat.le_refl _
   ·go_wp2;go_roundw;case rel=>
     have Un:(if mx<cv then cv else mx)=max mx cv:=by
      by_cases h:mx<cv
      ·rw[if_pos h];omega
      ·rw[if_neg h];omega
     have hp:((wr.setCell ⟨w.heap.size+1+1,1,none⟩ (.int .i64 (if mx<cv then cv else mx))).setCell ⟨w.heap.size+1+1,2,none⟩ (.int .i64 (sm+cv))).heap[w.heap.size+1+1]? =some (eI ⟨none,0,0,if mx<cv then cv else mx,sm+cv,true⟩):=by have:=HO.out;simp[World.setCell,Array.getElem?_modify,this,eI]
     have Vz:(il D L).take (k+1)=(il D L).take k++[cv]:=by have h:=xY D L k J9;rw[lM _ _ J9,h,HC.out]
     refine⟨k+1,by omega,by go_num,(hb.setCell (Nat.le_succ_of_le (Nat.le_succ _)) _).setCell (Nat.le_succ_of_le (Nat.le_succ _)) _,by simpa[World.setCell]using Vu,hp.trans ?_,?_,?_,HD.out⟩
     ·rw[Vz,List.foldl_append,List.sum_append,<-HM.out,<-HS.out,Un];simp
     ·rw[dG.Cr.eU _ _ _ _ (by simp),dG.Cr.eU _ _ _ _ (by simp)];exact HR.out
     ·rw[Vz,List.any_append,HA.out];simpa using SC
    case measure=>simp[intOf];omega
  ·obtain rfl:k=6:=by omega
   rcases PY with⟨rfl,rfl,rfl⟩|⟨PB,cs,rfl,Xg,Uo,Wu,hle,SD⟩
   ·go_wp2_with (go_at_call 128;refine(IJ _).mono ?_;rintro e w' ⟨rfl,rfl⟩);have h6:(il D L).take 6=il D L:=List.take_of_length_le (Nat.le_refl _);have TD:(w'.setCell ⟨w.heap.size+1+1,0,none⟩ (.slice none 0 0)).heap[w.heap.size+1]? =some (eI (dR [])):=(dG.Cr.eU _ _ _ _ (by simp)).trans HR.out;have hp:=kP (s:=⟨none,0,0,mx,sm,true⟩) TD;have hB:Below w.heap.size w (jg (w'.setCell ⟨w.heap.size+1+1,0,none⟩ (.slice none 0 0)) (w.heap.size+1) ⟨none,0,0,mx,sm,true⟩):=kQ (hb.setCell (Nat.le_succ_of_le (Nat.le_succ _)) _) (Nat.le_succ _);obtain⟨q1,q2,q3,q4,_⟩:=eE hp;simp only[jg]at q1 q2 q3 q4;have vP:eV D L []=some ([],mx,sm):=by
     have ha:=HA.out;have hm:=HM.out;have hs:=HS.out;rw[h6]at ha hm hs;unfold eV;rw[if_neg (by rw[ha];simp),<-hm,<-hs];rfl
    refine bodyPost_ret (v:=(SV.mk none 0 0 mx sm true).val) (by simp[results,Tryz.results229,go_sem,q1,q2,q3,q4,SV.val]) rfl ?_;refine(show Hs D L [] j0 w (.returned (SV.mk none 0 0 mx sm true).val) (jg (w'.setCell ⟨w.heap.size+1+1,0,none⟩ (.slice none 0 0)) (w.heap.size+1) ⟨none,0,0,mx,sm,true⟩)from⟨_,rfl,?_,?_,hB,?_⟩)
    ·rw[vP];exact⟨rfl,rfl,rfl,rfl,.inl ⟨rfl,rfl,rfl⟩⟩
    ·rw[vP];intro l m k h hl;cases h;exact absurd rfl hl
    ·show w.drawn<=w'.drawn;rw[HD.out];exact Nat.le_refl _
   ·have Oc:0<ps.length:=by
     cases ps with
     |nil=>have:=N7 rfl;cases this
     |cons=>simp
    obtain⟨l,hl⟩:∃l,l=ps.map Int.ofNat:=⟨_,rfl⟩;have Up:l.length=ps.length:=by rw[hl];simp
    have Wv:PB<w.heap.size:=dG.lt_of_heap Uo;have Uq:PB<wr.heap.size:=by omega
    have NJ:∀k (h:k<l.length),wr.cell? ⟨PB,k,none⟩=some (.int .i64 l[k]):=λk h=>by
     have h':k<ps.length:=by omega
     have e:wr.heap[PB]? =some (.cells cs 3):=(hb.block PB Wv).trans Uo;simp only[World.cell?,e];have:=SD k h';simp only[hl,List.getElem_map];exact this
    have HL:=Go.Lib.hid hl;have Ww:=Go.Lib.hid NJ;clear hl NJ SD Uo;have Aq:=FI PB pc l wr (by omega) (by omega) Uq Ww.out;have QZ:=Li wr l.length 0;obtain⟨cp,Ur⟩:∃cp,cp=vN wr l.length 0:=⟨_,rfl⟩;rw[<-Ur]at Aq QZ;rw[Up]at Aq QZ;have VA:=Go.Lib.hid Ur;have TE:=Go.Lib.hid Up;clear Ur Up;have VB:∀w',w'=((wr.alloc (.cells #[] 3)).alloc (.cells (gy l cp) 3)).drew->(w'.heap[w.heap.size+1+1]? =some (eI ⟨none,0,0,mx,sm,true⟩)/\w'.heap[w.heap.size+1]? =some (eI (dR []))/\
     Below w.heap.size w w'/\w'.heap[wr.heap.size+1]? =some (.cells (gy l cp) 3)/\w'.drawn=wr.drawn+1/\w'.tape=wr.tape):=by
     rintro w' rfl;refine⟨(alloc_old _ _ (by simp;omega)).trans ((alloc_old _ _ (by omega)).trans HO.out),(alloc_old _ _ (by simp;omega)).trans ((alloc_old _ _ (by omega)).trans HR.out),((hb.alloc (by omega) _).alloc (by simp;omega) _).drew,?_,rfl,rfl⟩;have:=fM (wr.alloc (.cells #[] 3)) (.cells (gy l cp) 3);rw[World.size_alloc]at this;exact this
    go_wp2_with (go_at_call 128;refine Aq.mono ?_;clear Aq;rintro e w' ⟨rfl,Tt⟩;obtain⟨Wx,TD,Tz,Us,Ut,Uu⟩:=VB w' Tt;clear VB Tt;obtain⟨TF,TG,Xh,Xi,Xj,Xk,Xl,Xm⟩:=eE Wx;obtain⟨Xn,Xo,Xp,Xq,Xr,Xs,Xt,Xu⟩:=eE TD);have TH:(w'.setCell ⟨w.heap.size+1+1,0,none⟩ (.slice (some ⟨wr.heap.size+1,0,none⟩) ps.length cp)).heap[w.heap.size+1]? =some (eI (dR [])):=(dG.Cr.eU _ _ _ _ (by simp)).trans TD;have hp:=kP (s:=⟨some ⟨wr.heap.size+1,0,none⟩,ps.length,cp,mx,sm,true⟩) TH;have hB:Below w.heap.size w (jg (w'.setCell ⟨w.heap.size+1+1,0,none⟩ (.slice (some ⟨wr.heap.size+1,0,none⟩) ps.length cp)) (w.heap.size+1) ⟨some ⟨wr.heap.size+1,0,none⟩,ps.length,cp,mx,sm,true⟩):=kQ (Tz.setCell (Nat.le_succ_of_le (Nat.le_succ _)) _) (Nat.le_succ _);have Wz:(jg (w'.setCell ⟨w.heap.size+1+1,0,none⟩ (.slice (some ⟨wr.heap.size+1,0,none⟩) ps.length cp)) (w.heap.size+1) ⟨some ⟨wr.heap.size+1,0,none⟩,ps.length,cp,mx,sm,true⟩).heap[wr.heap.size+1]? =some (.cells (gy l cp) 3):=
     (oZ _ _ _ (by omega)).trans ((dG.Cr.eU _ _ _ _ (by simp;omega)).trans Us)
    obtain⟨q1,q2,q3,q4,_⟩:=eE hp;simp only[jg]at q1 q2 q3 q4;have SF:l≠[]:=by intro h;have:=TE.out;rw[h]at this;simp at this;omega
    have vP:eV D L ps=some (l,mx,sm):=by have h6:(il D L).take 6=il D L:=List.take_of_length_le (Nat.le_refl _);have ha:=HA.out;have hm:=HM.out;have hs:=HS.out;rw[h6]at ha hm hs;unfold eV;rw[if_neg (by rw[ha];simp),<-hm,<-hs,HL.out]
    have Uv:cp<2^63:=by rw[VA.out];exact Lj wr _ _ (by rw[TE.out];exact ff)
    refine bodyPost_ret (v:=(SV.mk (some ⟨wr.heap.size+1,0,none⟩) ps.length cp mx sm true).val) (by simp[results,Tryz.results229,go_sem,q1,q2,q3,q4,SV.val]) rfl ?_;refine(show Hs D L ps j0 w (.returned (SV.mk (some ⟨wr.heap.size+1,0,none⟩) ps.length cp mx sm true).val) (jg (w'.setCell ⟨w.heap.size+1+1,0,none⟩ (.slice (some ⟨wr.heap.size+1,0,none⟩) ps.length cp)) (w.heap.size+1) ⟨some ⟨wr.heap.size+1,0,none⟩,ps.length,cp,mx,sm,true⟩)from⟨_,rfl,?_,?_,hB,?_⟩)
    ·rw[vP];exact⟨rfl,rfl,rfl,TE.out.symm,.inr ⟨SF,wr.heap.size+1,by omega,rfl,TE.out▸QZ,Uv,(0,0),λoff h=>absurd h.2 (Nat.not_lt_zero _),Wz⟩⟩
    ·rw[vP];intro l' m' k' h hl;cases h;refine⟨wr.drawn,by rw[HD.out];exact hj,?_⟩;show cp=_;have Uw:(jg (w'.setCell ⟨w.heap.size+1+1,0,none⟩ (.slice (some ⟨wr.heap.size+1,0,none⟩) ps.length cp)) (w.heap.size+1) ⟨some ⟨wr.heap.size+1,0,none⟩,ps.length,cp,mx,sm,true⟩).tape=wr.tape:=Uu;rw[Uw,VA.out];rfl
    ·show w.drawn<=w'.drawn;rw[Ut,HD.out];exact Nat.le_succ _
def o8(T:Nat)(w:dg)(e:Option Addr)(a:Nat)(b:List Nat):Prop:=(e=none/\b=[]/\a=0)\/∃c d,e=some ⟨c,0,none⟩/\T<c/\w.heap[c]? =some (.cells d 3)/\d.size=a/\b.length<=a/\a<2^63/\(∀k (h:k<b.length),d[k]? =some (.int .i64 b[k]))
def o8.SG(h:o8 m w a k l):Hq m w a k l:=by rcases h with h|⟨b,c,d,e,f,g,i,_,j⟩;exact .inl h;exact .inr ⟨b,c,d,e,f,g,i,j⟩
structure Bo(T:Nat)(w:dg)(ps:List Nat)(i:Nat)(pa:Option Addr)(pc:Nat)(v:di)(w':dg):Prop where
 val:∃Ox SH,v=.slice Ox (ps.length+1) SH/\o8 T w' Ox SH (ps++[i])/\(Ox=pa\/∃b,w.heap.size<=b/\Ox=some ⟨b,0,none⟩)
 os:w'.os=w.os
 tape:w'.tape=w.tape
 output:w'.output=w.output
 size:w.heap.size<=w'.heap.size
 block:∀b,b<w.heap.size->pa≠some ⟨b,0,none⟩->w'.heap[b]? =w.heap[b]?
 drawn:w.drawn<=w'.drawn
 old:o8 T w' pa pc ps
 stay:∀b,pa=some ⟨b,0,none⟩->w.cell? ⟨b,ps.length,none⟩=some (.int .i64 i)->w'.heap[b]? =w.heap[b]?
def V.Ln:V.prog.info? 3=some Tryz.t3:=by kernel_rfl
def Ht:Tryz.t3.zero=some (.int .i64 0):=by kernel_rfl
def rQ:Tryz.t3.size=1:=by kernel_rfl
def Dg(T:Nat)(w:dg)(a:List Nat)(i:Nat)(F:Option Addr)(q:Nat)(E:dn)(B:Nat)(K:o8 T w F q a)(I:T<w.heap.size)(L:w.cell? ⟨B,0,none⟩=some (.int .i64 i))(S:a.length<65536):∃v J,(Builtin.append_ #[27,27] E #[.slice F a.length q,.slice (some ⟨B,0,none⟩) 1 1]).run V.prog w=.ok v J/\Bo T w a i F q v J:=by
 have d:∀j v,[Value.int .i64 i][j]? =some v->w.cell? ((⟨B,0,none⟩:Addr).add j)=some v:=by
  intro j v h;cases j with
  |zero=>cases h;exact L
  |succ j=>simp at h
 rcases K with⟨rfl,rfl,rfl⟩|⟨g,o,rfl,r,c,s,C,t,f⟩;have A:=run_append_nil (P:=V.prog) w 27 E 3 _ _ V.vF V.Ln Ht ⟨B,0,none⟩ 1 1 [.int .i64 i] (by rw[rQ];rfl) d (by decide) (by decide) (by rw[tZ];decide);refine⟨_,_,A,⟨_,_,rfl,.inr ⟨w.heap.size,_,rfl,I,fM w.drew _,?_,grownCap_ge ..,?_,?_⟩,.inr ⟨_,dC _,rfl⟩⟩,rfl,rfl,rfl,?_,?_,?_,?_,?_⟩;have:=grownCap_ge w 1 0 3;simp[size_zeroCells,Value.cells];omega;have:=grownCap_le_maxLen w 1 0 3 (by decide);simp only[maxLen]at this;omega;intro k u;obtain rfl:k=0:=by simpa using u
 rw[wv (by simp)];rfl;rw[World.size_alloc];exact tM _;intro b p _;exact alloc_old w.drew _ p;exact tM _;exact .inl ⟨rfl,rfl,rfl⟩;intro b p;cases p;have D:=dG.lt_of_heap c;by_cases l:a.length+1<=q;have x:∀j,j<[Value.int .i64 i].length->w.heap[g]? =some (.cells o 3)/\j=0:=λj y=>⟨c,by simpa using y⟩
 have A:=run_append_room_cells (P:=V.prog) w 27 E 3 _ V.vF V.Ln g 0 a.length q ⟨B,0,none⟩ 1 1 [.int .i64 i] (by rw[rQ];rfl) d (by simp[Value.oneCell']) l
  (λj y=>by
   obtain⟨_,rfl⟩:=x j y;have:a.length<o.size:=by omega
   simp[World.cell?,c,rQ,this])
  (λj y=>by simp[World.frozen?,c])
 have M:w.setCells g (0+a.length*Tryz.t3.size) [.int .i64 i]=w.setCell ⟨g,a.length,none⟩ (.int .i64 i):=by rw[rQ];simp[World.setCells]
 rw[M]at A;refine⟨_,_,A,⟨_,_,rfl,.inr ⟨g,o.set! a.length (.int .i64 i),rfl,r,?_,?_,?_,t,?_⟩,.inl rfl⟩,rfl,rfl,rfl,?_,?_,dC _,?_,?_⟩;simp[World.setCell,nd,c];simpa using s;simpa using l;intro k u;have:a.length<o.size:=by omega
 by_cases h:k<a.length;have G:=f k h;have m:a.length≠k:=by omega
 simp only[Array.set!_eq_setIfInBounds];rw[eG m,G,oR h];obtain rfl:k=a.length:=by simp at u;omega
 simp[this];simp[World.setCell];intro b p m;exact dG.Cr.eU _ _ _ _ (by rintro rfl;exact m rfl);refine .inr ⟨g,o.set! a.length (.int .i64 i),rfl,r,?_,by simpa using s,C,t,λk u=>?_⟩;simp[World.setCell,nd,c];have m:a.length≠k:=by omega
 simp only[Array.set!_eq_setIfInBounds];rw[eG m];exact f k u;intro b p N;obtain rfl:g=b:=dQ Addr.block (dH p);have H:a.length<o.size:=by omega
 have O:o[a.length]? =some (.int .i64 i):=by simpa[World.cell?,c]using N
 have Q:o.setIfInBounds a.length (.int .i64 i)=o:=Kc λj=>by by_cases e:a.length=j;subst e;rw[kq H,O];rw[eG e]
 simp[World.setCell,nd,c,Q]
 have z:∀j v,(a.map λn=>Value.int .i64 (n:Nat))[j]? =some v->w.cell? ((⟨g,0,none⟩:Addr).add j)=some v:=by
  intro j v h;have y:j<a.length:=by have:=(je.1 h).1;simpa using this
  have G:=f j y;rw[sn,fI y]at h;rw[Addr.add_lit];simp only[World.cell?,c,dB];rw[G];exact h
 have A:=run_append_grow (P:=V.prog) w 27 E 3 _ _ V.vF V.Ln Ht ⟨g,0,none⟩ a.length q (a.map λn=>Value.int .i64 (n:Nat)) (by rw[rQ];simp) z ⟨B,0,none⟩ 1 1 [.int .i64 i] (by rw[rQ];rfl) d (by omega) (by omega) (growslice_fits (by omega) (by rw[tZ];omega));refine⟨_,_,A,⟨_,_,rfl,.inr ⟨w.heap.size,_,rfl,I,fM w.drew _,?_,?_,?_,?_⟩,.inr ⟨_,dC _,rfl⟩⟩,rfl,rfl,rfl,?_,?_,?_,?_,?_⟩;have:=grownCap_ge w (a.length+1) q 3;simp[size_zeroCells,Value.cells];omega;have:=grownCap_ge w (a.length+1) q 3;simpa using this;have:=grownCap_le_maxLen w (a.length+1) q 3 (by simp only[maxLen];omega);simp only[maxLen]at this;omega;intro k u;have R:k<a.length+1:=by simpa using u
 by_cases h:k<a.length;rw[wv (by simp;omega),wv (by simpa using h)];simp[h];obtain rfl:k=a.length:=by omega
 rw[wv (by simp),zF (by simp)];simp;rw[World.size_alloc];exact tM _;intro b p _;exact alloc_old w.drew _ p;exact tM _;exact .inr ⟨g,o,rfl,r,(alloc_old w.drew _ D).trans c,s,C,t,f⟩;intro b p _;obtain rfl:g=b:=dQ Addr.block (dH p);exact alloc_old w.drew _ D
structure dP(F:Nat->Prop)(w w':dg):Prop where
 os:w'.os=w.os
 tape:w'.tape=w.tape
 output:w'.output=w.output
 size:w.heap.size<=w'.heap.size
 drawn:w.drawn<=w'.drawn
 block:∀b,b<w.heap.size->¬F b->w'.heap[b]? =w.heap[b]?
def dP.refl(F:Nat->Prop)(w:dg):dP F w w:=⟨rfl,rfl,rfl,dC _,dC _,λ_ _ _=>rfl⟩
theorem dP.trans{F G H:Nat->Prop}(h:dP F w t)(k:dP G t e)(c:∀x,x<w.heap.size->F x->H x)(d:∀x,x<w.heap.size->G x->H x):dP H w e:=
 ⟨k.os.trans h.os,k.tape.trans h.tape,k.output.trans h.output,dS h.size k.size,dS h.drawn k.drawn,λx a b=>(k.block x (eh a h.size) λg=>b (d x a g)).trans (h.block x a λf=>b (c x a f))⟩
theorem dP.alloc(h:dP A w t)(o:Obj):dP A w (t.alloc o):=
 ⟨h.os,h.tape,h.output,by rw[World.size_alloc];exact G4 h.size,h.drawn,λx a b=>(alloc_old t o (eh a h.size)).trans (h.block x a b)⟩
theorem dP.setCell(h:dP A w t)(a:Addr)(v:di)(d:a.block<w.heap.size->A a.block):dP A w (t.setCell a v):=
 ⟨h.os,h.tape,h.output,by simpa[World.setCell]using h.size,h.drawn,λx b c=>(dG.Cr.eU _ _ _ _ (by rintro rfl;exact c (d b))).trans (h.block x b c)⟩
def Bo.keep(h:Bo m w l i a k x t):dP (λb=>a=some ⟨b,0,none⟩) w t:=
 ⟨h.os,h.tape,h.output,h.size,h.drawn,h.block⟩
def dP.cell(h:dP A w t){x o:Nat}(a:x<w.heap.size)(b:¬A x):t.cell? ⟨x,o,none⟩=w.cell? ⟨x,o,none⟩:=by simp only[World.cell?,h.block x a b]
def jq.len{d:Type}{E:dg->di->d->Prop}{l:List d}(h:jq A E z T w x l):∃a c,x=.slice a l.length c:=by rcases h with⟨rfl,rfl⟩|⟨b,c,f,g,i,e,j,k,m,n,o⟩;exact⟨_,_,rfl⟩;exact⟨_,_,e⟩
def jq.at_{a:Type}{E:dg->di->a->Prop}{l:List a}(h:jq A E z T w x l)(k:Nat)(d:k<l.length):∃b c u,x=.slice (some ⟨b,0,none⟩) l.length c/\A b/\w.cell? ⟨b,k,none⟩=some u/\E w u l[k]:=by rcases h with⟨rfl,rfl⟩|⟨b,c,n,o,e,f,g,p,q,i,r⟩;cases d;obtain⟨u,j,m⟩:=i k d;exact⟨b,c,u,f,e,by simp only[World.cell?,g];exact j,m⟩
def eW(a:Nat)(c:Option Addr)(d e:Nat)(L:Nat->Nat)(y:SV):Obj:=
 .cells #[.pointer (some ⟨a,0,none⟩),.slice c d e,.int .u8 (L 0),.int .u8 (L 1),.int .u8 (L 2),.int .u8 (L 3),.int .u8 (L 4),.int .u8 (L 5),.slice y.sa y.sl y.sc,.int .i64 y.m,.int .i64 y.k,.bool y.b] 245
def iI{L:Nat->Nat}{y:SV}(h:w.heap[m]? =some (eW k a i j L y)):w.cell? ⟨m,0,none⟩=some (.pointer (some ⟨k,0,none⟩))/\w.cell? ⟨m,1,none⟩=some (.slice a i j)/\(∀s,s<6->w.cell? ⟨m,2+s,none⟩=some (.int .u8 (L s)))/\wB w m 8 y/\∀o,w.frozen? ⟨m,o,none⟩=false:=by
 refine⟨by simp[World.cell?,h,eW],by simp[World.cell?,h,eW],?_,?_,λo=>by simp[World.frozen?,h,eW]⟩;intro s b;have:s=0\/s=1\/s=2\/s=3\/s=4\/s=5:=by omega
 rcases this with rfl|rfl|rfl|rfl|rfl|rfl<;>simp[World.cell?,h,eW];simp[wB,World.cell?,h,eW]
def FO(L:Nat->Nat)(s v:Nat):Nat->Nat:=λx=>if x=s then v else L x
def jZ(d:Nat)(l:List Nat)(L:Nat->Nat):Nat->Nat:=λs=>if s∈l then qi (L s) d else L s
def Oy:∀x,x<32->∀d,d<5->qi (qi x d) d=qi x d:=by decide+kernel
def Bp{L:Nat->Nat}(c:d<5)(a:∀s,s<6->L s<32):∀s,s<6->jZ d l L s<32:=by intro s b;unfold jZ;split;exact FJ _ (a s b) _ c;exact a s b
def Ar{L:Nat->Nat}(c:d<5)(e:∀s,s<6->L s<32)(k:Nat)(f:k<l.length)(g:l[k]<6):FO (jZ d (l.take k) L) l[k] (qi (jZ d (l.take k) L l[k]) d)=jZ d (l.take (k+1)) L:=by
 funext s;have a:∀s,s∈l.take (k+1)↔s∈l.take k\/s=l[k]:=λs=>by rw[lM _ _ f];exact List.mem_append.trans (or_congr nf iQ)
 unfold FO jZ;by_cases b:s=l[k];subst b;rw[dr rfl,dr ((a _).2 (.inr rfl))];split;exact Oy _ (e _ g) _ c;rfl;rw[dp b];by_cases h:s∈l.take k;rw[dr h,dr ((a _).2 (.inl h))];rw[dp h,dp λi=>((a _).1 i).elim h b]
structure Ext(w w':dg):Prop where
 os:w'.os=w.os
 tape:w'.tape=w.tape
 output:w'.output=w.output
 size:w.heap.size<=w'.heap.size
 drawn:w.drawn<=w'.drawn
 block:∀b,b<w.heap.size->w'.heap[b]? =w.heap[b]?
def Ext.refl(w:dg):Ext w w:=⟨rfl,rfl,rfl,dC _,dC _,λ_ _=>rfl⟩
theorem Ext.trans{a b c:dg}(h:Ext a b)(k:Ext b c):Ext a c:=
 ⟨k.os.trans h.os,k.tape.trans h.tape,k.output.trans h.output,dS h.size k.size,dS h.drawn k.drawn,λx d=>(k.block x (eh d h.size)).trans (h.block x d)⟩
theorem Ext.drew(w:dg):Ext w w.drew:=⟨rfl,rfl,rfl,dC _,tM _,λ_ _=>rfl⟩
theorem Ext.alloc(w:dg)(o:Obj):Ext w (w.alloc o):=⟨rfl,rfl,rfl,by rw[World.size_alloc];exact tM _,dC _,λx a=>alloc_old w o a⟩
def Ext.keep{w a:dg}(h:Ext w a)(F:Nat->Prop):dP F w a:=⟨h.os,h.tape,h.output,h.size,h.drawn,λb c _=>h.block b c⟩
def dP.ext{w a:dg}{F:Nat->Prop}(h:dP F w a)(d:∀b,b<w.heap.size->¬F b):Ext w a:=⟨h.os,h.tape,h.output,h.size,h.drawn,λb c=>h.block b c (d b c)⟩
def Ext.cell{w c:dg}(e:Ext w c){v:di}(d:w.cell? h=some v):c.cell? h=some v:=by
 have a:h.block<w.heap.size:=by refine xr λb=>?_;have:w.heap[h.block]? =none:=lY b;simp[World.cell?,this]at d
 exact(Go.Proofs.W.gX (e.block _ a)).trans d
def Ext.at_{w a:dg}(h:Ext w a){b:Nat}(c:w.heap[b]? =some O):a.heap[b]? =some O:=(h.block b (dG.lt_of_heap c)).trans c
def jS(a:Act)(j:Nat):a.eval (.tmp j)=(a.tmps[j]?).getD undef:=by show a.tmps.getD j undef=_;simp[xk]
def Dh(a:Act)(d j:Nat)(v:di)(h:d≠j):(a.put (some d) v).eval (.tmp j)=a.eval (.tmp j):=by rw[jS,jS];simp only[Act.put];rw[eG h]
def zM(a:Act)(d:Nat)(v:di)(h:d<a.tmps.size):(a.put (some d) v).eval (.tmp d)=v:=by rw[jS];simp only[Act.put];rw[kq h];rfl
def qU(a:Act)(d:Option Nat)(j:Nat)(v:di)(h:d≠some j):(a.put d v).eval (.tmp j)=a.eval (.tmp j):=by
 cases d with
 |none=>rfl
 |some d=>exact Dh a d j v (λe=>h (by rw[e]))
def uZ(a:Act)(d:Nat)(v:di)(h:d<a.tmps.size):(a.put (some d) v).eval (.tmp d)=v:=zM a d v h
def mL(a:Act)(d:Option Nat)(v:di):(a.put d v).tmps.size=a.tmps.size:=by cases d<;>simp[Act.put]
def uf(a:Act)(d:Option Nat)(v:di):(a.put d v).defers=a.defers:=by cases d<;>rfl
def waits(ops:Array Oper)(k j:Nat):Bool:=match ops[k]? with
 |some o=>o.after.any λe=>e.on==j&&Region.binds .any e
 |none=>false
def wrote(ops:Array Oper)(j:Nat):Bool:=ops.any λo=>o.dst==some j
structure gq(E:dg->dg->Prop):Prop where
 refl:∀w,E w w
 trans:∀a b c,E a b->E b c->E a c
 drew:∀w,E w w.drew
def dO:gq Ext:=⟨Ext.refl,λ_ _ _=>Ext.trans,Ext.drew⟩
def im(F:Nat->Prop):gq (dP F):=⟨dP.refl F,λ_ _ _ h k=>h.trans k (λ_ _ h=>h) λ_ _ h=>h,λw=>(Ext.drew w).keep F⟩
section
variable{P:dq}{ops:Array Oper}{Q:Exit->Act->dg->Prop}{a0:Act}{w0:dg}{N m:Nat}{wC:Nat->di->dg->Prop}{E:dg->dg->Prop}
def jT(L:Array Bool)(i j:Nat)(h:i<L.size):(L.setIfInBounds i true).getD j false=if i=j then true else L.getD j false:=by by_cases e:i=j;subst e;simp[h];simp[xk,eG e,e]
def xZ{i:Nat}{o:Oper}{a:Act}{w:dg}{K:Act->dg->Prop}(f:ej)(b:Array di)(g:ops[i]? =some o)(j:o.guard=none)(k:(execOp a.eval o).run P w=.ok (.enter f b) w)
 (l:Calls P f b w λe d=>(∃v,e=.returned v/\K (a.put o.dst v) d)\/∃c,e=.panicked c/\Q (.panic c) a d):wpOp P ops Q i K a w:=by
 have m:Region.wanted o (yielded ops a.tmps)=true:=by simp[Region.wanted,j]
 unfold wpOp;rw[g];simp only[m,ei];refine .inl ?_;unfold Oper.wp;rw[k];refine l.mono ?_;rintro e d (⟨v,rfl,h⟩|⟨c,rfl,h⟩);exact h;exact h
end
def Oz(E:dg->dg->Prop)(p:di->dg->Prop):Prop:=∀v w a,p v w->E w a->p v a
def infoAt(ops:Array Oper)(i:Nat):Option (Op×Option (Nat×Bool)):=(ops[i]?).map λo=>(o.op,o.guard)
def IL{ops:Array Oper}{i:Nat}{o:Oper}{a:Op}{g:Option (Nat×Bool)}(b:ops[i]? =some o)(h:infoAt ops i=some (a,g)):o.op=a/\o.guard=g:=by unfold infoAt at h;rw[b]at h;simp only[kG,gx,Prod.mk.injEq]at h;exact h
def x6{ops:Array Oper}{i:Nat}{o:Oper}{d:Option Tmp}(a:ops[i]? =some o)(h:((ops[i]?).map (·.dst))=some d):o.dst=d:=by rw[a]at h;simpa using h
def u4{ops:Array Oper}{n:Nat}(i:Nat)(h:ops.size=n)(a:i<n):∃o,ops[i]? =some o:=⟨_,jp (by omega)⟩
def boxed(n:Nat)(b:Array di)(t:dn):di->dg->Prop:=λv w=>∃a,v=.pointer (some ⟨a,0,none⟩)/\n<=a/\w.heap[a]? =some (.cells b t)
def FP(n:Nat)(a:Array di)(t:dn):Oz Ext (boxed n a t):=λ_ _ _ ⟨b,c,d,e⟩ f=>⟨b,c,d,f.at_ e⟩
def dP.fh{F:Nat->Prop}{w c:dg}(e:dP F w c){v:di}(d:w.cell? h=some v)(f:¬F h.block):c.cell? h=some v:=by
 have a:h.block<w.heap.size:=by refine xr λb=>?_;have:w.heap[h.block]? =none:=lY b;simp[World.cell?,this]at d
 exact(Go.Proofs.W.gX (e.block _ a f)).trans d
def dP.fU{F:Nat->Prop}{w a:dg}(h:dP F w a){b:Nat}(c:w.heap[b]? =some O)(d:¬F b):a.heap[b]? =some O:=(h.block b (dG.lt_of_heap c) d).trans c
end Go.Proofs.W
variable{K:ej}
namespace Go.Proofs.W
open Go.RowKit
section
variable{P:dq}{Q:Exit->Act->dg->Prop}{a:Act}{w:dg}
def Di{p:Nat->Prop}(h:∃k,p k):∃k,p k/\∀j,p j->k<=j:=by
 obtain⟨k,d⟩:=h;induction k using Nat.strongRecOn with
 |_ k e=>
  by_cases c:∃j,p j/\j<k;obtain⟨j,b,a⟩:=c;exact e j a b;exact⟨k,d,λj b=>Nat.le_of_not_lt λa=>c ⟨j,b,a⟩⟩
def mM{c:Code}(I:Nat->Act->dg->Prop)(n:Nat)(o:I n a w)
 (b:∀k a w,I k a w->c.wp P (Exit.then (λl m=>∃f,f<k/\I f l m) Q) a w):(Code.loop c).wp P Q a w:=by
 let g:Act->dg->Nat:=λa w=>by classical exact if h:∃k,I k a w then Classical.choose (Di h)else 0
 have i:∀a w,(∃k,I k a w)->I (g a w) a w/\∀j,I j a w->g a w<=j:=by intro a w h;have:=iT (Di h);simp only[g,h,dif_pos];exact this
 refine wp_loop (λa w=>∃k,I k a w) g ⟨n,o⟩ λa w p=>?_;obtain⟨q,s⟩:=i a w p;refine kH (b (g a w) a w q) λe l m h=>?_;cases e with
 |normal=>
  obtain⟨f,r,d⟩:=h;exact⟨⟨f,d⟩,Nat.lt_of_le_of_lt ((i l m ⟨f,d⟩).2 f d) r⟩
 |_=>exact h
end
noncomputable def As(a:Array di)(n:Nat):Act:=⟨a++Array.replicate (n-a.size) undef,[]⟩
def sY(a:Array di)(n:Nat)(h:a.size<=n):(As a n).tmps.size=n:=by simp[As];omega
def yd(a:Array di)(n i:Nat)(v:di)(h:a[i]? =some v):(As a n).eval (.tmp i)=v:=by have b:i<a.size:=(fF.1 h).1;rw[jS];show((a++Array.replicate (n-a.size) undef)[i]?).getD undef=v;rw[wv b,h];rfl
def Lo{P:dq}{b:Func}{c:Code}{w:dg}{R:Ending->dg->Prop}(n:Nat) (e:P.funcs[K]? =some b)(f:b.body=some c)(g:b.ntmps=n)(h:∀a:Act,a.tmps.size=n->a.defers=[]->(∀i v,W[i]? =some v->a.eval (.tmp i)=v)->c.wp P (bodyPost P b R) a w)(d:W.size<=n):Calls P K W w R:=by refine calls_of_wp e f ?_;rw[g];exact h (As W n) (sY _ _ d) rfl λi v j=>yd _ _ _ _ j
def wD{P:dq}{b:Func}{c:Code}{w:dg}{R:Ending->dg->Prop}(n:Nat) (e:P.funcs[K]? =some b)(f:b.body=some c)(g:b.ntmps=n)(h:∀a:Act,a.tmps.size=n->a.defers=[]->(∀i v,W[i]? =some v->a.eval (.tmp i)=v)->c.wp P (bodyPostD P b R) a w)(d:W.size<=n):Calls P K W w R:=by refine calls_of_wp_defers e f ?_;rw[g];exact h (As W n) (sY _ _ d) rfl λi v j=>yd _ _ _ _ j
def l7(b x:Sp):Sp:=if lV x b then x else b
def kY(l c:List Int)(m k a b:Int):lV (some (l,m,k)) (some (c,a,b))=decide (m<a\/m=a/\k<b):=by simp only[lV];by_cases h:m=a;subst h;simp;simp[h]
def nD(x:Sp):l7 none x=x:=by cases x<;>simp[l7,lV]
def Dj(a b c:Sp):l7 (l7 a b) c=l7 a (l7 b c):=by
 rcases a with _|⟨l,m,k⟩;simp only[nD];rcases b with _|⟨o,f,i⟩;have:l7 (some (l,m,k)) none=some (l,m,k):=rfl;rw[this,nD];rcases c with _|⟨n,d,e⟩;rfl;simp only[l7,kY,jC];by_cases h:f<m\/f=m/\i<k;by_cases g:d<f\/d=f/\e<i;have j:d<m\/d=m/\e<k:=by omega
 simp[h,g,j,kY];simp[h,g,kY];by_cases g:d<f\/d=f/\e<i;simp[h,g,kY];have j:¬(d<m\/d=m/\e<k):=by omega
 simp[h,g,j,kY]
def IM(l:List Sp):oD l=l.foldl l7 none:=by
 cases l with
 |nil=>rfl
 |cons x a=>
  rw[pZ,nD];rfl
theorem sZ{c:Type}(f:Sp->c->Sp)(a:∀b i,f b i=l7 b (f none i)):∀(l:List c) (b:Sp),l.foldl f b=l7 b (l.foldl f none)
 |[],b=>by cases b<;>rfl
 |i::l,b=>by rw[pZ,pZ,sZ f a l (f b i),sZ f a l (f none i),a b i,Dj]
def fQ(D:eN)(k:Nat):Nat:=D.opn.getD k 0
def eo(D:eN)(k:Nat):List (List Nat):=D.lists.getD k []
def eO(D:eN):Nat->List Nat->(Nat->Nat)->Sp->Sp
 |0,c,L,a=>l7 a (eV D L c)
 |n+1,c,L,a=>(List.range (eo D c.length).length).foldl (λb i=>eO D n (c++[i]) (jZ (fQ D c.length) ((eo D c.length).getD i []) L) b) a
theorem sx(D:eN):∀(n:Nat) (a:List Nat) (L:Nat->Nat) (b:Sp),eO D n a L b=l7 b (eO D n a L none)
 |0,a,L,b=>by simp only[eO,nD]
 |n+1,a,L,b=>by simp only[eO];exact sZ (λb i=>eO D n (a++[i]) (jZ (fQ D a.length) ((eo D a.length).getD i []) L) b) (λb i=>sx D n _ _ b) _ b
def L0:Nat->Nat:=λ_=>0
def ie(D:eN):Sp:=eO D D.opn.length [] L0 none
def Dk(D:eN)(i:Nat):Sp:=eO D (D.opn.length-1) [i] (jZ (fQ D 0) ((eo D 0).getD i []) L0) none
def FQ(D:eN)(h:0<D.opn.length):ie D=oD ((List.range (eo D 0).length).map (Dk D)):=by rw[IM,List.foldl_map];unfold ie;obtain⟨m,a⟩:∃m,D.opn.length=m+1:=⟨D.opn.length-1,by omega⟩;rw[a];simp only[eO,gl];congr 1;funext b i;rw[sx];simp only[Dk,a,Nat.add_sub_cancel,so]
def nE(d:Nat)(l:List Nat)(L:Nat->Nat):Nat->Nat:=λs=>if s∈l then qT (L s) d else L s
def IN:∀x,x<32->∀d,d<5->qT (qT x d) d=qT x d:=by decide+kernel
def Lp:∀x,x<32->∀d,d<5->qT x d=x->qT (qi x d) d=x:=by decide+kernel
def Dl:∀x,x<32->∀d,d<5->∀a,a<5->d≠a->qT x a=x->qT (qi x d) a=qi x d:=by decide+kernel
def Dm{L:Nat->Nat}(c:d<5)(a:∀s,s<6->L s<32):∀s,s<6->nE d l L s<32:=by intro s b;unfold nE;split;exact Ow _ (a s b) _ c;exact a s b
def FR{L:Nat->Nat}(c:d<5)(e:∀s,s<6->L s<32)(k:Nat)(f:k<l.length)(g:l[k]<6):FO (nE d (l.take k) L) l[k] (qT (nE d (l.take k) L l[k]) d)=nE d (l.take (k+1)) L:=by
 funext s;have a:∀s,s∈l.take (k+1)↔s∈l.take k\/s=l[k]:=λs=>by rw[lM _ _ f];exact List.mem_append.trans (or_congr nf iQ)
 unfold FO nE;by_cases b:s=l[k];subst b;rw[dr rfl,dr ((a _).2 (.inr rfl))];split;exact IN _ (e _ g) _ c;rfl;rw[dp b];by_cases h:s∈l.take k;rw[dr h,dr ((a _).2 (.inl h))];rw[dp h,dp λi=>((a _).1 i).elim h b]
def Dn{L:Nat->Nat}(b:d<5)(c:∀s,s<6->L s<32)(e:∀s,s<6->qT (L s) d=L s):∀s,s<6->nE d l (jZ d l L) s=L s:=by intro s a;unfold nE jZ;split;exact Lp _ (c s a) _ b (e s a);rfl
structure wU(N:Nat->Prop)(pb T:Nat)(D:eN)(w:dg)(ps:List Nat)(pa:Option Addr)(pc:Nat)(L:Nat->Nat)(y:SV):Prop where
 plan:fH N pb D w
 sep:∀b,N b->b<w.heap.size/\b≠T/\pa≠some ⟨b,0,none⟩
 at_:w.heap[T]? =some (eW pb pa ps.length pc L y)
 own:o8 T w pa pc ps
 lt:∀s,s<6->L s<32
 free:∀s,s<6->∀j,ps.length<=j->j<D.opn.length->qT (L s) (fQ D j)=L s
 len:ps.length<=D.opn.length
 bare:D.opn.length=0->pa=none
structure iD(N:Nat->Prop)(pb T:Nat)(D:eN)(m0 j0:Nat)(w:dg)(ps:List Nat)(pa:Option Addr)(pc:Nat)(L:Nat->Nat)(y:SV)(s:Sp):Prop where
 t:wU N pb T D w ps pa pc L y
 sched:dW (λb=>m0<=b/\b≠T/\pa≠some ⟨b,0,none⟩) w s y
 cap:vO j0 w s y
 size:m0<=w.heap.size
 drawn:j0<=w.drawn
def Do(N:Nat->Prop)(h T:Nat)(D:eN)(i j:Nat)(w:dg)(k:List Nat)(d:Option Addr)(L:Nat->Nat)(s:Sp)(e:Ending)(f:dg):Prop:=
 e=.returned undef/\∃a c g l,iD N h T D i j f k a c g l s/\(∀s,s<6->g s=L s)/\dP (λb=>b=T\/d=some ⟨b,0,none⟩) w f/\(a=d\/∃b,w.heap.size<=b/\a=some ⟨b,0,none⟩)
def OA:SV:=⟨none,0,0,0,0,false⟩
def Dp:Prop:=∀(N:Nat->Prop) (b T:Nat) (D:eN) (c d:Nat) (w:dg) (a:List Nat) (e:Option Addr) (f:Nat) (L:Nat->Nat) (y:SV) (s:Sp) (i:Nat),iD N b T D c d w a e f L y s->a.length<D.opn.length->i<(eo D a.length).length->Calls V.prog 190 #[.pointer (some ⟨T,0,none⟩),.int .i64 i] w (Do N b T D c d w a e L (eO D (D.opn.length-a.length-1) (a++[i]) (jZ (fQ D a.length) ((eo D a.length).getD i []) L) s))
def Lq:Prop:=∀(N:Nat->Prop) (b T:Nat) (D:eN) (c d:Nat) (w:dg) (a:List Nat) (e:Option Addr) (f:Nat) (L:Nat->Nat) (y:SV) (s:Sp),iD N b T D c d w a e f L y s->Calls V.prog 216 #[.pointer (some ⟨T,0,none⟩)] w (Do N b T D c d w a e L (eO D (D.opn.length-a.length) a L s))
def te{a:Addr}(h:w.cell? a=some x):a.block<w.heap.size:=by refine xr λb=>?_;have:w.heap[a.block]? =none:=lY b;simp[World.cell?,this]at h
structure OB(T:Nat)(ps:List Nat)(i:Nat)(pa:Option Addr)(pc:Nat)(w w':dg):Prop where
 keep:dP (λb=>pa=some ⟨b,0,none⟩) w w'
 own:o8 T w pa pc ps->o8 T w' pa pc ps
 stay:∀b,pa=some ⟨b,0,none⟩->w.cell? ⟨b,ps.length,none⟩=some (.int .i64 i)->w'.heap[b]? =w.heap[b]?
section
variable{T:Nat}{ps:List Nat}{i:Nat}{pa:Option Addr}{pc:Nat}
def o8.ext(h:o8 T w pa pc ps)(e:∀b,b<w.heap.size->pa=some ⟨b,0,none⟩->t.heap[b]? =w.heap[b]?):o8 T t pa pc ps:=by rcases h with h|⟨a,f,c,g,d,i⟩;exact .inl h;exact .inr ⟨a,f,c,g,(e a (dG.lt_of_heap d) c).trans d,i⟩
def ye(h:Ext w t):OB T ps i pa pc w t:=⟨h.keep _,λa=>a.ext λb c _=>h.block b c,λb _ d=>h.block b (te d)⟩
def OC:gq (OB T ps i pa pc):=by refine⟨λw=>ye (Ext.refl w),λa b c h k=>⟨h.keep.trans k.keep (λ_ _ h=>h) (λ_ _ h=>h),λg=>k.own (h.own g),λx d e=>?_⟩,λw=>ye (Ext.drew w)⟩;have f:=h.stay x d e;exact(k.stay x d ((Go.Proofs.W.gX (ad:=⟨x,ps.length,none⟩) f).trans e)).trans f
def picked(i:Nat)(w:dg)(v:di)(a:dg):Prop:=∃B,v=.slice (some ⟨B,0,none⟩) 1 1/\w.heap.size<=B/\a.heap[B]? =some (.cells #[.int .i64 i] 3)
def Dq(a:∀b,pa=some ⟨b,0,none⟩->b<w.heap.size):Oz (OB T ps i pa pc) (picked i w):=λv h j ⟨B,c,d,e⟩ f=>
 ⟨B,c,d,f.keep.fU e λg=>by have:=a B g;omega⟩
def yf(T:Nat)(ps:List Nat)(i:Nat)(pa:Option Addr)(w:dg)(v:di)(d:dg):Prop:=
 ∃a c,v=.slice a (ps.length+1) c/\o8 T d a c (ps++[i])/\(a=pa\/∃b,w.heap.size<=b/\a=some ⟨b,0,none⟩)
def zN(a:∀b,pa=some ⟨b,0,none⟩->b<w.heap.size):Oz (OB T ps i pa pc) (yf T ps i pa w):=by rintro v t u ⟨c,d,m,e,j⟩ k;refine⟨c,d,m,?_,j⟩;rcases e with⟨_,e,_⟩|⟨f,n,g,o,h,p,q,r,l⟩;simp at e;refine .inr ⟨f,n,g,o,?_,p,q,r,l⟩;rcases j with rfl|⟨b,x,rfl⟩;refine(k.stay f g ?_).trans h;have:=l ps.length (by simp);simp only[World.cell?,h];rw[this];simp;obtain rfl:b=f:=dQ Addr.block (dH g);exact k.keep.fU h λs=>by have:=a b s;omega
end
def dW.grow{w w1:dg}{s:Sp}{y:SV}(q:∀b g a,A b->w.heap[b]? =some (.cells g 3 a)->w1.heap[b]? =some (.cells g 3 a))(h:dW A w s y):dW A w1 s y:=by
 cases s with
 |none=>exact h
 |some s=>
  obtain⟨l,m,k⟩:=s;obtain⟨i,j,n,o,c|⟨c,d,p,r,t,u,a,e,f⟩⟩:=h;exact⟨i,j,n,o,.inl c⟩;exact⟨i,j,n,o,.inr ⟨c,d,p,r,t,u,a,e,q _ _ _ p f⟩⟩
def dW.imp{o o':Nat->Prop}{s:Sp}{y:SV}(p:∀b q c,o b->w.heap[b]? =some (.cells q 3 c)->o' b)(h:dW o w s y):dW o' w s y:=by
 cases s with
 |none=>exact h
 |some s=>
  obtain⟨l,m,k⟩:=s;obtain⟨g,i,j,n,d|⟨d,e,r,t,u,v,c,f,a⟩⟩:=h;exact⟨g,i,j,n,.inl d⟩;exact⟨g,i,j,n,.inr ⟨d,e,p _ _ _ r a,t,u,v,c,f,a⟩⟩
def dW.move{o o':Nat->Prop}{w w1:dg}{s:Sp}{y:SV}(i:∀b a c,o b->w.heap[b]? =some (.cells a 3 c)->o' b/\w1.heap[b]? =some (.cells a 3 c))(h:dW o w s y):dW o' w1 s y:=
 ((h.imp (o':=λb=>∃a c,o b/\w.heap[b]? =some (.cells a 3 c)) λb a c d e=>⟨a,c,d,e⟩).grow (w1:=w1) λb a c ⟨_,_,d,_⟩ e=>(i b a c d e).2).imp λb a c ⟨f,g,d,e⟩ _=>(i b f g d e).1
def dW.ext{s:Sp}{y:SV}(a:Ext w t)(h:dW A w s y):dW A t s y:=h.grow λ_ _ _ _ h=>a.at_ h
theorem vO.tape{s:Sp}{y:SV}(a:t.tape=w.tape)(h:vO m w s y):vO m t s y:=λl b k c d=>by obtain⟨j,f,e⟩:=h l b k c d;exact⟨j,f,by rw[a];exact e⟩
def Bq(D:eN)(L:Nat->Nat)(a:List Nat)(d:Nat)(w:dg)(v:di)(c:dg):Prop:=∃y:SV,v=y.val/\dW (λb=>w.heap.size<=b) c (eV D L a) y/\vO d c (eV D L a) y
def Ds{D:eN}{L:Nat->Nat}:Oz Ext (Bq D L l m w):=λ_ _ _ ⟨y,b,c,d⟩ a=>⟨y,b,c.ext a,d.tape a.tape⟩
end Go.Proofs.W
variable{M Y:List di}
namespace Go.Proofs.W
open Go.RowKit
theorem qV:∀(a:List di) (w:dg) (b o:Nat) (e:Array di) (t:dn) (g:Nat×Nat),w.heap[b]? =some (.cells e t g)->o+a.length<=e.size->(w.setCells b o a).os=w.os/\(w.setCells b o a).tape=w.tape/\(w.setCells b o a).output=w.output/\(w.setCells b o a).drawn=w.drawn/\(w.setCells b o a).heap.size=w.heap.size/\(∀c,c≠b->(w.setCells b o a).heap[c]? =w.heap[c]?)/\∃d,(w.setCells b o a).heap[b]? =some (.cells d t g)/\d.size=e.size/\(∀j,j<o->d[j]? =e[j]?)/\(∀j,j<a.length->d[o+j]? =a[j]?)/\∀j,o+a.length<=j->d[j]? =e[j]?
 |[],w,b,o,e,t,g,h,n=>⟨rfl,rfl,rfl,rfl,rfl,λ_ _=>rfl,e,h,rfl,λ_ _=>rfl,λj f=>by simp at f,λ_ _=>rfl⟩
 |v::a,w,b,o,e,t,g,h,n=>by
  have i:o+1+a.length<=e.size:=by simp at n;omega
  have r:(w.setCell ⟨b,o,none⟩ v).heap[b]? =some (.cells (e.setIfInBounds o v) t g):=by simp[World.setCell,nd,h]
  obtain⟨s,u,x,y,z,A,d,B,C,p,k,l⟩:=qV a (w.setCell ⟨b,o,none⟩ v) b (o+1) (e.setIfInBounds o v) t g r (by simpa using i);have m:o<e.size:=by omega
  refine⟨s,u,x,y,by rw[show(w.setCells b o (v::a))=(w.setCell ⟨b,o,none⟩ v).setCells b (o+1) a from rfl,z];simp[World.setCell],λc q=>?_,d,B,by simpa using C,λj f=>?_,λj f=>?_,λj f=>?_⟩;exact(A c q).trans (dG.Cr.eU _ _ _ _ q);rw[p j (by omega),eG (by omega)];cases j with
  |zero=>rw[p (o+0) (by omega)];simp[m]
  |succ j=>
   have:=k j (by simp at f;omega);rw[show o+(j+1)=o+1+j by omega,this];simp
  rw[l j (by simp at f;omega),eG (by simp at f;omega)]
def dM(g:Nat)(t:dn)(e:List di)(w:dg)(v:di)(a:Nat)(f:List di):Prop:=
 f.length=a*e.length/\((a=0/\v=.slice none 0 0)\/∃b c d,g<=b/\v=.slice (some ⟨b,0,none⟩) a c/\w.heap[b]? =some (.cells d t)/\d.size=c*e.length/\a<=c/\c<2^63/\(∀j,j<f.length->d[j]? =f[j]?)/\∀j,f.length<=j->j<d.size->d[j]? =e[j%e.length]?)
def dw(v:di)(b:Nat):Prop:=∃l c,v=.slice (some ⟨b,0,none⟩) l c
def dM.keep(h:dM m T M w x k Y)(e:dP A w t)(f:∀b,dw x b->¬A b):dM m T M t x k Y:=by obtain⟨a,h|⟨b,c,g,i,d,j,l⟩⟩:=h;exact⟨a,.inl h⟩;exact⟨a,.inr ⟨b,c,g,i,d,e.fU j (f b ⟨_,_,d⟩),l⟩⟩
def dM.ext(h:dM m T M w x k Y)(a:Ext w t):dM m T M t x k Y:=h.keep (a.keep λ_=>False) λ_ _ h=>h
def dM.nil(a:Nat)(t:dn)(b:List di)(w:dg):dM a t b w (.slice none 0 0) 0 []:=⟨by simp,.inl ⟨rfl,rfl⟩⟩
def dM.blk(h:dM m T M w x k Y)(a:dw x i):m<=i/\i<w.heap.size:=by obtain⟨l,j,e⟩:=a;obtain⟨n,⟨_,h⟩|⟨b,c,o,d,f,g,p⟩⟩:=h;rw[h]at e;cases e;rw[f]at e;injection e with e;obtain rfl:b=i:=dQ Addr.block (dH e);exact⟨d,dG.lt_of_heap g⟩
theorem dM.len(h:dM m T M w x k Y):∃a c,x=.slice a k c/\k<=c/\c<2^63:=by obtain⟨g,⟨b,h⟩|⟨i,c,j,b,d,l,n,e,f,_⟩⟩:=h;exact⟨none,0,by rw[h,b],by omega,by omega⟩;exact⟨_,c,d,e,f⟩
def dM.cell(h:dM m T M w x k Y)(l:0<k):∃b c,x=.slice (some ⟨b,0,none⟩) k c/\m<=b/\∀j u,Y[j]? =some u->w.cell? ⟨b,j,none⟩=some u:=by obtain⟨n,⟨a,h⟩|⟨e,c,o,a,f,g,p,q,r,i,s⟩⟩:=h;omega;refine⟨e,c,f,a,λj u d=>?_⟩;simp only[World.cell?,g];rw[i j (je.1 d).1,d];rfl
def sB(z:Array di)(n j:Nat)(b:0<z.size)(c:j<n*z.size):(Builtin.zeroCells z n)[j]? =z[j%z.size]? :=by have a:j%z.size<z.size:=Nat.mod_lt _ b;simp[Builtin.zeroCells,c,a]
def FT{F ty e:dn}{i:TypeInfo}(O:P.underlying F=some (.slice e))(Q:P.info? e=some i)(hz:i.zero=some z)(B:z.cells=M.toArray)(v:i.size=M.length)(H:i.bytes<=256)(aa:0<M.length) (ab:dM m e M w x k Y)(I:m<=w.heap.size){f c:Nat}{a:List di}(q:a.length=f*M.length)(hm:0<f)(o:∀j u,a[j]? =some u->w.cell? (h.add j)=some u)(h1:∀u∈a,u.oneCell'=true)(J:k+f<=1000000):∃R S,(Builtin.append_ #[F,F] ty #[x,.slice (some h) f c]).run P w=.ok R S/\dM m e M S R (k+f) (Y++a)/\dP (dw x) w S/\∀b,dw R b->dw x b\/w.heap.size<=b:=by
 have g:z.cells.size=M.length:=by rw[B];simp
 have C:a.length=f*i.size:=by rw[v];exact q
 obtain⟨r,⟨rfl,rfl⟩|⟨b,y,T,g1,rfl,N,g4,g5,g6,g7,g8⟩⟩:=ab;obtain rfl:Y=[]:=by simpa using r
 have G:=run_append_nil (P:=P) w F ty e i z O Q hz h f c a C o hm (by omega) (dS (Nat.mul_le_mul (show f<=1000000 by omega) H) (by decide));have K:=grownCap_ge w f 0 e;refine⟨_,_,G,⟨by simp[q],.inr ⟨w.heap.size,grownCap w f 0 e,a.toArray++Builtin.zeroCells z.cells (grownCap w f 0 e-f),I,by simp,fM w.drew _,?_,by omega,?_,?_,?_⟩⟩,?_,?_⟩;simp only[zY,ia,size_zeroCells,g,q,<-Nat.add_mul];congr 1;omega;have:=grownCap_le_maxLen w f 0 e (by simp only[maxLen];omega);simp only[maxLen]at this;omega;intro j n;rw[wv (by simpa using n)];simp;intro j n A;simp only[so]at n;rw[zF (by simpa using n)];simp only[zY,ia,size_zeroCells,g]at A;simp only[ia];rw[sB _ _ _ (by omega) (by rw[g];omega),g,B,q];have s:(j-f*M.length)%M.length=j%M.length:=by obtain⟨d,rfl⟩:∃d,j=f*M.length+d:=⟨j-f*M.length,by omega⟩;rw[Nat.add_sub_cancel_left,Nat.add_comm,Nat.add_mul_mod_self_right]
 rw[s];simp;exact((Ext.drew w).trans (Ext.alloc _ _)).keep _;rintro b ⟨l,c',t⟩;injection t with t;have:w.heap.size=b:=dQ Addr.block (dH t);exact .inr (by omega);by_cases p:k+f<=y;have U:Y.length+a.length<=T.size:=by rw[r,q,g4,<-Nat.add_mul];exact qy _ p
 have G:=run_append_room_cells (P:=P) w F ty e i O Q b 0 k y h f c a C o h1 p
  (λj n=>by
   have:Y.length+j<T.size:=by omega
   rw[v,dB,<-r];simp[World.cell?,N,this])
  (λj n=>by simp[World.frozen?,N])
 rw[v,dB,<-r]at G;obtain⟨e1,e2,e3,e4,e5,e6,V,e7,e8,e9,W,X⟩:=qV a w b Y.length T e (0,0) N U;refine⟨_,_,G,⟨by rw[kN,r,q,Nat.add_mul],.inr ⟨b,y,V,g1,rfl,e7,by rw[e8,g4],p,g6,?_,?_⟩⟩,⟨e1,e2,e3,by rw[e5];exact dC _,by rw[e4];exact dC _,λL _ Z=>e6 L λe=>Z ⟨k,y,by rw[e]⟩⟩,λL Z=>.inl ?_⟩;intro j n;by_cases D:j<Y.length;rw[e9 j D,g7 j D,oQ D];obtain⟨d,rfl⟩:∃d,j=Y.length+d:=⟨j-Y.length,by omega⟩;rw[W d (by simp at n;omega),qa (by omega)];simp;intro j n A;rw[kN]at n;rw[X j n];exact g8 j (by omega) (by omega);obtain⟨l,c',t⟩:=Z;injection t with t;obtain rfl:b=L:=dQ Addr.block (dH t);exact⟨k,y,rfl⟩;have E:∀j u,Y[j]? =some u->w.cell? ((⟨b,0,none⟩:Addr).add j)=some u:=by intro j u hu;rw[Addr.add_lit];simp only[World.cell?,N,dB];rw[g7 j (je.1 hu).1,hu];rfl
 have G:=run_append_grow (P:=P) w F ty e i z O Q hz ⟨b,0,none⟩ k y Y (by rw[v];exact r) E h f c a C o (by omega) (by omega) (growslice_fits (by omega) (dS (Nat.mul_le_mul J H) (by decide)));have K:=grownCap_ge w (k+f) y e;refine⟨_,_,G,⟨by rw[kN,r,q,Nat.add_mul],.inr ⟨w.heap.size,grownCap w (k+f) y e,_,I,rfl,fM w.drew _,?_,K,?_,?_,?_⟩⟩,?_,?_⟩;simp only[zY,ia,size_zeroCells,g,r,q,<-Nat.add_mul];congr 1;omega;have:=grownCap_le_maxLen w (k+f) y e (by simp only[maxLen];omega);simp only[maxLen]at this;omega;intro j n;rw[wv (by simpa using n)];simp;intro j n A;simp only[kN]at n;rw[zF (by simpa using n)];simp only[zY,ia,size_zeroCells,g,r,q]at A;simp only[zY,ia,r,q];rw[r,q]at n;rw[sB _ _ _ (by omega) (by rw[g];omega),g,B];have s:(j-(k*M.length+f*M.length))%M.length=j%M.length:=by obtain⟨d,rfl⟩:∃d,j=(k*M.length+f*M.length)+d:=⟨j-(k*M.length+f*M.length),by omega⟩;rw[Nat.add_sub_cancel_left,<-Nat.add_mul,Nat.add_comm,Nat.add_mul_mod_self_right]
 rw[s];simp;exact((Ext.drew w).trans (Ext.alloc _ _)).keep _;rintro L ⟨l,c',t⟩;injection t with t;have:w.heap.size=L:=dQ Addr.block (dH t);exact .inr (by omega)
section
variable{P:dq}{ops:Array Oper}{Q:Exit->Act->dg->Prop}{a:Act}{w w':dg}{i m:Nat}
end
def dj{w:dg}{b o:Nat}{a:Array di}{v:di}(h:w.heap[b]? =some (.cells a T))(c:a[o]? =some v):w.cell? ⟨b,o,none⟩=some v:=by simp only[World.cell?,h];exact c
def Ext.dz{a w w':dg}{b:Nat}(h:Ext a w)(k:dP (λx=>x=b) w w')(d:a.heap.size<=b):Ext a w':=
 ⟨k.os.trans h.os,k.tape.trans h.tape,k.output.trans h.output,dS h.size k.size,dS h.drawn k.drawn,λx c=>(k.block x (eh c h.size) (by omega)).trans (h.block x c)⟩
section
variable{P:dq}{ρ:dZ->di}{w:dg}{v:di}
end
end Go.Proofs.W
