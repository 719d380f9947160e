/- Laws that the proof needs, part 2. Conditions: none. -/
import Derived.Conc.WgGenN3
import Derived.Test.YteeagjkaflglpaaGreatRows
import Derived.Conc.DeferLaws
import Derived.Conc.CompanyDraw
import Derived.Conc.TokenWalk
import Derived.Laws.MakeOwn
import Derived.Conc.AppendWalk
import Derived.Below
import Derived.Outline
import Derived.Lib.Hide
import Derived.Conc.SmallLaws
import Derived.ArgAppend
import Derived.Defers
import Derived.Test.YteeagjkaflglpaaGreatX01
set_option maxRecDepth 100000
set_option maxHeartbeats 8000000
set_option linter.all false
variable{x y z:cq}{P:cA}
namespace Go.cP.Wg
open Go.Conc Go.ConcN Go.RowKit Go.Conc.Lib Go.ConcR.Gen Go.ConcN.Gen Go.cP
open Go.ConcR (KK wgBlock WgAt stA smA mk Payload DC0)
variable{L:WgLink}
def fC{b:Frame}{a:Act}{k:List Item}{cs:List Frame}{n d:Nat}{c:Array Oper}{i:Nat}{e:cz}{o:Oper}(f:QuitsD P n d (G (b.at (a.put o.dst x) (.inRegion c e::k)) cs))(g:c[i]? =some o:=by rfl)(h:Region.wanted o (yielded c a.tmps)=true:=by rfl)(j:b.kind≠ .early:=by k_ne)(l:∀w,(execOp a.eval o).run P w=.ok (.value x) w:=by intro _;go_simp;(try(first|omega|(w_num;omega)|w_num|decide));rfl)(m:∀w,(execOp a.eval o).events P w #[]=#[]:=by intro _;simp[go_sem, *]):QuitsD P (n+1) d (G (b.at a (.inRegion c (i::e)::k)) cs):=QuitsD.value x g h j l m f
theorem lE:∀{n a d:Nat} {g:cx},n<=a->QuitsD P n d g->QuitsD P a d g
 |0,0,_,_,_,h=>h
 |0,_+1,_,_,_,h=>.inl h
 |n+1,0,_,_,b,_=>absurd b (by omega)
 |n+1,a+1,_,_,b,h=>h.imp id λ⟨c,e,f,i,j,k⟩=>⟨c,e,f,i,j,lE (by omega) k⟩
section
variable{Wg:Nat}{b₀:Frame}{a₀:Act}{ops₀:Array Oper}{i₀:Nat}{rest₀:List Nat}{k₀:List Item}{cs:List Frame}{qt:Nat}
def OO{P:cA}(H:WgLib P L)(s:QuitsD P qt 0 (G (b₀.at (a₀.put ((ops₀[i₀]?).bind (·.dst)) (.tuple #[])) (.inRegion ops₀ rest₀::k₀)) cs))(w:cn)(a:True/\WgLive L.tWg Wg w):
 Goes P false (dT Cr.cL Cr.cL (Cr.Lv L.tWg Wg)) DC0 (Cr.R0 P L.tWg Wg) 40 (G ((base L.add).at ⟨#[.pointer (some ⟨Wg,0,none⟩),.int .i64 (-1)]++Array.replicate ((addFn L).ntmps-2) undef,[]⟩ [.code (body_add L)]) (b₀.at a₀ (.inRegion ops₀ (i₀::rest₀)::k₀)::cs)) w:=by
 have b:∀{w f:cn},True/\WgLive L.tWg Wg w->dT Cr.cL Cr.cL (Cr.Lv L.tWg Wg) w f->True/\WgLive L.tWg Wg f:=λh r=>⟨trivial,r.live h.2⟩;lib_facts;simp only[body_add,addFn,jI,Nat.reduceSub,Array.replicate,List.replicate];u_c cI b a;u_cond true b a;iterate 2 u_c cI b a
 u_reg b a;iterate 2 u_op b a
 u_c cE b a;u_cond true b a;u_reg b a;u_op b a;u_conv H.underlying_tWgP H.room_tWg (WgLive.cell0 a.2).choose_spec b a;refine iO (λf g=>?_);replace a:=b a g;clear g;refine⟨rfl,_,stepG_markAt .releaseMerge (by simp) rfl rfl (by k_ne) rfl H.f_relMerge (x_relMerge_n L) (x_relMerge_b L) (x_relMerge_x L) (x_relMerge_f L) (by simp[Act.eval,stA]),20,?_⟩;walk_nrm;u_c cE b a;u_c cI b a;u_reg b a;refine iO (λu i=>?_);replace a:=b a i;clear i;refine⟨rfl,_,stepG_mark0 .disable (by simp) rfl rfl (by k_ne) rfl H.f_disable (x_disable_n L) (x_disable_b L) (x_disable_x L) (x_disable_f L),80,?_⟩;walk_nrm;u_c cE b a;u_reg b a;u_defer b a;u_c cE b a;u_c cI b a;u_reg b a;u_op b a;u_c cE b a;iterate 2 u_c cI b a
 u_reg b a;u_bub b a;u_c cE b a;u_cond false b a;u_c eJ b a;u_c cI b a;u_reg b a;iterate 6 u_op b a
 u_call H.f_uAdd (nm_uAdd L) uAddFn b a;u_c cI b a;u_reg b a;u_op b a;u_c cE b a;u_c cI b a;u_reg b a;iterate 4 u_op b a
 refine iO (λe k=>?_);clear k a;refine⟨rfl,λv x A Q c=>?_⟩;have B:IntKind.u64.wrap (KK+18446744069414584320)=0:=by decide
 have C:IntKind.u64.wrap (KK+1+18446744069414584320)=1:=by decide
 rcases mY v with rfl|D<;>(obtain rfl|rfl:x=0\/x=1:=by omega)
 ·
  replace c:WgAt L.tWg Wg e KK 0:=by simpa using c
  have z:((0:Nat):Int)*KK+((0:Nat):Int)=0:=by simp
  rw[z];refine⟨_,(stepG_add_atomic rfl rfl (by k_ne) rfl H.f_addU64 (x_addU64_n L) (x_addU64_b L) (x_addU64_x L) .u64 (x_addU64_f L) rfl rfl c.cellSt (c.thaw 0)).trans (by rw[B];rfl),λj=>absurd j.2 (by decide),λ_=>⟨qt+90,?_⟩⟩;clear c;walk_nrm;(refine fC ?_;walk_nrm);q_c cE;q_c stepG_ret';q_leave1 H.f_uAdd;(refine fC ?_;walk_nrm);q_c cE;iterate 2 q_c cI
  q_reg;iterate 4 (refine fC ?_;walk_nrm)
  iterate 2 q_skip
  (refine fC ?_;walk_nrm);q_c cE;q_cond false;q_c eJ;q_c cI;q_reg;iterate 4 (refine fC ?_;walk_nrm)
  q_c cE;q_c cI;q_reg;iterate 4 (refine fC ?_;walk_nrm)
  q_c cE;iterate 2 q_c cI
  q_reg;iterate 5 (refine fC ?_;walk_nrm)
  iterate 4 q_skip
  (refine fC ?_;walk_nrm);q_c cE;q_cond false;q_c eJ;iterate 2 q_c cI
  q_reg;iterate 2 (refine fC ?_;walk_nrm)
  q_c cE;q_cond false;q_c eJ;iterate 2 q_c cI
  q_reg;iterate 3 (refine fC ?_;walk_nrm)
  iterate 2 q_skip
  iterate 2 (refine fC ?_;walk_nrm)
  iterate 4 q_skip
  (refine fC ?_;walk_nrm);q_c cE;q_cond false;q_c eJ;iterate 2 q_c cI
  q_reg;iterate 6 (refine fC ?_;walk_nrm)
  q_c cE;q_cond true;q_c stepG_ret';q_enable;q_leave0 H.f_add;exact lE (by omega) s
 ·
  replace c:WgAt L.tWg Wg e (KK+1) 0:=by simpa using c
  have z:((0:Nat):Int)*KK+((1:Nat):Int)=1:=by simp
  rw[z];refine⟨_,(stepG_add_atomic rfl rfl (by k_ne) rfl H.f_addU64 (x_addU64_n L) (x_addU64_b L) (x_addU64_x L) .u64 (x_addU64_f L) rfl rfl c.cellSt (c.thaw 0)).trans (by rw[C];rfl),λ_=>⟨150,?_⟩,λj=>absurd ⟨rfl,rfl⟩ j⟩;have a:True/\WgLive L.tWg Wg (e.setCell (stA Wg) (.int .u64 1)):=⟨trivial,_,_,c.setSt 1⟩;clear c;walk_nrm;u_op b a;u_c cE b a;u_c stepG_ret' b a;u_leave1 H.f_uAdd b a;u_op b a;u_c cE b a;iterate 2 u_c cI b a
  u_reg b a;iterate 4 u_op b a
  iterate 2 u_skip b a
  u_op b a;u_c cE b a;u_cond false b a;u_c eJ b a;u_c cI b a;u_reg b a;iterate 4 u_op b a
  u_c cE b a;u_c cI b a;u_reg b a;iterate 4 u_op b a
  u_c cE b a;iterate 2 u_c cI b a
  u_reg b a;iterate 5 u_op b a
  iterate 4 u_skip b a
  u_op b a;u_c cE b a;u_cond false b a;u_c eJ b a;iterate 2 u_c cI b a
  u_reg b a;iterate 2 u_op b a
  u_c cE b a;u_cond false b a;u_c eJ b a;iterate 2 u_c cI b a
  u_reg b a;iterate 7 u_op b a
  iterate 4 u_skip b a
  u_op b a;u_c cE b a;u_cond false b a;u_c eJ b a;iterate 2 u_c cI b a
  u_reg b a;iterate 6 u_op b a
  u_c cE b a;u_cond false b a;u_c eJ b a;iterate 2 u_c cI b a
  u_reg b a;iterate 3 u_op b a
  u_call H.f_uLoad (nm_uLoad L) uLoadFn b a;u_c cI b a;u_reg b a;u_op b a;u_c cE b a;u_c cI b a;u_reg b a;iterate 3 u_op b a
  refine iO (λl m=>?_);clear m a;refine⟨rfl,λc=>⟨_,stepG_load_atomic rfl rfl (by k_ne) rfl H.f_loadU64 (x_loadU64_n L) (x_loadU64_b L) (x_loadU64_x L) .u64 (x_loadU64_f L) rfl c.cellSt,60,?_⟩⟩;have a:True/\WgLive L.tWg Wg l:=⟨trivial,_,_,c⟩;clear c;walk_nrm;u_op b a;u_c cE b a;u_c stepG_ret' b a;u_leave1 H.f_uLoad b a;iterate 2 u_op b a
  u_c cE b a;u_cond false b a;u_c eJ b a;u_c cI b a;u_reg b a;iterate 3 u_op b a
  u_call H.f_uStore (nm_uStore L) uStoreFn b a;u_reg b a;iterate 4 u_op b a
  refine iO (λn o=>?_);clear o a;refine⟨rfl,λc=>⟨_,stepG_store_atomic rfl rfl (by k_ne) rfl H.f_storeU64 (x_storeU64_n L) (x_storeU64_b L) (x_storeU64_x L) (x_storeU64_f L) rfl rfl c.cellSt (c.thaw 0),60,?_⟩⟩;have a:True/\WgLive L.tWg Wg (n.setCell (stA Wg) (.int .u64 0)):=⟨trivial,_,_,c.setSt 0⟩;clear c;walk_nrm;u_c cE b a;u_c stepG_end b a;u_leave0 H.f_uStore b a;u_c cE b a;iterate 2 u_c cI b a
  u_reg b a;u_op b a;u_c cE b a;u_cond false b a;u_c eJ b a;u_c qz b a;u_c stepG_loop b a;iterate 2 u_c cI b a
  u_reg b a;iterate 2 u_op b a
  u_c cE b a;u_cond true b a;u_c eJ b a;u_c cI b a;u_c qz b a;u_reg b a;iterate 3 u_op b a
  refine iO (λy p=>?_);clear p a;refine⟨rfl,mayWake_entry rfl rfl H.f_semrelease (x_semrelease_b L),λc=>⟨_,(stepG_semrelease rfl rfl (by k_ne) rfl H.f_semrelease (x_semrelease_n L) (x_semrelease_b L) (x_semrelease_x L) (x_semrelease_f L) (by simp[Act.eval,smA]) c.cellSm (c.thaw 1)).trans (by rfl),qt+40,?_⟩⟩;clear c;walk_nrm;q_c cE;q_c stepG_inBlock;q_reg;iterate 3 (refine fC ?_;walk_nrm)
  q_c cE;q_c stepG_inLoop;iterate 2 q_c cI
  q_reg;iterate 2 (refine fC ?_;walk_nrm)
  q_c cE;q_cond false;q_exit;q_c stepG_end;q_enable;q_leave0 H.f_add;exact lE (by omega) s
 ·
  replace c:WgAt L.tWg Wg e (((v:Nat)+1)*KK+0) 0:=by simpa using c
  have z:((v:Nat):Int)*KK+((0:Nat):Int)=(v:Int)*KK+0:=by simp
  rw[z];have t:0<v:=by omega
  have q:IntKind.u64.wrap (((v:Nat)+1)*KK+0+18446744069414584320)=(v:Int)*KK+0:=by rw[IntKind.wrap_u64];simp only[KK];omega
  obtain⟨S,d⟩:∃S:Int,S=(v:Int)*KK+0:=⟨_,rfl⟩;rw[<-d]at q⊢;have E:S/4294967296=(v:Int):=by rw[d];simp only[KK];omega
  have F:bits .and .u64 S 2147483648=0:=by rw[d];have:=st_flag v 0 (by omega) (by omega);simpa[KK]using this
  have I:bits .and .u64 S 2147483647=0:=by rw[d];have:=st_waiters v 0 (by omega) (by omega);simpa[KK]using this
  have J:IntKind.i32.wrap (v:Int)=(v:Int):=by rw[IntKind.wrap_i32];omega
  have K:decide ((v:Int)<0)=false:=kR (by omega);have M:decide (0<(v:Int))=true:=decide_eq_true (by omega);have N:((v:Int)==0)=false:=by simp;omega
  have O:decide ((v:Int)=0)=false:=kR (by omega);clear d z;refine⟨_,(stepG_add_atomic rfl rfl (by k_ne) rfl H.f_addU64 (x_addU64_n L) (x_addU64_b L) (x_addU64_x L) .u64 (x_addU64_f L) rfl rfl c.cellSt (c.thaw 0)).trans (by rw[q];rfl),λj=>absurd j.1 (by omega),λ_=>⟨qt+90,?_⟩⟩;clear c;walk_nrm;(refine fC ?_;walk_nrm);q_c cE;q_c stepG_ret';q_leave1 H.f_uAdd;(refine fC ?_;walk_nrm);q_c cE;iterate 2 q_c cI
  q_reg;iterate 4 (refine fC ?_;walk_nrm)
  iterate 2 q_skip
  (refine fC ?_;walk_nrm);q_c cE;q_cond false;q_c eJ;q_c cI;q_reg;iterate 4 (refine fC ?_;walk_nrm)
  q_c cE;q_c cI;q_reg;iterate 4 (refine fC ?_;walk_nrm)
  q_c cE;iterate 2 q_c cI
  q_reg;iterate 5 (refine fC ?_;walk_nrm)
  iterate 4 q_skip
  (refine fC ?_;walk_nrm);q_c cE;q_cond false;q_c eJ;iterate 2 q_c cI
  q_reg;iterate 2 (refine fC ?_;walk_nrm)
  q_c cE;q_cond false;q_c eJ;iterate 2 q_c cI
  q_reg;iterate 3 (refine fC ?_;walk_nrm)
  iterate 2 q_skip
  iterate 2 (refine fC ?_;walk_nrm)
  iterate 4 q_skip
  (refine fC ?_;walk_nrm);q_c cE;q_cond false;q_c eJ;iterate 2 q_c cI
  q_reg;iterate 3 (refine fC ?_;walk_nrm)
  iterate 2 q_skip
  (refine fC ?_;walk_nrm);q_c cE;q_cond true;q_c stepG_ret';q_enable;q_leave0 H.f_add;exact lE (by omega) s
 ·
  replace c:WgAt L.tWg Wg e (((v:Nat)+1)*KK+1) 0:=by simpa using c
  have z:((v:Nat):Int)*KK+((1:Nat):Int)=(v:Int)*KK+1:=by simp
  rw[z];have t:0<v:=by omega
  have q:IntKind.u64.wrap (((v:Nat)+1)*KK+1+18446744069414584320)=(v:Int)*KK+1:=by rw[IntKind.wrap_u64];simp only[KK];omega
  obtain⟨S,d⟩:∃S:Int,S=(v:Int)*KK+1:=⟨_,rfl⟩;rw[<-d]at q⊢;have E:S/4294967296=(v:Int):=by rw[d];simp only[KK];omega
  have F:bits .and .u64 S 2147483648=0:=by rw[d];have:=st_flag v 1 (by omega) (by omega);simpa[KK]using this
  have I:bits .and .u64 S 2147483647=1:=by rw[d];have:=st_waiters v 1 (by omega) (by omega);simpa[KK]using this
  have J:IntKind.i32.wrap (v:Int)=(v:Int):=by rw[IntKind.wrap_i32];omega
  have K:decide ((v:Int)<0)=false:=kR (by omega);have M:decide (0<(v:Int))=true:=decide_eq_true (by omega);have N:((v:Int)==0)=false:=by simp;omega
  have O:decide ((v:Int)=0)=false:=kR (by omega);clear d z;refine⟨_,(stepG_add_atomic rfl rfl (by k_ne) rfl H.f_addU64 (x_addU64_n L) (x_addU64_b L) (x_addU64_x L) .u64 (x_addU64_f L) rfl rfl c.cellSt (c.thaw 0)).trans (by rw[q];rfl),λj=>absurd j.1 (by omega),λ_=>⟨qt+90,?_⟩⟩;clear c;walk_nrm;(refine fC ?_;walk_nrm);q_c cE;q_c stepG_ret';q_leave1 H.f_uAdd;(refine fC ?_;walk_nrm);q_c cE;iterate 2 q_c cI
  q_reg;iterate 4 (refine fC ?_;walk_nrm)
  iterate 2 q_skip
  (refine fC ?_;walk_nrm);q_c cE;q_cond false;q_c eJ;q_c cI;q_reg;iterate 4 (refine fC ?_;walk_nrm)
  q_c cE;q_c cI;q_reg;iterate 4 (refine fC ?_;walk_nrm)
  q_c cE;iterate 2 q_c cI
  q_reg;iterate 5 (refine fC ?_;walk_nrm)
  iterate 4 q_skip
  (refine fC ?_;walk_nrm);q_c cE;q_cond false;q_c eJ;iterate 2 q_c cI
  q_reg;iterate 2 (refine fC ?_;walk_nrm)
  q_c cE;q_cond false;q_c eJ;iterate 2 q_c cI
  q_reg;iterate 7 (refine fC ?_;walk_nrm)
  iterate 4 q_skip
  (refine fC ?_;walk_nrm);q_c cE;q_cond false;q_c eJ;iterate 2 q_c cI
  q_reg;iterate 3 (refine fC ?_;walk_nrm)
  iterate 2 q_skip
  (refine fC ?_;walk_nrm);q_c cE;q_cond true;q_c stepG_ret';q_enable;q_leave0 H.f_add;exact lE (by omega) s
end
end Go.cP.Wg
variable{h:Go.Addr}{O Q:Go.Obj}
namespace Go.cP.Cr
open Go.Conc Go.cP Go.cP.Kn Go.cP.Wg
open Go.ConcR (KK wgBlock WgAt stA smA mk DC0)
section
variable{P:cA}{main:Bool}{own rd:Nat->Prop}{ty:cw}{Wg:Nat}{S:gW}{g g':cx}{w:cn} {b:Frame}{a:Act}{k:List Item}{cs:List Frame}{ops:Array Oper}{i:Nat}{rest:List Nat}{o:Oper}{v:cq}
def kT(f:g.status=.running)(h:∀b,dT own rd (Lv ty Wg) w b->∃g' c d a,stepG P main g b=.go g' c d/\KG own rd b c d a/\Wy P ty Wg main rd S a g' c):Wy P ty Wg main rd S own g w:=by refine Way.mk f λb i=>?_;obtain⟨g',c,d,a,e,j,k,l⟩:=h b i;exact⟨g',c,d,a,k,e,j,l⟩
def LH(b:g.status=.running)(h:∀w,stepG P main g w=.go g' w #[])(c:∀a,dT own rd (Lv ty Wg) w a->Wy P ty Wg main rd S own g' a):Wy P ty Wg main rd S own g w:=
 kT b λa d=>⟨g',a,#[],own,h a,xJ λe f=>by simp at f,c a d⟩
def LI(d:ops[i]? =some o)(e:Region.wanted o (yielded ops a.tmps)=true)(f:b.kind≠ .early)(g:∀w,(execOp a.eval o).run P w=.ok (.value v) w)(h:∀w,(execOp a.eval o).events P w #[]=#[]) (j:∀c,dT own rd (Lv ty Wg) w c->Wy P ty Wg main rd S own (G (b.at (a.put o.dst v) (.inRegion ops rest::k)) cs) c):Wy P ty Wg main rd S own (G (b.at a (.inRegion ops (i::rest)::k)) cs) w:=
 LH rfl (λw=>by rw[stepG_value d e f (g w)];unfold listed;rw[h w,seen_none]) j
def OP(d:ops[i]? =some o)(f:Region.wanted o (yielded ops a.tmps)=true)(g:b.kind≠ .early) (h:∀c,dT own rd (Lv ty Wg) w c->(execOp a.eval o).run P c=.ok (.value v) c/\(∀e∈listed P b.fn a o c,EvW own rd c.heap.size c.heap.size e)/\Wy P ty Wg main rd S own (G (b.at (a.put o.dst v) (.inRegion ops rest::k)) cs) c):Wy P ty Wg main rd S own (G (b.at a (.inRegion ops (i::rest)::k)) cs) w:=
 kT rfl λc j=>by obtain⟨l,m,n⟩:=h c j;exact⟨_,c,_,own,stepG_value d f g l,xJ m,n⟩
def Rv{ob:Obj}(g:ops[i]? =some o)(j:Region.wanted o (yielded ops a.tmps)=true)(l:b.kind≠ .early) (h:∀c,dT own rd (Lv ty Wg) w c->∃v d,(execOp a.eval o).run P c=.ok (.value v) d/\d.tape=c.tape/\d.os=c.os/\d.output=c.output/\d.heap=c.heap.push ob/\(∀e∈listed P b.fn a o c,EvW own rd c.heap.size d.heap.size e)/\
  Wy P ty Wg main rd S (λx=>own x\/x=c.heap.size) (G (b.at (a.put o.dst v) (.inRegion ops rest::k)) cs) d):Wy P ty Wg main rd S own (G (b.at a (.inRegion ops (i::rest)::k)) cs) w:=
 kT rfl λc m=>by obtain⟨v,d,n,p,q,r,f,s,t⟩:=h c m;refine⟨_,d,_,_,stepG_value g j l n,⟨p,q,r,by rw[f];simp,λx=>?_,λx u _=>?_,s⟩,t⟩;rw[f,Array.size_push];constructor;rintro(h|h);exact .inl h;exact .inr (by omega);rintro(h|h);exact .inl h;exact .inr (by omega);rw[f,nS];split;rename_i e;omega;rfl
def CW{ad:Addr}{x:cq}(m:ops[i]? =some o)(n:Region.wanted o (yielded ops a.tmps)=true)(p:b.kind≠ .early)(g:own ad.block) (h:∀d,dT own rd (Lv ty Wg) w d->∃f,(execOp a.eval o).run P d=.ok .skip f/\f.tape=d.tape/\f.os=d.os/\f.output=d.output/\f.heap.size=d.heap.size/\(∀c,c≠ad.block->f.heap[c]? =d.heap[c]?)/\(∀e∈listed P b.fn a o d,EvW own rd d.heap.size d.heap.size e)/\Wy P ty Wg main rd S own (G (b.at (a.put o.dst undef) (.inRegion ops rest::k)) cs) f):Wy P ty Wg main rd S own (G (b.at a (.inRegion ops (i::rest)::k)) cs) w:=
 kT rfl λd q=>by obtain⟨f,r,s,t,u,j,v,z,A⟩:=h d q;refine⟨_,f,_,_,stepG_none m n p r,⟨s,t,u,by rw[j];exact cJ _,λy=>?_,λy B l=>v y (λe=>l (e▸g)),by rw[j];exact z⟩,A⟩;rw[j];exact⟨.inl,λh=>h.elim id λh=>by omega⟩
def _root_.Go.cP.dT.cell{L:cU}{d:cn}(f:dT own rd L w d)(g:own h.block\/rd h.block)(a:w.cell? h=some v):d.cell? h=some v:=by
 have b:h.block<w.me:=by refine xr λc=>?_;have:w.heap[h.block]? =none:=lT c;simp[World.cell?,this]at a
 have e:=f.heap h.block b g;unfold World.cell? at a⊢;rw[e];exact a
def _root_.Go.cP.dT.obj{L:cU}{a:cn}(h:dT own rd L w a){c:Nat}(d:own c\/rd c)(b:w.heap[c]? =some O):a.heap[c]? =some O:=by rw[h.heap c (lt_of_heap b) d];exact b
end
end Go.cP.Cr
namespace Go.Proofs.W
open Go.Conc Go.cP Go.cP.Cr Go.cP.Wg Go.RowKit Go.Conc.Lib Go.ConcR.Gen
open Go.ConcR (KK wgBlock WgAt stA smA mk DC0)
open Go.Proofs (Tryz.prog)
noncomputable abbrev PR:cA:=Tryz.prog
noncomputable def CX:Frame:=baseD 188
noncomputable def Bq:Code:=Tryz.f188.body.getD .skip
noncomputable def CY(a b c d:Nat):dU:=#[.pointer (some ⟨d,0,none⟩),.pointer (some ⟨a,0,none⟩),.pointer (some ⟨b,0,none⟩),.pointer (some ⟨c,0,none⟩)]
noncomputable def call188(a b c d:Nat):Deferred:={target:=.fn (.func 188) (CY a b c d),args:=#[]}
noncomputable def bot:Frame:={(default:Frame)with fn:=PR.funcs.size,defers:=[],mode:=.panicking [goexitEntry]}
def I0(a b c d:Nat)(w:cn):stepG PR false (born PR (call188 a b c d)) w=.go (G (CX.at ⟨CY a b c d++Array.replicate 14 undef,[]⟩ [.code Bq]) [bot]) w #[]:=by simp[born,call188,CY,stepG,unwind,callDeferred,invoke,callFunc,Tryz.func188,Tryz.f188,seen,GStep.after,G,Frame.enter,Frame.at,CX,baseD,bot,Bq]
end Go.Proofs.W
namespace Go.cP.Cr
open Go.Conc Go.cP Go.cP.Kn Go.cP.Wg
open Go.ConcR (KK wgBlock WgAt stA smA mk DC0)
section
variable{P:cA}{main:Bool}{own rd:Nat->Prop}{ty:cw}{Wg:Nat}{S:gW}{K:cn->Prop}{g g':cx} {b:Frame}{a:Act}{k:List Item}{cs:List Frame}{ops:Array Oper}{i:Nat}{rest:List Nat}{o:Oper}{v:cq}
def WK(P:cA)(ty:cw)(Wg:Nat)(main:Bool)(rd:cN)(S:gW)(own:cN)(K:cU)(g:cx):Prop:=∀w,K w->Wy P ty Wg main rd S own g w
def nN(own rd:cN)(L:cU)(K:cU):Prop:=∀w a,dT own rd L w a->K w->K a
def WK.step(b:nN own rd (Lv ty Wg) K)(f:g.status=.running)(h:∀w,K w->∃g' c d a,stepG P main g w=.go g' c d/\KG own rd w c d a/\Wy P ty Wg main rd S a g' c):WK P ty Wg main rd S own K g:=
 λw i=>kT f λe j=>h e (b w e j i)
def WK.ctl(a:nN own rd (Lv ty Wg) K)(c:g.status=.running)(h:∀w,stepG P main g w=.go g' w #[])(d:WK P ty Wg main rd S own K g'):WK P ty Wg main rd S own K g:=
 λw e=>LH c h λb f=>d b (a w b f e)
def WK.val(c:nN own rd (Lv ty Wg) K)(e:ops[i]? =some o)(f:Region.wanted o (yielded ops a.tmps)=true)(g:b.kind≠ .early)(h:∀w,(execOp a.eval o).run P w=.ok (.value v) w)(j:∀w,(execOp a.eval o).events P w #[]=#[]) (l:WK P ty Wg main rd S own K (G (b.at (a.put o.dst v) (.inRegion ops rest::k)) cs)):WK P ty Wg main rd S own K (G (b.at a (.inRegion ops (i::rest)::k)) cs):=
 λw m=>LI e f g h j λd n=>l d (c w d n m)
def WK.load(c:nN own rd (Lv ty Wg) K)(h:ops[i]? =some o)(j:Region.wanted o (yielded ops a.tmps)=true)(l:b.kind≠ .early) (m:∀w,K w->(execOp a.eval o).run P w=.ok (.value v) w)(n:∀w,K w->∀e∈(execOp a.eval o).events P w #[],EvW own rd w.heap.size w.heap.size e) (p:WK P ty Wg main rd S own K (G (b.at (a.put o.dst v) (.inRegion ops rest::k)) cs)):WK P ty Wg main rd S own K (G (b.at a (.inRegion ops (i::rest)::k)) cs):=
 λw f=>OP h j l λd g=>⟨m d (c w d g f),λe q=>n d (c w d g f) e (mem_listed q),p d (c w d g f)⟩
def WK.new{ob:Obj}{f:Nat->cq}(j:nN own rd (Lv ty Wg) K)(l:ops[i]? =some o)(m:Region.wanted o (yielded ops a.tmps)=true)(n:b.kind≠ .early) (p:∀w,K w->(execOp a.eval o).run P w=.ok (.value (f w.heap.size)) {w with heap:=w.heap.push ob})
 (q:∀w,K w->∀e∈(execOp a.eval o).events P w #[],EvW own rd w.heap.size (w.heap.size+1) e) (r:∀c,WK P ty Wg main rd S (λx=>own x\/x=c) (λw=>∃h,K h/\c=h.heap.size/\dT (λx=>own x\/x=c) rd (Lv ty Wg) {h with heap:=h.heap.push ob} w) (G (b.at (a.put o.dst (f c)) (.inRegion ops rest::k)) cs)):
 WK P ty Wg main rd S own K (G (b.at a (.inRegion ops (i::rest)::k)) cs):=
 λw s=>Rv (ob:=ob) l m n λg t=>by have d:=j w g t s;exact⟨_,_,p g d,rfl,rfl,rfl,rfl,λe u=>by have:=q g d e (mem_listed u);simpa using this,r g.me _ ⟨g,d,rfl,.refl _ _ _ _⟩⟩
def eA(w:cn)(a:Addr)(u:cq)(k:Nat)(h:k≠a.block):(w.setCell a u).heap[k]? =w.heap[k]? :=by simp only[World.setCell,mR];rw[cy (by omega)]
def WK.store{ad:Addr}{x:cq}(h:nN own rd (Lv ty Wg) K)(l:ops[i]? =some o)(m:Region.wanted o (yielded ops a.tmps)=true)(n:b.kind≠ .early)(f:own ad.block) (p:∀w,K w->(execOp a.eval o).run P w=.ok .skip (w.setCell ad x))(q:∀w,K w->∀e∈(execOp a.eval o).events P w #[],EvW own rd w.heap.size w.heap.size e)
 (r:WK P ty Wg main rd S own (λw=>∃j,K j/\dT own rd (Lv ty Wg) (j.setCell ad x) w) (G (b.at (a.put o.dst undef) (.inRegion ops rest::k)) cs)):
 WK P ty Wg main rd S own K (G (b.at a (.inRegion ops (i::rest)::k)) cs):=
 λw s=>CW l m n f (x:=x) λg t=>by have d:=h w g t s;exact⟨_,p g d,by simp[World.setCell],by simp[World.setCell],by simp[World.setCell],by simp[World.setCell],λc u=>eA g ad x c u,λe v=>q g d e (mem_listed v),r _ ⟨g,d,.refl _ _ _ _⟩⟩
def WK.write{W:cn->cU}{bl:Nat}(l:nN own rd (Lv ty Wg) K)(p:ops[i]? =some o)(q:Region.wanted o (yielded ops a.tmps)=true)(r:b.kind≠ .early)(h:own bl) (s:∀w,K w->∃d,(execOp a.eval o).run P w=.ok .skip d/\d.tape=w.tape/\d.os=w.os/\d.output=w.output/\d.heap.size=w.heap.size/\(∀c,c≠bl->d.heap[c]? =w.heap[c]?)/\W w d) (t:∀w,K w->∀e∈(execOp a.eval o).events P w #[],EvW own rd w.heap.size w.heap.size e)
 (u:WK P ty Wg main rd S own (λw=>∃j f,K j/\W j f/\f.heap.size=j.heap.size/\(∀c,c≠bl->f.heap[c]? =j.heap[c]?)/\dT own rd (Lv ty Wg) f w) (G (b.at (a.put o.dst undef) (.inRegion ops rest::k)) cs)):
 WK P ty Wg main rd S own K (G (b.at a (.inRegion ops (i::rest)::k)) cs):=
 λw v=>CW p q r (ad:=(cY bl 0)) (x:=fR) h λf y=>by have g:=l w f y v;obtain⟨d,z,A,B,C,m,n,D⟩:=s f g;exact⟨d,z,A,B,C,m,n,λe E=>t f g e (mem_listed E),u _ ⟨f,d,g,D,m,n,.refl _ _ _ _⟩⟩
def WK.mono{K':cU}(h:WK P ty Wg main rd S own K' g)(a:∀w,K w->K' w):WK P ty Wg main rd S own K g:=λw b=>h w (a w b)
def WK.stop(a:nN own rd (Lv ty Wg) K)(h:∀w,K w->S own g w):WK P ty Wg main rd S own K g:=λw c=>nZ λb d=>h b (a w b d c)
def OQ{L:cU}{c:Nat}(a:own c\/rd c):nN own rd L λw=>w.heap[c]? =some O:=λ_ _ b h=>b.obj a h
def HQ{L:cU}{a:cU}(h:nN own rd L K)(e:nN own rd L a):nN own rd L λw=>K w/\a w:=λw b c d=>⟨h w b c d.1,e w b c d.2⟩
end
end Go.cP.Cr
variable{R:Go.cP.dm}
namespace Go.cP.Cr
open Go.Conc Go.cP Go.cP.Kn Go.cP.Wg
open Go.ConcR (KK wgBlock WgAt stA smA mk DC0)
section
variable{P:cA}{main:Bool}{own rd:Nat->Prop}{ty:cw}{Wg:Nat}{S:gW}{K:cn->Prop}{g g':cx} {b:Frame}{a:Act}{k:List Item}{cs:List Frame}{ops:Array Oper}{i:Nat}{rest:List Nat}{o:Oper}{v:cq}
theorem WK.enter{f:FuncId}{fn:Func}{c:Code}{args:Array Operand}{W6:Array TypeId}(Oo:nN own rd (Lv ty Wg) K) (ho:ops[i]? =some o)(hw:Region.wanted o (yielded ops a.tmps)=true)(hk:b.kind≠ .early)(T5:o.op=.call {callee:=.value (.func f),args,argTypes:=W6}) (hf:P.funcs[f]? =some fn)(Qy:(fn.name== "runtime.NumGoroutine")=false)(hb:fn.body=some c) (h:WK P ty Wg main rd S own K (G (Frame.enter P f (args.map a.eval) .normal) (b.at a (.inRegion ops (i::rest)::k)::cs))):WK P ty Wg main rd S own K (G (b.at a (.inRegion ops (i::rest)::k)) cs):=by
 refine WK.ctl Oo rfl (λw=>?_) h;have Ud:fn.body.isNone=false:=by rw[hb];rfl
 rw[stepG_enter ho hw hk (run_call_body T5 hf Qy Ud)];have:listed P b.fn a o w=#[]:=by unfold listed;rw[events_call_body T5 hf Qy Ud];exact seen_none P _
 rw[this]
def Out(U:cq->Prop)(R:nd)(rd:cN)(b:dm)(a:Frame)(cs:List Frame):gW:=λown g w=>
 ∃c x d v,g=G (a.finish d) cs/\R x v/\VR c x d/\dm.Le b c/\uS c v w own rd/\U d
def Br{f:dH}{fn:Func}{U:cq->Prop}(hU:∀(ts:dU) (Q:cA) (w:cn) (x:cq) (u:cn),(results fn ts).run Q w=.ok x u->U x){N:nd}{d:Frame}{w:cn}(hR:∀x w T,N x w->N x (cQ w T))(hG:Good P R)(O:P.funcs[f]? =some fn) (h:CM P (Left P f N) rd (d::cs) R own g w):Wy (P.it R.fs) ty Wg main rd (Out U N rd R d cs) own g w:=by
 obtain⟨c,V,p,l,i,z,hl,H⟩:=h;have A:=p;obtain⟨h1,I,x0,h3,h4,h5,h6,ae,h7,h8⟩:=A;rw[I,O]at h7;obtain rfl:=cO h7;obtain⟨n,af,ag,ah,ai⟩:=g;obtain⟨W,aj,e1,X,hX⟩:=l.callers;have e3:=l.st.2;have e4:=l.dy.2;have e5:=l.of.2;simp only at X e3 e4 e5 i;have J:c.cl=W++[floor]:=e1;rw[h1]at J;have Y:W=[]:=by
  cases W with
  |nil=>rfl
  |cons y ys=>simp at J
 subst Y;cases hX;simp only[sr]at X;subst X e3 e4 e5;have m2:n.mode=.returning:=by have q:=i.mode;rw[h4]at q;generalize n.mode=m at q⊢;cases q;rfl
 have d2:n.defers=[]:=by have q:=i.defers;rw[h5]at q;generalize n.defers=m at q⊢;cases q;rfl
 have k2:n.kind=.normal:=i.kind▸h6;have f2:n.fn=f:=i.fn▸I;have Z:Good P V:=hG.mono z;have g2:(P.it R.fs).funcs[f]? =some fn:=by obtain⟨ak,c2,j1,_,_,j4⟩:=Z.two.fn f (I▸i.fnS.1);rw[j4 (I▸i.fnS.2)]at O;rw[z.f];show V.fs[f]? =_;rw[j1,O]
 refine kT rfl λo hr=>?_;have s:=hl.rely hr;have hw:WR V (cQ c.v (qf c.v o)) o:=WR.qf s.heap;obtain⟨_,_,x,k3,k4,k5,k6,al,k7,k8⟩:=Left.cQ hR c (qf c.v o) H p;rw[I,O]at k7;obtain rfl:=cO k7;have aa:(results fn c.fr.tmps).run P (cQ c.v (qf c.v o))=.ok x (cQ c.v (qf c.v o)):=k8;have D:∀{r:Result cq} {K:Array Event},(results fn c.fr.tmps).runT P (cQ c.v (qf c.v o)) #[]=(r,K)->r=.ok x (cQ c.v (qf c.v o)):=λ{r K} e=>by rw[lB]at e;exact(cT Prod.fst e).symm.trans aa
 rcases dB.run hw (SR.results (fn:=fn) i.tmps)with⟨hh,v1,K,e,_⟩|⟨a,b,v1,S,E,K,L,e,F,M,m⟩|⟨a,b,v1,S,E,K,L,e,F,M,m⟩;cases D e;have:=D e;injection this with ea ev;subst ea ev;rw[<-z.f]at F;let B:cN:=λb=>own b\/(o.me<=b/\b<S.me);have ab:uS E (cQ c.v (qf c.v o)) S B rd:=by refine⟨m.rel.hr,λb c' j=>?_⟩;rcases m.fresh b c' j with h|⟨_,h⟩;rcases s.zone b c' h with h|⟨h,k⟩;exact .inl (.inl h);have t:wA (cQ c.v (qf c.v o)) b:=k;exact .inr ⟨h,t.keep (m.tC b t)⟩;exact .inl (.inr ⟨h,m.rel.St j⟩)
 refine⟨G (d.finish b) cs,S,seen (P.it R.fs) f L,B,?_,⟨m.tape,m.os,m.output,m.usize,λb=>mS,λb hb ac=>m.same b hb λb0 j=>?_,λe he=>?_⟩,nZ λw2 ad=>⟨E,a,b,_,rfl,k3,M,z.trans m.le,ab.rely ad,hU _ _ _ _ _ (by rw[lB]at F;exact(Prod.mk.inj F).1)⟩⟩;rw[lB]at F;obtain⟨r1,r2⟩:=Prod.mk.inj F;simp[stepG,unwind,doReturn,m2,d2,k2,f2,g2,r1,r2,G,GStep.after];rcases s.zone b0 b j with h|⟨_,h⟩;exact absurd h ac;exact h;rcases m.evs e (j9 he)with⟨a,C,b,rfl,j,_,H⟩|⟨r,C,b,rfl,j,H⟩|⟨a,C,rfl,hn,q⟩|⟨r,C,rfl,hn,q⟩|rfl;refine .inl ⟨a,C,rfl,?_⟩;rcases s.zone b a.block j with h|⟨h,k⟩;exact .inl h;cases C with
 |true=>exact absurd (show wA (cQ c.v (qf c.v o)) b from k) (H rfl)
 |false=>exact .inr (.inl ⟨rfl,h⟩)
 refine .inr (.inl ⟨r,C,rfl,?_⟩);rcases s.zone b r j with h|⟨h,k⟩;exact .inl h;exact absurd (show wA (cQ c.v (qf c.v o)) b from k) H;exact .inl ⟨a,C,rfl,.inr (.inr ⟨hn,q⟩)⟩;exact .inr (.inl ⟨r,C,rfl,.inr ⟨hn,q⟩⟩);exact .inr (.inr rfl);cases D e
def qK{w v:cn}{f:dH}{b a:dU}(d:Good P R)(e:∀f,R.hole f=false)(g:R.S f=true)(c:fc R b a)(i:uS R v w own rd):Inv P ⟨Frame.enter P f b .normal,[floor],v⟩:=by
 have h:Inv P ⟨Frame.enter P f b .normal,[floor],cQ v (qf v w)⟩:=
  ⟨R,w,G (Frame.enter (P.it R.fs) f a .normal) [],d,e,WR.qf i.heap,rJ d g c .normal (.inl rfl),⟨[],[],rfl,rfl,.nil⟩,⟨rfl,rfl⟩,⟨rfl,rfl⟩,⟨rfl,rfl⟩⟩
 exact h.cQ v.tape
def Wy.keep{B:cN}{w:cn}(c:∀b,B b->rd b/\¬own b/\b<w.heap.size)(h:Wy P ty Wg main rd S own g w):Wy P ty Wg main rd (λo g d=>S o g d/\∀b,B b->d.heap[b]? =w.heap[b]?) own g w:=by
 obtain⟨C,h⟩:=h
 have l:∀(m:Nat->Option Obj),(∀b,B b->rd b/\¬own b/\b<w.heap.size/\w.heap[b]? =m b)->Wy P ty Wg main rd (λo g d=>S o g d/\∀b,B b->d.heap[b]? =m b) own g w:=by
  intro m c;rename_i n;clear n;induction h with
  |here h=>exact nZ λj i=>⟨h j i,λb a=>(i.heap b (c b a).2.2.1 (.inr (c b a).1)).trans (c b a).2.2.2⟩
  |step u v D y=>
   refine kT u λj i=>?_;obtain⟨g',d,p,f,e,k⟩:=v j i;refine⟨g',d,p,f,e,k,y j g' d p f i e k λb a=>?_⟩;obtain⟨q,r,s,z⟩:=c b a;have t:b<j.heap.size:=dE s i.size;refine⟨q,λA=>?_,dE t k.size,(k.same b t r).trans ((i.heap b s (.inr q)).trans z)⟩;rcases(k.owns b).1 A with x|⟨x,_⟩;exact r x;omega
 exact l (λb=>w.heap[b]?) λb a=>⟨(c b a).1,(c b a).2.1,(c b a).2.2,rfl⟩
def Wy.Tk{w:cn}(k:¬own Wg)(l:Lv ty Wg w)(h:Wy P ty Wg main rd S own g w):Wy P ty Wg main rd (λo g d=>S o g d/\Lv ty Wg d) own g w:=by
 obtain⟨v,h⟩:=h;induction h with
 |here h=>exact nZ λb c=>⟨h b c,c.live l⟩
 |step q r y s=>
  refine kT q λb c=>?_;obtain⟨g',d,m,a,e,i⟩:=r b c;obtain⟨n,p,t⟩:=c.live l;have f:b.heap[Wg]? =some (wgBlock ty n p):=t;have j:Wg<b.heap.size:=lt_of_heap f;refine⟨g',d,m,a,e,i,s b g' d m a c e i (λu=>?_) ⟨n,p,(i.same Wg j k).trans f⟩⟩;rcases(i.owns Wg).1 u with x|⟨x,_⟩;exact k x;omega
def HT{f:dH}{e:Func}{U:cq->Prop}(l:∀(m:dU) (Q:cA) (w:cn) (x:cq) (u:cn),(results e m).run Q w=.ok x u->U x){R:nd}{ρ0:dm}{caller:Frame}{w v:cn}{d a:dU}(c:Good P ρ0)(i:∀f,ρ0.hole f=false)(j:ρ0.S f=true)(n:P.funcs[f]? =some e) (p:∀x w T,R x w->R x (cQ w T))(b:fc ρ0 d a)(q:Reach P (Left P f R) ⟨Frame.enter P f d .normal,[floor],v⟩)(k:uS ρ0 v w own rd):Wy (P.it ρ0.fs) ty Wg main rd (Out U R rd ρ0 caller cs) own (G (Frame.enter (P.it ρ0.fs) f a .normal) (caller::cs)) w:=by
 have r:qe P ρ0 (caller::cs) (G (Frame.enter P f d .normal) [floor]) (G (Frame.enter (P.it ρ0.fs) f a .normal) (caller::cs)):=
  ⟨rJ c j b .normal (.inl rfl),⟨[],[],rfl,rfl,.nil⟩,⟨rfl,rfl⟩,⟨rfl,rfl⟩,⟨rfl,rfl⟩⟩
 have s:=Rm (main:=main) (L:=Lv ty Wg) (cs:=caller::cs) (ρ0:=ρ0) Left.callers _ q ρ0 own _ w (qK c i j b k) c (λf _=>i f) (.refl _) r k;exact Wy.bind s λo g w h=>Br l p c n h
end
end Go.cP.Cr
namespace Go.Proofs.W
open Go.Conc Go.cP Go.cP.Cr Go.cP.Wg Go.RowKit Go.Conc.Lib Go.ConcR.Gen
def LJ(a:Addr)(w:cn):(Instr.build 245 #[(0,.pointer (some a))]).run PR w=.ok (.agg #[.pointer (some a),.slice none 0 0,.int .u8 0,.int .u8 0,.int .u8 0,.int .u8 0,.int .u8 0,.int .u8 0,.slice none 0 0,.int .i64 0,.int .i64 0,.bool false]) w:=by kernel_rfl
def I1(a:Addr)(w:cn):(Instr.build 245 #[(0,.pointer (some a))]).events PR w #[]=#[]:=by kernel_rfl
def LK(i m n:Int)(b:Bool)(a:ek)(l c:Nat)(w:cn):(Instr.build 247 #[(0,.int .i64 i),(1,.agg #[.slice a l c,.int .i64 m,.int .i64 n,.bool b])]).run PR w=.ok (.agg #[.int .i64 i,.slice a l c,.int .i64 m,.int .i64 n,.bool b]) w:=by kernel_rfl
def I2(i m n:Int)(b:Bool)(a:ek)(l c:Nat)(w:cn):(Instr.build 247 #[(0,.int .i64 i),(1,.agg #[.slice a l c,.int .i64 m,.int .i64 n,.bool b])]).events PR w #[]=#[]:=by kernel_rfl
end Go.Proofs.W
variable{m k i j o p s d:Nat}{w t e:cn}{A B C:Nat->Prop}{I J:Int}{S:cn->Prop}
namespace Go.Proofs.W
open Go.Conc Go.cP Go.cP.Cr Go.cP.Wg Go.RowKit Go.Conc.Lib Go.ConcR.Gen
open Go.ConcR (KK wgBlock WgAt stA smA mk DC0)
def wD(c:cN)(Q:cU):Prop:=∀(w a:cn),w.heap.size<=a.heap.size->(∀b,b<w.heap.size->c b->a.heap[b]? =w.heap[b]?)->Q w->Q a
def wD.rely{own rd:cN}{L:cU}{Q:cU}(h:wD rd Q)(c:dT own rd L w t)(d:Q w):Q t:=h w t c.size (λb e a=>c.heap b e (.inr a)) d
structure KW(pc ic oc Wg Ch:Nat)(pl:Addr)(i:Int)(Q:cn->Prop)(w:cn):Prop where
 p:w.cell? ⟨pc,0,none⟩=some (.pointer (some pl))
 i:w.cell? ⟨ic,0,none⟩=some (.int .i64 i)
 o:w.cell? ⟨oc,0,none⟩=some (.chan (some Ch))
 live:Lv 241 Wg w
 q:Q w
theorem KW.rely{Q:cU}{own rd:cN}(c:rd m)(d:rd k)(e:rd i)(f:wD rd Q):nN own rd (Lv 241 j) (KW m k i j o h I Q):=
 λ_ _ a b=>⟨a.cell (.inr c) b.p,a.cell (.inr d) b.i,a.cell (.inr e) b.o,a.live b.live,f.rely a b.q⟩
def jP(a:Addr):dU:=#[.pointer (some a),.slice none 0 0,.int .u8 0,.int .u8 0,.int .u8 0,.int .u8 0,.int .u8 0,.int .u8 0,.slice none 0 0,.int .i64 0,.int .i64 0,.bool false]
noncomputable def CZ:Array Oper:=(λ(x:Array Oper) (_:fU Tryz.f188 2=.region 2 x false)=>x) _ (by conv=>lhs;whnf)
noncomputable def eR:Array Oper:=(λ(x:Array Oper) (_:fU Tryz.f188 3=.region 3 x true)=>x) _ (by conv=>lhs;whnf)
noncomputable def jw(k l m i T:Nat)(j:Addr)(n o a b c d e f g h:cq):Act:=
 {tmps:=#[.pointer (some ⟨i,0,none⟩),.pointer (some ⟨k,0,none⟩),.pointer (some ⟨l,0,none⟩),.pointer (some ⟨m,0,none⟩),.pointer (some ⟨T,0,none⟩),.pointer (some j),.agg (jP j),.pointer (some ⟨T,0,none⟩),n,o,a,b,c,d,e,f,g,h],defers:=[dcall 189 #[.pointer (some ⟨i,0,none⟩)]]}
noncomputable def C0(a b c d T:Nat)(e:Addr)(i:Int):Frame:=
 CX.at (jw a b c d T e (.pointer (some ⟨T,0,none⟩)) (.int .i64 i) undef undef undef undef undef undef undef undef) [.inRegion CZ [2],.code (.region 3 eR true)]
def Qz(e:cN)(f:Nat)(q:Addr)(i:Int)(Q:cU)(r:(cN)->cn->cq->Prop):Prop:=
 ∀(d:cN) (w:cn) (T:Nat) (c:Frame) (h:List Frame),Q w->(∀b,d b↔b=T)->w.heap[T]? =some (.cells (jP q) 245)->
  Wy PR 241 f false e (λo g j=>g=G (c.finish undef) h/\o T/\∃t u v x y z A B a l k m n s C,j.heap[T]? =some (.cells #[t,u,v,x,y,z,A,B,.slice a l k,.int .i64 m,.int .i64 n,.bool s] 245 C)/\
   ∀p,dT o e (Lv 241 f) j p->r o p (.agg #[.slice a l k,.int .i64 m,.int .i64 n,.bool s])) d (G (Frame.enter PR 190 #[.pointer (some ⟨T,0,none⟩),.int .i64 i] .normal) (c::h)) w
def rN(b:w.cell? h=some x):h.block<w.heap.size:=by refine xr λa=>?_;have:w.heap[h.block]? =none:=lT a;simp[World.cell?,this]at b
def uV(b:w.cell? h=some x):({w with heap:=w.heap.push O}:cn).cell? h=w.cell? h:=by
 have c:h.block<w.heap.size:=by refine xr λa=>?_;have:w.heap[h.block]? =none:=lT a;simp[World.cell?,this]at b
 have:(w.heap.push O)[h.block]? =w.heap[h.block]? :=by rw[nS];split;omega;rfl
 simp only[World.cell?,this]
def rO(h:Lv m k w):Lv m k ({w with heap:=w.heap.push O}:cn):=by obtain⟨a,b,h⟩:=h;refine⟨a,b,?_⟩;have c:w.heap[k]? =some (wgBlock m a b):=h;show(w.heap.push O)[k]? =_;rw[nS];split;have:=lt_of_heap c;omega;exact c
def OR{y:gW}(z:A m)(B:A k)(E:A i)(C:wD A S)
 (F:∀T,WK PR 241 j false A y (λx=>cL x\/x=T) (λw=>KW m k i j o h I S w/\w.heap[T]? =some (.cells (jP h) 245)/\m<T/\k<T/\i<T/\j<T)
  (G (Frame.enter PR 190 #[.pointer (some ⟨T,0,none⟩),.int .i64 I] .normal) [C0 m k i j T h I,bot])):
 WK PR 241 j false A y cL (KW m k i j o h I S) (born PR (call188 m k i j)):=by
 have c:∀s,nN s A (Lv 241 j) (KW m k i j o h I S):=λ_=>KW.rely z B E C;have t:=λw=>LJ h w;have u:=λw=>I1 h w;refine WK.ctl (c _) rfl (I0 m k i j) ?_;simp only[Bq,Tryz.f188,jI,CY,Array.replicate,List.replicate];refine WK.ctl (c _) rfl (λ_=>cI)<|WK.ctl (c _) rfl (λ_=>gi) ?_;simp only[gK,eI,fB,Nat.reduceAdd,cG,List.range,List.range.loop];refine WK.ctl (c _) rfl (λ_=>stepG_defer rfl rfl (by k_ne) rfl) ?_;walk_nrm;refine WK.ctl (c _) rfl (λ_=>cE)<|WK.ctl (c _) rfl (λ_=>cI)<|WK.ctl (c _) rfl (λ_=>gi) ?_;simp only[gK,eI,fB,Nat.reduceAdd,cG,List.range,List.range.loop];refine WK.load (v:=.pointer (some h)) (c _) rfl rfl (by k_ne) (λw a=>?_) (λw a e g=>?_) ?_;have l:=(λw a=>a.p) w a;go_simp;have l:=(λw a=>a.p) w a;simp[go_sem,l]at g;exact .inl ⟨_,_,g,.inr (.inl ⟨rfl,z⟩)⟩;walk_nrm;refine WK.val (v:=.agg (jP h)) (c _) rfl rfl (by k_ne) (λw=>?_) (λw=>?_) ?_;go_simp;first|rfl|simp only[t]|skip
 simp[go_sem,u];walk_nrm;refine WK.new (f:=λn=>dI n) (ob:=.cells (jP h) 245) (c _) rfl rfl (by k_ne) (λw a=>?_) (λw a e g=>?_) (λT=>?_);go_simp;first|rfl|skip
 simp[go_sem]at g;refine WK.mono (K':=λw=>KW m k i j o h I S w/\sd w T (jP h) 245/\m<T/\k<T/\i<T/\j<T) ?_ ?_;rotate_left;rintro w ⟨r,a,rfl,D⟩;have H:KW m k i j o h I S {r with heap:=r.heap.push (.cells (jP h) 245)}:=by exact⟨by rw[<-a.p];exact uV a.p,by rw[<-a.i];exact uV a.i,by rw[<-a.o];exact uV a.o,rO a.live,C r _ (by simp) (λb L _=>by show(r.heap.push _)[b]? =_;rw[nS];split;omega;rfl) a.q⟩
 obtain⟨M,N,J⟩:=a.live;exact⟨(c _) _ _ D H,D.obj (.inl (.inr rfl)) (by simp),rN a.p,rN a.i,rN a.o,lt_of_heap J⟩;have d:nN (λx=>cL x\/x=T) A (Lv 241 j) (λw=>KW m k i j o h I S w/\sd w T (jP h) 245/\m<T/\k<T/\i<T/\j<T):=HQ (c _) (HQ (OQ (.inl (.inr rfl))) λ_ _ _ K=>K);walk_nrm;refine WK.val (v:=?_) d rfl rfl (by k_ne) (λw=>?_) (λw=>?_) ?_;rotate_left;go_simp;rfl;go_simp;walk_nrm;refine WK.ctl d rfl (λ_=>cE)<|WK.ctl d rfl (λ_=>cI)<|WK.ctl d rfl (λ_=>gi) ?_;simp only[gK,eI,fB,Nat.reduceAdd,cG,List.range,List.range.loop];refine WK.val (v:=?_) d rfl rfl (by k_ne) (λw=>?_) (λw=>?_) ?_;rotate_left;go_simp;rfl;go_simp;walk_nrm;refine WK.load (v:=i64 I) d rfl rfl (by k_ne) (λw a=>?_) (λw a e g=>?_) ?_;have l:=(λw a=>a.1.i) w a;go_simp;have l:=(λw a=>a.1.i) w a;simp[go_sem,l]at g;exact .inl ⟨_,_,g,.inr (.inl ⟨rfl,B⟩)⟩;walk_nrm;refine WK.enter d rfl rfl (by k_ne) rfl Tryz.func190 rfl rfl ?_;simp only[List.map_toArray,lq,vC];exact F T
end Go.Proofs.W
variable{a:Option Go.Addr}{D E:Bool}
namespace Go.Proofs.W
open Go.Conc Go.cP Go.cP.Cr Go.cP.Wg Go.RowKit Go.Conc.Lib Go.ConcR.Gen
open Go.ConcR (KK wgBlock WgAt stA smA mk DC0)
def Cl(d e a b c f:Bool):Prop:=(a=true->e=true)/\(b=true->a=true)/\(c=true->b=true)/\(f=true->c=true/\d=true)
instance (b1 b2 b3 b4 b5 b6:Bool):Decidable (Cl b1 b2 b3 b4 b5 b6):=by unfold Cl;infer_instance
def F5:∀g a b c d e f:Bool,Cl a b c d e f->Region.ready .any eR #[g,a,b,c,d,e,f,false]≠[]:=by decide+kernel
def ct(b:Bool):Nat:=if b then 0 else 1
def Nx(f a b c d e g:Bool)(i:Nat):Prop:=(i=0/\f=false)\/(i=1/\a=false)\/(i=2/\b=false)\/(i=3/\c=false/\b=true)\/(i=4/\d=false/\c=true)\/(i=5/\e=false/\d=true)\/(i=6/\g=false/\e=true/\a=true)\/(i=7/\f=true/\a=true/\b=true/\c=true/\d=true/\e=true/\g=true)
instance (b0 b1 b2 b3 b4 b5 b6:Bool) (i:Nat):Decidable (Nx b0 b1 b2 b3 b4 b5 b6 i):=by unfold Nx;infer_instance
def C1:∀g a b c d e f:Bool,Cl a b c d e f->((Region.ready .any eR #[g,a,b,c,d,e,f,false]).all λi=>decide (Nx g a b c d e f i))=true:=by decide+kernel
def F6{a b c d e:Bool}(h:Cl E a b c d e)(i:Nat)(f:i∈Region.ready .any eR #[D,E,a,b,c,d,e,false]):Nx D E a b c d e i:=by have:=mU.1 (C1 D E a b c d e h) i f;simpa using this
structure K2(pc ic oc Wg Ch T:Nat)(pl:Addr)(i:Int)(Q:cn->Prop)(p0 p1 p2 p3 p4 p5 p6 p7 sa:cq)(m n:Int)(s:Bool)(Sc:cn->cq->Prop)(w:cn):Prop where
 kw:KW pc ic oc Wg Ch pl i Q w
 t:∃fz,w.heap[T]? =some (.cells #[p0,p1,p2,p3,p4,p5,p6,p7,sa,.int .i64 m,.int .i64 n,.bool s] 245 fz)
 sc:Sc w (.agg #[sa,.int .i64 m,.int .i64 n,.bool s])
noncomputable def qL(c d e f g T:Nat)(h:Addr)(i:Int)(a b:cq)(j k l m n o p:Bool):Act:=
 jw c d e f T h (.pointer (some ⟨T,0,none⟩)) (.int .i64 i) undef (if j then .chan (some g)else undef) (if k then .int .i64 i else undef) (if l then .pointer (some ⟨T,0,none⟩)else undef)
  (if m then .pointer (some ⟨T,0,none⟩)else undef) (if n then .pointer (some ⟨T,8,none⟩)else undef) (if o then a else undef) (if p then b else undef)
def xK{a:Array Oper}{fuel t:Nat}{l:Array Bool}(c:Region.ready .any a l≠[]):∃i d,i∈Region.ready .any a l/\Region.linearise.go .any a (fuel+1) t l []=i::Region.linearise.go .any a fuel d (l.setIfInBounds i true) []:=by
 have b:t%(Region.ready .any a l).kq<(Region.ready .any a l).kq:=Nat.mod_lt _ (by cases h:Region.ready .any a l with|nil=>exact absurd h c|cons=>simp);refine⟨(Region.ready .any a l)[t%(Region.ready .any a l).kq],t/(Region.ready .any a l).kq,ef b,?_⟩;simp only[Region.linearise.go];change(match(Region.ready .any a l)[t%(Region.ready .any a l).kq]? with
  |some i=>Region.linearise.go .any a fuel (t/(Region.ready .any a l).kq) (l.setIfInBounds i true) [i]
  |none=>[].reverse)=_
 rw[eV b];simp only;rw[linearise_go_acc];simp
def OS{ag:gW}{Q R T U V:cq}{n:Int}{W:cn->cq->Prop}(h2:A k)(h3:A i)(hT:B p) (g:nN B A (Lv 241 j) (K2 m k i j o p h I S x y z Q R T U V (.slice a s d) J n D W)) (hn:WK PR 241 j false A ag B (K2 m k i j o p h I S x y z Q R T U V (.slice a s d) J n D W) (G (CX.at (qL m k i j o p h I (.agg #[.slice a s d,.int .i64 J,.int .i64 n,.bool D]) (.agg #[.int .i64 I,.slice a s d,.int .i64 J,.int .i64 n,.bool D]) true true true true true true true) [.inRegion eR [7]]) [bot])):∀(fuel:Nat) (r u C E F H l:Bool) (t:Nat),Cl u C E F H l->fuel=1+ct r+ct u+ct C+ct E+ct F+ct H+ct l->WK PR 241 j false A ag B (K2 m k i j o p h I S x y z Q R T U V (.slice a s d) J n D W) (G (CX.at (qL m k i j o p h I (.agg #[.slice a s d,.int .i64 J,.int .i64 n,.bool D]) (.agg #[.int .i64 I,.slice a s d,.int .i64 J,.int .i64 n,.bool D]) r u C E F H l) [.inRegion eR (Region.linearise.go .any eR fuel t #[r,u,C,E,F,H,l,false] [])]) [bot]):=by
 intro fuel;induction fuel with
 |zero=>intro r u C E F H l t b c;omega
 |succ fuel L=>
  intro r u C E F H l t b c;obtain⟨ah,M,hj,e⟩:=xK (fuel:=fuel) (t:=t) (F5 r u C E F H l b);rw[e];rcases F6 b ah hj with⟨rfl,q⟩|⟨rfl,q⟩|⟨rfl,q⟩|⟨rfl,q,N⟩|⟨rfl,q,N⟩|⟨rfl,q,N⟩|⟨rfl,q,N,X⟩|⟨rfl,Y,Z,aa,ab,ac,ad,ae⟩;subst q;refine WK.load (v:=.chan (some o)) g rfl rfl (by k_ne) (λw K=>?_) (λw K e f=>?_) (L true u C E F H l M b (by simp only[ct]at c⊢;simp at c⊢;omega));have b:=K.kw.o;simp only[eR,qL,jw];go_simp;have b:=K.kw.o;simp only[eR,qL,jw]at f;simp[go_sem,b]at f;exact .inl ⟨_,_,f,.inr (.inl ⟨rfl,h3⟩)⟩;subst q;refine WK.load (v:=i64 I) g rfl rfl (by k_ne) (λw K=>?_) (λw K e f=>?_) (L r true C E F H l M ⟨b.1,b.2.1,b.2.2.1,λaf=>⟨(b.2.2.2 af).1,rfl⟩⟩ (by simp only[ct]at c⊢;simp at c⊢;omega));have b:=K.kw.i;simp only[eR,qL,jw];go_simp;have b:=K.kw.i;simp only[eR,qL,jw]at f;simp[go_sem,b]at f;exact .inl ⟨_,_,f,.inr (.inl ⟨rfl,h2⟩)⟩;subst q;refine WK.val (v:=dI p) g rfl rfl (by k_ne) (λw=>?_) (λw=>?_) (L r u true E F H l M ⟨λ_=>rfl,b.2.1,b.2.2⟩ (by simp only[ct]at c⊢;simp at c⊢;omega));simp only[eR,qL,jw];go_simp;simp only[eR,qL,jw];simp[go_sem];subst q N;refine WK.val (v:=dI p) g rfl rfl (by k_ne) (λw=>?_) (λw=>?_) (L r u true true F H l M ⟨λ_=>rfl,λ_=>rfl,b.2.2⟩ (by simp only[ct]at c⊢;simp at c⊢;omega));simp only[eR,qL,jw];go_simp;simp only[eR,qL,jw];simp[go_sem];subst q N;refine WK.val (v:=Ba p 8) g rfl rfl (by k_ne) (λw=>?_) (λw=>?_) (L r u C true true H l M ⟨b.1,λ_=>rfl,λ_=>rfl,b.2.2.2⟩ (by simp only[ct]at c⊢;simp at c⊢;omega));simp only[eR,qL,jw];go_simp;simp only[eR,qL,jw];simp[go_sem];subst q N;refine WK.load (v:=.agg #[.slice a s d,i64 J,i64 n,.bool D]) g rfl rfl (by k_ne) (λw K=>?_) (λw K e f=>?_) (L r u C E true true l M ⟨b.1,b.2.1,λ_=>rfl,λaf=>⟨rfl,(b.2.2.2 af).2⟩⟩ (by simp only[ct]at c⊢;simp at c⊢;omega));obtain⟨fz,b⟩:=K.t;have c8:w.cell? (cY p 8)=some (.slice a s d):=by simp[World.cell?,b]
  have c9:w.cell? (cY p 9)=some (i64 J):=by simp[World.cell?,b]
  have O:w.cell? (cY p 10)=some (i64 n):=by simp[World.cell?,b]
  have P:w.cell? (cY p 11)=some (.bool D):=by simp[World.cell?,b]
  simp only[eR,qL,jw];go_simp;obtain⟨fz,b⟩:=K.t;have c8:w.cell? (cY p 8)=some (.slice a s d):=by simp[World.cell?,b]
  have c9:w.cell? (cY p 9)=some (i64 J):=by simp[World.cell?,b]
  have O:w.cell? (cY p 10)=some (i64 n):=by simp[World.cell?,b]
  have P:w.cell? (cY p 11)=some (.bool D):=by simp[World.cell?,b]
  simp only[eR,qL,jw]at f;simp[go_sem,c8,c9,O,P]at f;rcases f with f|f|f|f<;>exact .inl ⟨_,_,f,.inl hT⟩
  ·subst q N X;refine WK.val (v:=.agg #[i64 I,.slice a s d,i64 J,i64 n,.bool D]) g rfl rfl (by k_ne) (λw=>?_) (λw=>?_) (L r true C E F true true M ⟨b.1,b.2.1,b.2.2.1,λ_=>⟨rfl,rfl⟩⟩ (by simp only[ct]at c⊢;simp at c⊢;omega))
   ·simp only[eR,qL,jw];first|(go_simp;done)|(go_simp;have:=LK I J n D a s d w;rw[this];rfl)
   simp only[eR,qL,jw];have:=I2 I J n D a s d w;simp[go_sem,this]
  subst Y Z aa ab ac ad ae;have:fuel=0:=by simp only[ct]at c;simp at c;omega
  subst this;simpa[Region.linearise.go]using hn
end Go.Proofs.W
variable{F:Go.Frame}
namespace Go.cP.Wg
open Go.Conc Go.ConcN Go.RowKit Go.Conc.Lib Go.ConcR.Gen Go.ConcN.Gen Go.cP
open Go.ConcR (KK wgBlock WgAt stA smA mk Payload DC0)
section
variable{L:WgLink}
def Tl(H:WgLib P L){b qt:Nat}{f:List Frame}(d:F.mode=.returning)(i:QuitsD P qt 0 (G F f))(w:cn)(c:True/\WgLive L.tWg b w):Goes P false (dT Cr.cL Cr.cL (Cr.Lv L.tWg b)) DC0 (Cr.R0 P L.tWg b) 43 (G ((baseD L.done).at ⟨#[.pointer (some ⟨b,0,none⟩),undef,undef,undef],[]⟩ [.code (body_done L)]) (F::f)) w:=by have e:∀{w a:cn},True/\WgLive L.tWg b w->dT Cr.cL Cr.cL (Cr.Lv L.tWg b) w a->True/\WgLive L.tWg b a:=λh r=>⟨trivial,r.live h.2⟩;lib_facts;have g:=@OO L;simp only[body_done,body_add,doneFn,addFn,jI,Nat.reduceSub,Array.replicate,List.replicate,List.append_toArray,qx,sr]at g⊢;u_reg e c;u_op e c;u_in e c;refine goes_call rfl rfl (by k_ne) rfl H.f_add (nm_add L) rfl ⟨⟨rfl,rfl⟩,?_⟩;walk_nrmf addFn;refine g H (qt:=qt+3) ?_ _ c;q_c cE;q_c stepG_end;exact QuitsD.leaveD rfl rfl H.f_done rfl d i
end
end Go.cP.Wg
variable{Z:cx}
namespace Go.Proofs.W
open Go.Conc Go.cP Go.cP.Cr Go.cP.Wg Go.RowKit Go.Conc.Lib Go.ConcR.Gen
open Go.ConcR (KK wgBlock WgAt stA smA mk DC0)
def LL{a:dw->cq}{o:Oper}{b y:dw}(c:o.op=.send b y)(d:a b=.chan (some m))(e:a y=x)(w:cn):(execOp a o).run PR w=.ok (.comm #[scase m x undef] true .send) w:=by simp only[execOp,c,d,e];simp;rfl
def C2{Ch:Nat}{v:cq}{a:dw->cq}{o:Oper}{x y:dw}(b:o.op=.send x y)(c:a x=.chan (some Ch))(d:a y=v)(w:cn):(execOp a o).events PR w #[]=#[]:=by simp only[execOp,b,c,d];simp
def xL{R:cn->cU}{S:cx->cU}{K:cU}(d:∀{w a:cn},K w->R w a->K a){b:cx}(e:Z.status=.running)(f:∀w,stepG PR false Z w=.go b w #[]) (h:∀w,K w->Goes PR false R DC0 S m b w):∀w,K w->Goes PR false R DC0 S (m+1) Z w:=by intro w g;refine .inr ⟨e,λc i=>?_⟩;rw[f c];exact⟨⟨rfl,rfl⟩,h c (d g i)⟩
def xM{b:Func}(f:dH)(c:PR.funcs[f]? =some b)(a:b.results=#[])(d:dU)(e:List Item):QuitsD PR 2 0 (G {(baseD f).at ⟨d,[]⟩ e with mode:=.returning} [bot]):=by refine .inr ⟨rfl,G bot [],#[],by simp,λw=>?_,.inr ⟨rfl,{G bot []with status:=.finished},#[],by simp,λw=>?_,⟨rfl,rfl⟩⟩⟩;simp[G,stepG,unwind,doReturn,Frame.at,baseD,c,results,a,bot,goexitEntry,seen,GStep.after,lB];simp[G,stepG,unwind,bot,goexitEntry,Frame.catches];rfl
def F7:∀(w:cn),Lv 241 j w->Goes PR false (dT cL cL (Lv 241 j)) DC0 (R0 PR 241 j) 46 (G (CX.at (qL m k i j o p h I x y true true true true true true true) [.inRegion eR []]) [bot]) w:=by have b:∀{w a:cn},Lv 241 j w->dT cL cL (Lv 241 j) w a->Lv 241 j a:=λc r=>r.live c;refine xL (K:=Lv 241 j) b rfl (λ_=>cE)<|xL (K:=Lv 241 j) b rfl (λ_=>stepG_end)<|xL (K:=Lv 241 j) b rfl (λ_=>stepG_unwind_enter rfl Tryz.func189 rfl rfl) ?_;intro w d;exact Tl (L:=Tryz.link) Tryz.vI (qt:=2) rfl (xM 188 Tryz.func188 rfl _ _) w ⟨trivial,d⟩
def OT{i d f c Ch T u:Nat}{o p q r s:cq}{n:Int}{Sc:cn->cq->Prop}{l:Nat->cq->(cN)->cU}(E:A d)(F:A f)(H:B T) (g:nN B A (Lv 241 c) (K2 i d f c Ch T h I S x y z o p q r s (.slice a m k) J n D Sc)) (K:∀w,K2 i d f c Ch T h I S x y z o p q r s (.slice a m k) J n D Sc w->l u (.agg #[.int .i64 I,.slice a m k,.int .i64 J,.int .i64 n,.bool D]) B w):WK PR 241 c false A (Sends PR 241 c Ch l u) B (K2 i d f c Ch T h I S x y z o p q r s (.slice a m k) J n D Sc) (G ((C0 i d f c T h I).finish undef) [bot]):=by
 have e:(C0 i d f c T h I).finish fR=CX.at (jw i d f c T h (dI T) (i64 I) fR fR fR fR fR fR fR fR) [.inRegion CZ [],.code (.region 3 eR true)]:=by unfold C0;rw[Frame.finish_at];rfl
 rw[e];refine WK.ctl (g':=G (CX.at (jw i d f c T h (dI T) (i64 I) fR fR fR fR fR fR fR fR) [.code (.region 3 eR true)]) [bot]) g rfl (λ_=>cE) ?_;intro w L;refine kT rfl λC M=>⟨_,_,_,B,stepG_region_draw,⟨rfl,rfl,rfl,cJ _,λb=>⟨.inl,λj=>j.elim id λj=>absurd j.2 (Nat.not_lt.2 j.1)⟩,λ_ _ _=>rfl,λe N=>by simp at N⟩,?_⟩;have t:K2 i d f c Ch T h I S x y z o p q r s (.slice a m k) J n D Sc {C with drawn:=C.drawn+1}:=(g w _ (M.trans ⟨rfl,rfl,rfl,cJ _,λ_ _ _=>rfl,λj=>j⟩) L);have O:PR.follows .mixedOrders=true:=by kernel_rfl
 simp only[Region.schedule,O,Bool.true_or,dF];refine OS E F H g ?_ 8 false false false false false false false _ (by decide) rfl _ t;refine WK.stop g λw t=>⟨.agg #[i64 I,.slice a m k,i64 J,i64 n,.bool D],undef,rfl,λw=>?_,K w t,46,?_⟩;refine(stepG_comm rfl rfl (by k_ne) (LL rfl rfl rfl w)).trans ?_;unfold listed;rw[C2 (v:=.agg #[i64 I,.slice a m k,i64 J,i64 n,.bool D]) (Ch:=Ch) rfl rfl rfl w,seen_none];rfl;exact F7 w t.kw.live
def gA{w w':cn}{ad:Addr}(h:w'.heap[ad.block]? =w.heap[ad.block]?):w'.cell? ad=w.cell? ad:=by unfold World.cell?;rw[h]
def worker{Q:cU}{rd:cN}{Sc:(cN)->cn->cq->Prop}{val:Nat->cq->(cN)->cU}(C:rd m)(r:rd i)(z:rd j)(M:wD rd Q)(N:Qz rd o h I Q Sc) (O:∀u w a l c D n s,Sc u w (.agg #[.slice a l c,.int .i64 D,.int .i64 n,.bool s])->val k (.agg #[.int .i64 I,.slice a l c,.int .i64 D,.int .i64 n,.bool s]) u w):WK PR 241 o false rd (Sends PR 241 o p val k) cL (KW m i j o p h I Q) (born PR (call188 m i j o)):=by refine OR C r z M λT=>?_;rintro w ⟨f,P,U,V,W,X⟩;have e:=N (λx=>cL x\/x=T) w T (C0 m i j o T h I) [bot] f.q (λb=>⟨λd=>d.elim (λd=>d.elim) id,.inr⟩) P;have e:=Wy.keep (B:=λb=>b=m\/b=i\/b=j) (by rintro b (rfl|rfl|rfl);exact⟨C,λd=>d.elim (λd=>d.elim) (λd=>by omega),rN f.p⟩;exact⟨r,λd=>d.elim (λd=>d.elim) (λd=>by omega),rN f.i⟩;exact⟨z,λd=>d.elim (λd=>d.elim) (λd=>by omega),rN f.o⟩) e;have e:=Wy.Tk (λd=>d.elim (λd=>d.elim) (λd=>by omega)) f.live e;refine e.bind ?_;rintro u g K ⟨⟨⟨rfl,y,Y,Z,p2,p3,p4,p5,p6,p7,a,l,cc,D,n,s,L,E,F⟩,G⟩,R⟩;have H:KW m i j o p h I (λ_=>True) K:=⟨(gA (G m (.inl rfl))).trans f.p,(gA (G i (.inr (.inl rfl)))).trans f.i,(gA (G j (.inr (.inr rfl)))).trans f.o,R,trivial⟩;refine OT (T:=T) (Sc:=λw v=>∀A,dT u rd (Lv 241 o) w A->Sc u A v) r z y (λw A J d=>⟨KW.rely C r z (λ_ _ _ _ d=>d) w A J d.kw,d.t.imp λL d=>J.obj (.inl y) d,λS r=>d.sc S (J.trans r)⟩) (λw d=>O _ _ _ _ _ _ _ _ (d.sc w (.refl _ _ _ _))) K ⟨H,⟨L,E⟩,F⟩
end Go.Proofs.W
namespace Go.cP.Cr
open Go.Conc Go.cP Go.cP.Kn Go.cP.Wg
open Go.ConcR (KK wgBlock WgAt stA smA mk DC0)
section
variable{P:cA}{own:Nat->Prop}{ty:cw}{Wg Ch:Nat}{rc:Nat->Prop}{qG Fin:cx->cn->Prop}
def xN(q:∀g w,qG g w->∃k,Goes P false (dT own rc (Lv ty Wg)) DC0 (VY P false (dT own rc (Lv ty Wg)) Wg ty qG Fin) k g w)
 (r:∀g w,Fin g w->Wy P ty Wg false rc (Sv P Ch) own g w):Anchor P ty Wg Ch rc λo g w=>o=own/\qG g w:=by
 have f:∀{k:Nat} {g:cx} {w:cn},Goes P false (dT own rc (Lv ty Wg)) DC0 (UU P false (dT own rc (Lv ty Wg)) Wg Fin) k g w->Wy P ty Wg false rc (T9 P ty Wg Ch rc) own g w:=λh=>
  je h λg w h=>pA (λh=>je h λg w h=>pA (λh=>tQ h r) h) h
 refine⟨λo g w ⟨s,j⟩=>?_⟩;subst s;obtain⟨k,a⟩:=q g w j;refine je a λg w ⟨c,d⟩=>⟨c,λv t i=>?_⟩;obtain⟨b,e,j,u⟩:=d v t i;refine⟨b,e,λl=>?_,λl=>?_⟩;obtain⟨k,a⟩:=j l;exact f a;obtain⟨k,a⟩:=u l;refine je a λg w ⟨c,d⟩=>⟨c,λx m n=>?_⟩;obtain⟨y,z⟩:=d x m n;refine⟨λe=>?_,λe=>?_⟩;obtain⟨b,p,k,a⟩:=y e;refine⟨b,p,je a λg w h=>pA (λh=>je h λg w ⟨c,d,A,B⟩=>⟨c,d,A,λi=>?_⟩) h⟩;obtain⟨b,e,k,a⟩:=B i;refine⟨b,e,je a λg w ⟨c,d⟩=>⟨c,λi=>?_⟩⟩;obtain⟨b,e,k,a⟩:=d i;exact⟨b,e,f a⟩;obtain⟨b,p,k,a⟩:=z e;exact⟨b,p,je a λg w h=>⟨rfl,h⟩⟩
def C3{m:Nat}{g:cx}{w:cn}(h:Goes P false (dT own rc (Lv ty Wg)) DC0 (An P false (dT own rc (Lv ty Wg)) .disable qG) m g w):
 Wy P ty Wg false rc (Ua P ty Wg rc λo g w=>o=own/\qG g w) own g w:=
 je h λg w h=>pA (λh=>je h λg w h=>⟨rfl,h⟩) h
end
end Go.cP.Cr
namespace Go.Proofs.W
open Go.Conc Go.cP Go.cP.Cr Go.cP.Wg Go.RowKit Go.Conc.Lib Go.ConcR.Gen
open Go.ConcN Go.ConcN.Gen
open Go.ConcR (KK wgBlock WgAt stA smA mk DC0)
noncomputable def C4:Frame:=baseD 191
noncomputable def call191(a b:Nat):Deferred:={target:=.fn (.func 191) #[.pointer (some ⟨b,0,none⟩),.pointer (some ⟨a,0,none⟩)],args:=#[]}
noncomputable def Bs:Code:=Tryz.f191.body.getD .skip
def OU(a b:Nat)(w:cn):stepG PR false (born PR (call191 a b)) w=.go (G (C4.at ⟨#[.pointer (some ⟨b,0,none⟩),.pointer (some ⟨a,0,none⟩),undef,undef],[]⟩ [.code Bs]) [bot]) w #[]:=by simp[born,call191,stepG,unwind,callDeferred,invoke,callFunc,Tryz.func191,Tryz.f191,seen,GStep.after,G,Frame.enter,Frame.at,C4,baseD,bot,Bs]
structure KC(oc Wg Ch:Nat)(w:cn):Prop where
 o:w.cell? ⟨oc,0,none⟩=some (.chan (some Ch))
 live:Lv 241 Wg w
def KC.rely{own rd:cN}(b:rd m):nN own rd (Lv 241 k) (KC m k i):=λ_ _ a h=>⟨a.cell (.inr b) h.o,a.live h.live⟩
noncomputable def qM:Array Oper:=#[{dst:=some 2,op:=Op.call {callee:=Callee.value (Operand.func 192),args:=#[Operand.tmp 0],argTypes:=#[241]},type:=0,pos:= "plan.go:152",after:=#[],guard:=none}]
noncomputable def nt:Array Oper:=#[{dst:=some 3,op:=Op.load 232 (Operand.tmp 1),type:=232,pos:= "plan.go:153",after:=#[],guard:=none},{dst:=none,op:=Op.call {callee:=Callee.builtin Builtin.close,args:=#[Operand.tmp 3],argTypes:=#[232]},type:=0,pos:= "plan.go:153",after:=#[{on:=0,ground:=Ground.data}],guard:=none}]
noncomputable def nu(a b:Nat)(c d:cq):Act:=⟨#[.pointer (some ⟨b,0,none⟩),.pointer (some ⟨a,0,none⟩),c,d],[]⟩
def F8(f:A m):WK PR 241 k false A (Sv PR i) cL (KC m k i) (G (C4.at (nu m k (.tuple #[]) undef) [.inRegion qM [],.code (.region 1 nt false)]) [bot]):=by have a:nN cL A (Lv 241 k) (KC m k i):=KC.rely f;refine WK.ctl a rfl (λ_=>cE)<|WK.ctl a rfl (λ_=>gi) ?_;simp only[gK,eI,fB,Nat.reduceAdd,cG,List.range,List.range.loop];simp only[nt,nu];refine WK.load (v:=.chan (some i)) a rfl rfl (by k_ne) (λw b=>?_) (λw b e g=>?_) ?_;have d:=(λw b=>b.o) w b;go_simp;have d:=(λw b=>b.o) w b;simp[go_sem,d]at g;exact .inl ⟨_,_,g,.inr (.inl ⟨rfl,f⟩)⟩;walk_nrm;refine WK.stop a λw b=>⟨rfl,?_,G (C4.at (nu m k (.tuple #[]) (.chan (some i))) [.inRegion nt []]) [bot],rfl,λs r d=>?_,5,?_⟩;rfl;rw[stepG_close (c:=i) rfl rfl (by k_ne) rfl rfl d (by kernel_rfl)];rfl;exact lE (n:=4) (by omega)<| .ctl rfl (λ_=>cE)<| .ctl rfl (λ_=>stepG_end)<|xM 191 Tryz.func191 rfl _ _
def closer{b Wg d:Nat}{rd:cN}(m:rd b)(n:b≠Wg)(w:cn)(l:KC b Wg d w):Lk PR 241 Wg d rd cL (born PR (call191 b Wg)) w:=by
 have i:nN cL rd (Lv 241 Wg) (KC b Wg d):=KC.rely m;have p:∀{w e:cn},(w.cell? (cY b 0)=some (.chan (some d)))/\WgLive Tryz.link.tWg Wg w->dT cL rd (Lv 241 Wg) w e->(e.cell? (cY b 0)=some (.chan (some d)))/\WgLive Tryz.link.tWg Wg e:=λh r=>⟨r.cell (.inr m) h.1,r.live h.2⟩;have j:∀(w:cn) (a:Addr) (x:cq),a.block=Wg->w.cell? (cY b 0)=some (.chan (some d))->(w.setCell a x).cell? (cY b 0)=some (.chan (some d)):=by intro w a x q h;rw[gA];exact h;exact Below.heap_setCell w a x b (by rw[q];exact n)
 have s:=λ(g:cx) (w:cn)=>F3 (L:=Tryz.link) (main:=false) (R:=dT cL rd (Lv 241 Wg)) (Wg:=Wg) (F:=λw=>w.cell? (cY b 0)=some (.chan (some d)))
  (b₀:=C4) (a₀:=nu b Wg fR fR) (ops₀:=qM) (i₀:=0) (rest₀:=[]) (k₀:=[.code (.region 1 nt false)]) (cs:=[bot]) Tryz.vI p (λw x h=>j w _ x rfl h) (λw x h=>j w _ x rfl h) rfl g w
 refine⟨_,xN s ?_,?_⟩;rintro g w ⟨rfl,t,u⟩;exact F8 m w ⟨t,u⟩;suffices h:WK PR 241 Wg false rd (Ua PR 241 Wg rd λo g w=>o=cL/\AnchWN Tryz.link (λw=>w.cell? (cY b 0)=some (.chan (some d))) Wg (C4.at (nu b Wg fR fR) [.inRegion qM [0],.code (.region 1 nt false)]) [bot] g w) cL (KC b Wg d) (born PR (call191 b Wg))from h w l;refine WK.ctl i rfl (OU b Wg) ?_;simp only[Bs,Tryz.f191,jI];refine WK.ctl i rfl (λ_=>cI)<|WK.ctl i rfl (λ_=>gi) ?_;simp only[gK,eI,fB,Nat.reduceAdd,cG,List.range,List.range.loop];refine WK.enter (f:=Tryz.link.wait) (fn:=waitFn Tryz.link) (c:=body_wait Tryz.link) i rfl rfl (by k_ne) rfl Tryz.vI.f_wait (nm_wait Tryz.link) (by kernel_rfl) ?_;intro w l;rw[enter_at (fn:=waitFn Tryz.link) (c:=body_wait Tryz.link) _ Tryz.vI.f_wait (by kernel_rfl)]
 have v:=F2 (L:=Tryz.link) (main:=false) (R:=dT cL rd (Lv 241 Wg)) (Wg:=Wg) (F:=λw=>w.cell? (cY b 0)=some (.chan (some d)))
  (b₀:=C4) (a₀:=nu b Wg fR fR) (ops₀:=qM) (i₀:=0) (rest₀:=[]) (k₀:=[.code (.region 1 nt false)]) (cs:=[bot]) Tryz.vI p w ⟨l.o,l.live⟩
 obtain⟨k,y⟩:=v;have z:=C3 y;have A:Array.map (nu b Wg fR fR).eval #[Operand.tmp 0]=#[Value.pointer (Bb Wg 0)]:=by simp[nu,Act.eval]
 change Wy PR 241 Wg false rd _ cL (G ((base Tryz.link.wait).at {tmps:=Array.map (nu b Wg fR fR).eval #[Operand.tmp 0]++Array.replicate ((waitFn Tryz.link).ntmps-(Array.map (nu b Wg fR fR).eval #[Operand.tmp 0]).size) fR,defers:=[]} [.code (body_wait Tryz.link)]) (C4.at (nu b Wg fR fR) [.inRegion qM [0],.code (.region 1 nt false)]::[bot])) w;rw[A];exact z
noncomputable def xO:Array Oper:=(λ(x:Array Oper) (_:fU Tryz.f163 0=.region 0 x false)=>x) _ (by conv=>lhs;whnf)
noncomputable def xP:Array Oper:=(λ(x:Array Oper) (_:fU Tryz.f163 1=.region 1 x false)=>x) _ (by conv=>lhs;whnf)
noncomputable def C5:Array Oper:=(λ(x:Array Oper) (_:fU Tryz.f163 2=.region 2 x false)=>x) _ (by conv=>lhs;whnf)
noncomputable def C6:Array Oper:=(λ(x:Array Oper) (_:fU Tryz.f163 3=.region 3 x false)=>x) _ (by conv=>lhs;whnf)
noncomputable def C7:Array Oper:=(λ(x:Array Oper) (_:fU Tryz.f163 4=.region 4 x false)=>x) _ (by conv=>lhs;whnf)
noncomputable def C8:Array Oper:=(λ(x:Array Oper) (_:fU Tryz.f163 5=.region 5 x false)=>x) _ (by conv=>lhs;whnf)
noncomputable def xQ:Array Oper:=(λ(x:Array Oper) (_:fU Tryz.f163 6=.region 6 x false)=>x) _ (by conv=>lhs;whnf)
noncomputable def C9:Array Oper:=(λ(x:Array Oper) (_:fU Tryz.f163 7=.region 7 x false)=>x) _ (by conv=>lhs;whnf)
noncomputable def qN:Array Oper:=(λ(x:Array Oper) (_:fU Tryz.f163 8=.region 8 x false)=>x) _ (by conv=>lhs;whnf)
noncomputable def nv:Array Oper:=(λ(x:Array Oper) (_:fU Tryz.f163 9=.region 9 x false)=>x) _ (by conv=>lhs;whnf)
noncomputable def lF:Array Oper:=(λ(x:Array Oper) (_:fU Tryz.f163 10=.region 10 x false)=>x) _ (by conv=>lhs;whnf)
noncomputable def rP:Array Oper:=(λ(x:Array Oper) (_:fU Tryz.f163 11=.region 11 x false)=>x) _ (by conv=>lhs;whnf)
noncomputable def mM:Array Oper:=(λ(x:Array Oper) (_:fU Tryz.f163 12=.region 12 x false)=>x) _ (by conv=>lhs;whnf)
noncomputable def uW:Array Oper:=(λ(x:Array Oper) (_:fU Tryz.f163 13=.region 13 x false)=>x) _ (by conv=>lhs;whnf)
noncomputable def lG:Array Oper:=(λ(x:Array Oper) (_:fU Tryz.f163 14=.region 14 x false)=>x) _ (by conv=>lhs;whnf)
noncomputable def uX:Array Oper:=(λ(x:Array Oper) (_:fU Tryz.f163 15=.region 15 x false)=>x) _ (by conv=>lhs;whnf)
noncomputable def uY:Array Oper:=(λ(x:Array Oper) (_:fU Tryz.f163 16=.region 16 x false)=>x) _ (by conv=>lhs;whnf)
noncomputable def Ao:Array Oper:=(λ(x:Array Oper) (_:fU Tryz.f163 17=.region 17 x false)=>x) _ (by conv=>lhs;whnf)
noncomputable def fI:Code:=(Go.Code.region 6 xQ false).seq ((Go.Code.cond (Go.Operand.tmp 24) Go.Code.skip (Go.Code.exit 0)).seq ((Go.Code.block 1 ((Go.Code.region 7 C9 false).seq ((Go.Code.region 8 qN false).seq (Go.Code.region 9 nv false)))).seq (Go.Code.region 10 lF false)))
noncomputable def n4:Code:=(Go.Code.region 14 lG false).seq ((Go.Code.cond (Go.Operand.tmp 40) Go.Code.skip (Go.Code.exit 2)).seq (Go.Code.block 3 ((Go.Code.region 15 uX false).seq (Go.Code.region 16 uY false))))
noncomputable def kU:Code:=(Go.Code.region 17 Ao false).seq Go.Code.ret
noncomputable def iM:Code:=(Go.Code.region 11 rP false).seq ((Go.Code.region 12 mM false).seq (((Go.Code.region 13 uW false).seq (Go.Code.block 2 n4.loop)).seq kU))
noncomputable def tR:Code:=(Go.Code.region 0 xO false).seq (((Go.Code.region 1 xP false).seq (Go.Code.cond (Go.Operand.tmp 13) ((Go.Code.region 2 C5 false).seq Go.Code.ret) Go.Code.skip)).seq ((Go.Code.region 3 C6 false).seq ((Go.Code.region 4 C7 false).seq (((Go.Code.region 5 C8 false).seq (Go.Code.block 0 fI.loop)).seq iM))))
def xR:Tryz.f163.body=some tR:=by kernel_rfl
noncomputable def kD:Frame:=base 163
structure qO where
 (x0 x2 x8 x9 VZ V0 V1 V2 V3 V4 V5 V6 V7 V8 V9 Wa:cq)
noncomputable def mD(e:qO)(pc oc Wg n i:Nat)(g a b c d f:cq):Act:=
 ⟨#[e.x0,.pointer (some ⟨pc,0,none⟩),e.x2,.pointer (some ⟨oc,0,none⟩),.pointer (some ⟨Wg,0,none⟩),g,undef,undef,e.x8,e.x9,e.VZ,e.V0,e.V1,e.V2,e.V3,e.V4,e.V5,e.V6,e.V7,e.V8,e.V9,e.Wa,.int .i64 n,.int .i64 i,a,b,c,d,f,undef,undef,undef,undef,undef,undef,undef,undef,undef,undef,undef,undef,undef,undef,undef,undef,undef,undef,undef,undef,undef,undef,undef],[]⟩
structure OV(pc oc Wg Ch:Nat)(pl:Addr)(rd:Nat->Prop)(Q:cn->Prop)(w:cn):Prop where
 p:w.cell? ⟨pc,0,none⟩=some (.pointer (some pl))
 o:w.cell? ⟨oc,0,none⟩=some (.chan (some Ch))
 r:∀b,rd b->b<w.heap.size
 q:Q w
def qP(rd:cN)(Q:cU):Prop:=∀w a:cn,(∀b,rd b->a.heap[b]? =w.heap[b]?)->Q w->Q a
structure KS(pc oc Wg Ch:Nat)(pl:Addr)(rd:Nat->Prop)(Q:cn->Prop)(w:cn):Prop where
 k:OV pc oc Wg Ch pl rd Q w
 live:Lv 241 Wg w
section
variable{pc oc Wg Ch:Nat}{pl:Addr}{Q:cn->Prop}{own rd:Nat->Prop}
def OV.same{w w':cn}(h:OV pc oc Wg Ch pl rd Q w)(c:rd pc)(d:rd oc)(e:qP rd Q)(f:w.heap.size<=w'.heap.size)(a:∀b,rd b->w'.heap[b]? =w.heap[b]?):OV pc oc Wg Ch pl rd Q w':=
 ⟨(gA (a pc c)).trans h.p,(gA (a oc d)).trans h.o,λb g=>dE (h.r b g) f,e w w' a h.q⟩
def OV.rely{L:cU}(d:rd pc)(e:rd oc)(f:qP rd Q):nN own rd L (OV pc oc Wg Ch pl rd Q):=
 λ_ _ a h=>h.same d e f a.size λb c=>a.heap b (h.r b c) (.inr c)
theorem KS.rely(b:rd pc)(c:rd oc)(d:qP rd Q):nN own rd (Lv 241 Wg) (KS pc oc Wg Ch pl rd Q):=
 λw e a h=>⟨OV.rely b c d w e a h.k,a.live h.live⟩
end
def F9{e:qO}{pc oc Wg Ch n:Nat}{pl:Addr}{Q:cU}{rd:cN}{S:gW}{f:List Frame}(g:rd pc)(h:rd oc)(i:qP rd Q){b c d:cq} (j:∀y,WK PR 241 Wg true rd S cL (KS pc oc Wg Ch pl rd Q) (G (kD.at (mD e pc oc Wg n n x y z b c d) [.code iM]) f)):WK PR 241 Wg true rd S cL (KS pc oc Wg Ch pl rd Q) (G (kD.at (mD e pc oc Wg n n x y z b c d) [.code fI,.inLoop fI,.inBlock 0,.code iM]) f):=by have a:nN cL rd (Lv 241 Wg) (KS pc oc Wg Ch pl rd Q):=KS.rely g h i;refine WK.ctl a rfl (λ_=>cI)<|WK.ctl a rfl (λ_=>gi) ?_;simp only[xQ,mD,gK,eI,fB,Nat.reduceAdd,cG,List.range,List.range.loop];refine WK.val (v:=.bool false) a rfl rfl (by k_ne) (λw=>?_) (λw=>?_) ?_;go_simp;simp[go_sem];walk_nrm;exact WK.ctl a rfl (λ_=>cE)<|WK.ctl a rfl (λ_=>cI)<|WK.ctl a rfl (λ_=>stepG_cond (t:=false) rfl)<|WK.ctl a rfl (λ_=>stepG_exit rfl)<|j (.bool false)
def sY{w:cn}{a:Addr}{c Wg:Nat}(h:Wg≠a.block)(b:Lv c Wg w):Lv c Wg (w.setCell a x):=by obtain⟨d,e,b⟩:=b;exact⟨d,e,(eA w a x Wg h).trans b⟩
structure SA(pc oc Wg Ch ic:Nat)(pl:Addr)(rd:Nat->Prop)(Q:cn->Prop)(v:Int)(w:cn):Prop where
 s:OV pc oc Wg Ch pl rd Q w
 i:w.heap[ic]? =some (.cells #[.int .i64 v] 3)
 lr:∀b,rd b->b<ic
 lw:Wg<ic
structure KI(pc oc Wg Ch ic:Nat)(pl:Addr)(rd:Nat->Prop)(Q:cn->Prop)(v:Int)(w:cn):Prop where
 k:SA pc oc Wg Ch ic pl rd Q v w
 live:Lv 241 Wg w
section
variable{pc oc Wg Ch ic:Nat}{pl:Addr}{Q:cn->Prop}{own rd:Nat->Prop}{v:Int}
theorem SA.rely{L:cU}(b:rd pc)(c:rd oc)(d:own ic)(e:qP rd Q):nN own rd L (SA pc oc Wg Ch ic pl rd Q v):=
 λw f a h=>⟨OV.rely b c e w f a h.s,a.obj (.inl d) h.i,h.lr,h.lw⟩
theorem KI.rely(b:rd pc)(c:rd oc)(d:own ic)(e:qP rd Q):nN own rd (Lv 241 Wg) (KI pc oc Wg Ch ic pl rd Q v):=
 λw f a h=>⟨SA.rely b c d e w f a h.k,a.live h.live⟩
end
def Bt{a:dw->cq}{o:Oper}{x:dw}{f:dH}{cs:dU}(b:o.op=.go {callee:=.value x,args:=#[],argTypes:=#[]})(c:a x=.func (.func f) #[] cs)(w:cn):(execOp a o).run PR w=.ok (.spawn {target:=.fn (.func f) cs,args:=#[]}) w/\(execOp a o).events PR w #[]=#[]:=by constructor;simp[execOp,b,c,resolve,Deferred.ofValue];simp[execOp,b,c,resolve,Deferred.ofValue]
def Ga{e:qO}{pc oc Wg Ch n i:Nat}{pl:Addr}{Q:cU}{rd:cN}{val:Nat->cq->(cN)->cU}{S:gW}{cs:List Frame}(I:i<n)(O:n<2^62)(l:rd pc)(u:rd oc)(J:¬rd Wg)(y:qP rd Q){x5 x24 x25 x26 x27 x28:cq}
 (z:∀ic w,KW pc ic oc Wg Ch pl i (λw=>Q w/\∀b,rd b->b<w.heap.size) w->Wy PR 241 Wg false (λb=>rd b\/b=ic) (Sends PR 241 Wg Ch val i) cL (born PR (call188 pc ic oc Wg)) w)
 (A:∀x5 x24 x25 x26 x27 x28,WK PR 241 Wg true rd S cL (KS pc oc Wg Ch pl rd Q) (G (kD.at (mD e pc oc Wg n (i+1) x5 x24 x25 x26 x27 x28) [.code fI,.inLoop fI,.inBlock 0,.code iM]) cs)):WK PR 241 Wg true rd (Tc PR 241 Wg Ch rd val i (Wy PR 241 Wg true rd S)) cL (KS pc oc Wg Ch pl rd Q) (G (kD.at (mD e pc oc Wg n i x5 x24 x25 x26 x27 x28) [.code fI,.inLoop fI,.inBlock 0,.code iM]) cs):=by
 have a:nN cL rd (Lv 241 Wg) (KS pc oc Wg Ch pl rd Q):=KS.rely l u y;refine WK.ctl a rfl (λ_=>cI)<|WK.ctl a rfl (λ_=>gi) ?_;simp only[xQ,mD,gK,eI,fB,Nat.reduceAdd,cG,List.range,List.range.loop];refine WK.val (v:=.bool true) a rfl rfl (by k_ne) (λw=>?_) (λw=>?_) ?_
 ·go_simp;first|done|simp[I]
 simp[go_sem];walk_nrm;refine WK.ctl a rfl (λ_=>cE)<|WK.ctl a rfl (λ_=>cI)<|WK.ctl a rfl (λ_=>stepG_cond (t:=true) rfl) ?_;simp only[dF];refine WK.ctl a rfl (λ_=>eJ)<|WK.ctl a rfl (λ_=>cI)<|WK.ctl a rfl (λ_=>qz)<|WK.ctl a rfl (λ_=>cI)<|WK.ctl a rfl (λ_=>gi) ?_;simp only[C9,gK,eI,fB,Nat.reduceAdd,cG,List.range,List.range.loop];refine WK.val (v:=?_) a rfl rfl (by k_ne) (λw=>?_) (λw=>?_) ?_;rotate_left;go_simp;rfl;go_simp;walk_nrm;refine WK.new (f:=λn=>dI n) (ob:=.cells #[i64 0] 3) a rfl rfl (by k_ne) (λw d=>?_) (λw d e C=>?_) (λic=>?_);go_simp;first|rfl|skip
 simp[go_sem]at C;refine WK.mono (K':=KI pc oc Wg Ch ic pl rd Q 0) ?_ ?_;rotate_left;rintro w ⟨D,d,rfl,K⟩;obtain⟨Z,sm,U⟩:=d.live;have M:KI pc oc Wg Ch D.me pl rd Q 0 {D with heap:=D.heap.push (.cells #[i64 0] 3)}:=⟨⟨d.k.same l u y (by simp) λb B=>by have:=d.k.r b B;show(D.heap.push _)[b]? =_;rw[nS];split;omega;rfl,by simp,d.k.r,lt_of_heap U⟩,rO d.live⟩;exact KI.rely l u (.inr rfl) y _ _ K M;have E:nN (λx=>cL x\/x=ic) rd (Lv 241 Wg) (KI pc oc Wg Ch ic pl rd Q 0):=KI.rely l u (.inr rfl) y;walk_nrm;refine WK.store (ad:=(cY ic 0)) (x:=i64 i) E rfl rfl (by k_ne) (.inr rfl) (λw d=>?_) (λw d e C=>?_) ?_;have H:w.cell? (cY ic 0)=some (i64 0):=by simp[World.cell?,d.k.i]
 have P:w.frozen? (cY ic 0)=false:=by simp[World.frozen?,d.k.i]
 go_simp;have H:w.cell? (cY ic 0)=some (i64 0):=by simp[World.cell?,d.k.i]
 have P:w.frozen? (cY ic 0)=false:=by simp[World.frozen?,d.k.i]
 simp[go_sem,H,P]at C;exact .inl ⟨_,_,C,.inl (.inr rfl)⟩;refine WK.mono (K':=KI pc oc Wg Ch ic pl rd Q i) ?_ ?_;rotate_left;rintro w ⟨D,d,K⟩
 have M:KI pc oc Wg Ch ic pl rd Q i (D.setCell (cY ic 0) (i64 i)):=⟨⟨d.k.s.same l u y (by simp[World.setCell]) λb B=>eA _ _ _ _ (by have:=d.k.lr b B;simp;omega),
  by simp[World.setCell,mR,d.k.i],d.k.lr,d.k.lw⟩,sY (by have:=d.k.lw;simp;omega) d.live⟩
 exact KI.rely l u (.inr rfl) y _ _ K M;have j:nN (λx=>cL x\/x=ic) rd (Lv 241 Wg) (KI pc oc Wg Ch ic pl rd Q i):=KI.rely l u (.inr rfl) y;refine WK.ctl j rfl (λ_=>cE)<|WK.ctl j rfl (λ_=>cI)<|WK.ctl j rfl (λ_=>gi) ?_;simp only[qN,gK,eI,fB,Nat.reduceAdd,cG,List.range,List.range.loop];refine WK.enter (f:=Tryz.link.add) (fn:=addFn Tryz.link) (c:=body_add Tryz.link) j rfl rfl (by k_ne) rfl Tryz.vI.f_add (nm_add Tryz.link) (by kernel_rfl) ?_;intro w T;rw[enter_at (fn:=addFn Tryz.link) (c:=body_add Tryz.link) _ Tryz.vI.f_add (by kernel_rfl)]
 obtain⟨m,C⟩:=UT (L:=Tryz.link) (main:=true) (R:=dT (λx=>cL x\/x=ic) rd (Lv 241 Wg)) (Wg:=Wg) (F:=SA pc oc Wg Ch ic pl rd Q i)
  (b₀:=kD) (a₀:=mD e pc oc Wg n i (dI ic) (.bool true) (i64 i) x26 x27 x28) (ops₀:=qN) (i₀:=0) (rest₀:=[]) (k₀:=[.code (Go.Code.region 9 nv false),.inBlock 1,.code (Go.Code.region 10 lF false),.inLoop fI,.inBlock 0,.code iM]) (cs:=cs) Tryz.vI (λh r=>⟨SA.rely l u (.inr rfl) y _ _ r h.1,r.live h.2⟩) (λw x h=>⟨h.s.same l u y (by simp[World.setCell]) λb B=>eA _ _ _ _ (λe=>J (by rw[show Wg=b from e.symm];exact B)),(eA _ _ _ _ (by have:=h.lw;simp[stA];omega)).trans h.i,h.lr,h.lw⟩) rfl w ⟨T.k,T.live⟩
 have H:=F4 (Ch:=Ch) (val:=val) (i:=i) (Next:=Wy PR 241 Wg true rd S) C ?_;have V:Array.map (mD e pc oc Wg n i (dI ic) (.bool true) (i64 i) x26 x27 x28).eval #[Operand.tmp 4,Operand.const (Value.int IntKind.i64 1)]=#[Value.pointer (Bb Wg 0),i64 1]:=by simp[mD,Act.eval]
 change Wy PR 241 Wg true rd _ (λx=>cL x\/x=ic) (G ((base Tryz.link.add).at {tmps:=Array.map (mD e pc oc Wg n i (dI ic) (.bool true) (i64 i) x26 x27 x28).eval #[Operand.tmp 4,Operand.const (Value.int IntKind.i64 1)]++Array.replicate ((addFn Tryz.link).ntmps-(Array.map (mD e pc oc Wg n i (dI ic) (.bool true) (i64 i) x26 x27 x28).eval #[Operand.tmp 4,Operand.const (Value.int IntKind.i64 1)]).size) fR,defers:=[]} [.code (body_add Tryz.link)])
  (kD.at (mD e pc oc Wg n i (dI ic) (.bool true) (i64 i) x26 x27 x28) [.inRegion qN [0],.code (Go.Code.region 9 nv false),.inBlock 1,.code (Go.Code.region 10 lF false),.inLoop fI,.inBlock 0,.code iM]::cs)) w
 rw[V];exact H
 ·rintro g w ⟨rfl,N,W⟩
  suffices h:WK PR 241 Wg true rd (Ub PR 241 Wg Ch rd val i (Wy PR 241 Wg true rd S)) (λx=>cL x\/x=ic) (KI pc oc Wg Ch ic pl rd Q i)
   (G (kD.at (mD e pc oc Wg n i (dI ic) (.bool true) (i64 i) (.tuple #[]) x27 x28) [.inRegion qN [],.code (Go.Code.region 9 nv false),.inBlock 1,.code (Go.Code.region 10 lF false),.inLoop fI,.inBlock 0,.code iM]) cs)from h w ⟨N,W⟩
  refine WK.ctl j rfl (λ_=>cE)<|WK.ctl j rfl (λ_=>gi) ?_;simp only[nv,mD,gK,eI,fB,Nat.reduceAdd,cG,List.range,List.range.loop];refine WK.val (v:=?_) j rfl rfl (by k_ne) (λw=>?_) (λw=>?_) ?_;rotate_left;go_simp;rfl;rfl;walk_nrm;refine WK.stop j λw d=>⟨rfl,G (kD.at (mD e pc oc Wg n i (dI ic) (.bool true) (i64 i) (.tuple #[]) (.func (.func 188) #[] (CY pc ic oc Wg)) x28) [.inRegion nv [],.inBlock 1,.code (Go.Code.region 10 lF false),.inLoop fI,.inBlock 0,.code iM]) cs,born PR (call188 pc ic oc Wg),λx=>x=ic,(stepG_spawn rfl rfl (by k_ne) (Bt (f:=188) (cs:=CY pc ic oc Wg) rfl rfl w).1 rfl).trans ?_,rfl,λb B=>.inr B,?_,?_⟩;unfold listed;rw[(Bt (f:=188) (cs:=CY pc ic oc Wg) rfl rfl w).2,seen_none];rfl;exact z ic w ⟨d.k.s.p,by simp[World.cell?,d.k.i],d.k.s.o,d.live,d.k.s.q,d.k.s.r⟩
  ·have X:(λb=>(cL b\/b=ic)/\¬b=ic)=cL:=by
    funext b;exact propext ⟨λ⟨h,Y⟩=>h.elim id λh=>Y h,λh=>h.elim⟩
   rw[X];suffices h:WK PR 241 Wg true rd S cL (KS pc oc Wg Ch pl rd Q) (G (kD.at (mD e pc oc Wg n i (dI ic) (.bool true) (i64 i) (.tuple #[]) (.func (.func 188) #[] (CY pc ic oc Wg)) x28) [.inRegion nv [],.inBlock 1,.code (Go.Code.region 10 lF false),.inLoop fI,.inBlock 0,.code iM]) cs)from h w ⟨d.k.s,d.live⟩;refine WK.ctl a rfl (λ_=>cE)<|WK.ctl a rfl (λ_=>stepG_inBlock)<|WK.ctl a rfl (λ_=>gi) ?_;simp only[lF,mD,gK,eI,fB,Nat.reduceAdd,cG,List.range,List.range.loop];refine WK.val (v:=i64 ((i+1:Nat):Int)) a rfl rfl (by k_ne) (λw=>?_) (λw=>?_) ?_;go_simp;rw[IntKind.wrap_i64];omega;simp[go_sem];walk_nrm;refine WK.val (v:=?_) a rfl rfl (by k_ne) (λw=>?_) (λw=>?_) ?_;rotate_left;go_simp;rfl;go_simp;walk_nrm;exact WK.ctl a rfl (λ_=>cE)<|WK.ctl a rfl (λ_=>stepG_inLoop)<|A _ _ _ _ _ _
def Sr(c d n:Nat)(e:cN)(a:Nat->cq->(cN)->cU)(b:gW):Nat->gW
 |0=>Lm PR 241 c d n e a b
 |r+1=>Tc PR 241 c d e a (n-(r+1)) (ow PR 241 c d n e a b r)
def Ap(c e n:Nat)(d:cN)(a:Nat->cq->(cN)->cU)(b:gW):∀r,ow PR 241 c e n d a b r=Wy PR 241 c true d (Sr c e n d a b r)
 |0=>rfl
 |_+1=>rfl
def Rw{e:qO}{pl:Addr}{Q:cU}{val:Nat->cq->(cN)->cU}{End:gW}{cs:List Frame}(d:p<2^62)(l:A m)(n:A k)(g:¬A j)(q:qP A Q)
 (a:∀i f w,i<p->KW m f k j o pl i (λw=>Q w/\∀b,A b->b<w.heap.size) w->Wy PR 241 j false (λb=>A b\/b=f) (Sends PR 241 j o val i) cL (born PR (call188 m f k j)) w)
 (c:∀x5 x24 x25 x26 x27 x28,WK PR 241 j true A (Lm PR 241 j o p A val End) cL (KS m k j o pl A Q) (G (kD.at (mD e m k j p p x5 x24 x25 x26 x27 x28) [.code iM]) cs)):∀r,r<=p->∀x5 x24 x25 x26 x27 x28,WK PR 241 j true A (Sr j o p A val End r) cL (KS m k j o pl A Q) (G (kD.at (mD e m k j p (p-r) x5 x24 x25 x26 x27 x28) [.code fI,.inLoop fI,.inBlock 0,.code iM]) cs):=by
 intro r;induction r with
 |zero=>
  intro _ x5 x24 x25 x26 x27 x28;rw[Nat.sub_zero];exact F9 l n q λx24=>c _ _ _ _ _ _
 |succ r s=>
  intro u x5 x24 x25 x26 x27 x28;have h:=Ga (e:=e) (cs:=cs) (val:=val) (i:=p-(r+1)) (S:=Sr j o p A val End r) (by omega) d l n g q (x5:=x5) (x24:=x24) (x25:=x25) (x26:=x26) (x27:=x27) (x28:=x28) (λf w t=>a _ f w (by omega) t) (λx5 x24 x25 x26 x27 x28=>by have:=s (by omega) x5 x24 x25 x26 x27 x28;rwa[show p-r=p-(r+1)+1 by omega]at this);rw[<-Ap]at h;exact h
noncomputable def xS(e:qO)(B C D n:Nat)(E F G a b c d f g h i j k l m o p q r s t u v w x y z A:cq):Act:=
 ⟨#[e.x0,.pointer (some ⟨B,0,none⟩),e.x2,.pointer (some ⟨C,0,none⟩),.pointer (some ⟨D,0,none⟩),E,F,G,e.x8,e.x9,e.VZ,e.V0,e.V1,e.V2,e.V3,e.V4,e.V5,e.V6,e.V7,e.V8,e.V9,e.Wa,.int .i64 n,a,b,c,d,f,g,h,i,j,k,l,m,o,p,q,r,s,t,u,v,w,x,y,z,A,undef,undef,undef,undef],[]⟩
structure LM(pb:Nat)(la:Addr)(L C:Nat)(a0:Option Addr)(n c0:Nat)(w:cn):Prop where
 f2:w.cell? ⟨pb,2,none⟩=some (.slice (some la) L C)
 l0:w.cell? la=some (.slice a0 n c0)
noncomputable def nw:Code:=((Go.Code.region 13 uW false).seq (Go.Code.block 2 n4.loop))
def Da{e:qO}{rd:cN}{q:Nat->cq->(cN)->cU}{r:gW}{cs:List Frame}(C:rd m)(u:rd k)(x:¬rd i)(D:qP rd S)
 (s:∀t y c d g l n A,WK PR 241 i true rd (nX PR 241 i j o rd q r z o (λ_=>false)) cL (KS m k i j ⟨p,0,none⟩ rd S)
  (G (kD.at (xS e m k i o t undef undef y c d g l n A undef undef undef undef undef undef undef undef undef undef undef undef undef undef undef undef undef undef) [.code (Go.Code.region 12 mM false),.code (nw.seq kU)]) cs))
 (t c d g l n:cq):WK PR 241 i true rd (Lm PR 241 i j o rd q r) cL (KS m k i j ⟨p,0,none⟩ rd S) (G (kD.at (mD e m k i o o t c d g l n) [.code iM]) cs):=by
 have a:nN cL rd (Lv 241 i) (KS m k i j (cY p 0) rd S):=KS.rely C u D;refine WK.ctl a rfl (λ_=>cI)<|WK.ctl a rfl (λ_=>gi) ?_;simp only[rP,mD,gK,eI,fB,Nat.reduceAdd,cG,List.range,List.range.loop];refine WK.val (v:=?_) a rfl rfl (by k_ne) (λw=>?_) (λw=>?_) ?_;rotate_left;go_simp;rfl;rfl;walk_nrm
 refine WK.stop a λw B=>⟨rfl,G (kD.at (xS e m k i o t fR fR (i64 o) c d g l n (.func (.func 191) #[] #[dI i,dI k]) fR fR fR fR fR fR fR fR fR fR fR fR fR fR fR fR fR fR)
  [.inRegion rP [],.code ((Go.Code.region 12 mM false).seq (nw.seq kU))]) cs,born PR (call191 k i),cL,z,(stepG_spawn rfl rfl (by k_ne) (Bt (f:=191) (cs:=#[dI i,dI k]) rfl rfl w).1 rfl).trans ?_,rfl,λb E=>E.elim,?_,?_⟩
 unfold listed;rw[(Bt (f:=191) (cs:=#[dI i,dI k]) rfl rfl w).2,seen_none];rfl;refine closer (rd:=λb=>rd b\/cL b) (.inl u) (λe=>x (by rw[<-e];exact u)) w ⟨B.k.o,B.live⟩;have F:(λb=>cL b/\¬cL b)=cL:=by funext b;exact propext ⟨λh=>h.1,λh=>h.elim⟩
 rw[F]
 suffices h:WK PR 241 i true rd (nX PR 241 i j o rd q r z o (λ_=>false)) cL (KS m k i j (cY p 0) rd S) (G (kD.at (xS e m k i o t fR fR (i64 o) c d g l n (.func (.func 191) #[] #[dI i,dI k]) fR fR fR fR fR fR fR fR fR fR fR fR fR fR fR fR fR fR)
  [.inRegion rP [],.code ((Go.Code.region 12 mM false).seq (nw.seq kU))]) cs)from h w B
 exact WK.ctl a rfl (λ_=>cE)<|WK.ctl a rfl (λ_=>cI)<|s _ _ _ _ _ _ _ _
end Go.Proofs.W
namespace Go.Proofs.W
open Go.Conc Go.cP Go.cP.Cr Go.cP.Wg Go.RowKit Go.Conc.Lib Go.ConcR.Gen
def mj:cq:=.agg #[.slice none 0 0,.int .i64 0,.int .i64 0,.bool false]
noncomputable def i199:TypeInfo:=(PR.info? 199).getD default
def HU:PR.info? 199=some i199:=by kernel_rfl
def OW:i199.size=4:=by kernel_rfl
def xT:i199.bytes=48:=by kernel_rfl
def HV:i199.zero=some mj:=by kernel_rfl
def Db:PR.underlying 248=some (.slice 199):=by kernel_rfl
def OX(a:m<=65536)(w:cn):(Instr.makeSlice 248 (.int .i64 m) (.int .i64 m)).run PR w=.ok (.slice (some ⟨w.heap.size,0,none⟩) m m) (w.alloc (.cells (madeCells mj.cells (m*4)) 199)):=by have:=run_make (P:=PR) w 248 199 i199 mj Db HU HV .i64 .i64 (m:Int) (m:Int) (by omega) (by omega) (by rw[xT];omega) (by omega);simpa[OW]using this
def LN(a:m<=65536)(w:cn):(Instr.makeSlice 248 (.int .i64 m) (.int .i64 m)).events PR w #[]=#[]:=
 events_make (P:=PR) w 248 199 i199 mj Db HU HV .i64 .i64 (m:Int) (m:Int) (by omega) (by omega) (by rw[xT];omega) (by omega) (by rw[xT];omega) #[]
end Go.Proofs.W
namespace Go.Proofs.W
open Go.Conc Go.cP Go.cP.Cr Go.cP.Wg Go.RowKit Go.Conc.Lib Go.ConcR.Gen
open Go.ConcN Go.ConcN.Gen
open Go.ConcR (KK wgBlock WgAt stA smA mk DC0)
structure KA(pc oc Wg Ch A pb:Nat)(rd:Nat->Prop)(Q:cn->Prop)(R:Array cq->Prop)(w:cn):Prop where
 s:KS pc oc Wg Ch ⟨pb,0,none⟩ rd Q w
 a:∃cs,w.heap[A]? =some (.cells cs 199)/\R cs
 lr:∀b,rd b->b<A
 lw:Wg<A
theorem KA.rely{b c d f A pb:Nat}{Q:cU}{R:dU->Prop}{own rd:cN}(g:rd b)(i:rd c)(j:own A)(k:qP rd Q):nN own rd (Lv 241 d) (KA b c d f A pb rd Q R):=
 λw l e h=>⟨KS.rely g i k w l e h.s,h.a.imp λ_ h=>⟨e.obj (.inl j) h.1,h.2⟩,h.lr,h.lw⟩
def Gb{e:qO}{Y:Nat}{Z:gW}{cs:List Frame}(hn:o<=65536)(B:A m)(K:A k)(L:qP A S)(hL:0<s) (z:∀w,S w->LM p h s d a o Y w)(O:A p)(P:A h.block) (x5 C D E F H I J:cq)
 (y:∀n Q R T U V W X,WK PR 241 i true A Z (λx=>cL x\/x=n) (KA m k i j n p A S (·=madeCells mj.cells (o*4)))
  (G (kD.at (xS e m k i o x5 (.slice (some ⟨n,0,none⟩) o o) undef C D E F H I J Q R T U V W X (.slice (some ⟨n,0,none⟩) o o) undef undef undef undef undef undef undef undef undef undef) [.code (nw.seq kU)]) cs)):
 WK PR 241 i true A Z cL (KS m k i j ⟨p,0,none⟩ A S) (G (kD.at (xS e m k i o x5 undef undef C D E F H I J undef undef undef undef undef undef undef undef undef undef undef undef undef undef undef undef undef undef) [.code (Go.Code.region 12 mM false),.code (nw.seq kU)]) cs):=by
 have g:nN cL A (Lv 241 i) (KS m k i j (cY p 0) A S):=KS.rely B K L;refine WK.ctl g rfl (λ_=>gi) ?_;simp only[mM,xS,gK,eI,fB,Nat.reduceAdd,cG,List.range,List.range.loop];refine WK.load (v:=dI p) g rfl rfl (by k_ne) (λw c=>?_) (λw c e l=>?_) ?_;have t:=(λw c=>c.k.p) w c;go_simp;have t:=(λw c=>c.k.p) w c;simp[go_sem,t]at l;exact .inl ⟨_,_,l,.inr (.inl ⟨rfl,B⟩)⟩;walk_nrm;refine WK.val (v:=?_) g rfl rfl (by k_ne) (λw=>?_) (λw=>?_) ?_;rotate_left;go_simp;rfl;go_simp;walk_nrm;refine WK.val (v:=?_) g rfl rfl (by k_ne) (λw=>?_) (λw=>?_) ?_;rotate_left;go_simp;rfl;go_simp;walk_nrm;refine WK.load (v:=.slice (some h) s d) g rfl rfl (by k_ne) (λw c=>?_) (λw c e l=>?_) ?_;have t:=(λw c=>(z w c.k.q).f2) w c;go_simp;have t:=(λw c=>(z w c.k.q).f2) w c;simp[go_sem,t]at l;exact .inl ⟨_,_,l,.inr (.inl ⟨rfl,O⟩)⟩;walk_nrm;refine WK.val (v:=.pointer (some h)) g rfl rfl (by k_ne) (λw=>?_) (λw=>?_) ?_;go_simp;simp[go_sem];exact events_indexAt_slice _ _ _ _ _ _ (by kernel_rfl) ⟨by omega,by omega⟩;walk_nrm;refine WK.load (v:=.slice a o Y) g rfl rfl (by k_ne) (λw c=>?_) (λw c e l=>?_) ?_;have t:=(λw c=>(z w c.k.q).l0) w c;go_simp;have t:=(λw c=>(z w c.k.q).l0) w c;simp[go_sem,t]at l;exact .inl ⟨_,_,l,.inr (.inl ⟨rfl,P⟩)⟩;walk_nrm;refine WK.val (v:=?_) g rfl rfl (by k_ne) (λw=>?_) (λw=>?_) ?_;rotate_left;go_simp;rfl;go_simp;walk_nrm;refine WK.new (f:=λN=>j7 N o o) (ob:=.cells (madeCells mj.cells (o*4)) 199) g rfl rfl (by k_ne) (λw c=>?_) (λw c e l=>?_) (λn=>?_);have:=OX hn w;go_simp;have:=LN hn w;simp[go_sem,this]at l;refine WK.mono (K':=KA m k i j n p A S (·=madeCells mj.cells (o*4))) ?_ ?_;rotate_left;rintro w ⟨M,c,rfl,hr⟩;obtain⟨st,sm,z⟩:=c.live;have hk:KA m k i j M.me p A S (·=madeCells mj.cells (o*4)) {M with heap:=M.heap.push (.cells (madeCells mj.cells (o*4)) 199)}:=⟨⟨c.k.same B K L (by simp) λb hb=>by have:=c.k.r b hb;show(M.heap.push _)[b]? =_;rw[nS];split;omega;rfl,rO c.live⟩,⟨_,by simp,rfl⟩,c.k.r,lt_of_heap z⟩;exact KA.rely B K (.inr rfl) L _ _ hr hk;have u:nN (λx=>cL x\/x=n) A (Lv 241 i) (KA m k i j n p A S (·=madeCells mj.cells (o*4))):=KA.rely B K (.inr rfl) L;walk_nrm;refine WK.val (v:=?_) u rfl rfl (by k_ne) (λw=>?_) (λw=>?_) ?_;rotate_left;go_simp;rfl;go_simp;walk_nrm;exact WK.ctl u rfl (λ_=>cE)<|y _ _ _ _ _ _ _ _
end Go.Proofs.W
namespace Go.Proofs.W
open Go.Conc Go.cP Go.cP.Cr Go.cP.Wg Go.RowKit Go.Conc.Lib Go.ConcR.Gen
def qQ:cq:=.agg #[.int .i64 0,.slice none 0 0,.int .i64 0,.int .i64 0,.bool false]
def Dc{Ch:Nat}{a:dw->cq}{o:Oper}{x:dw}(b:o.op=.recv 232 x true)(c:a x=.chan (some Ch))(w:cn):(execOp a o).run PR w=.ok (.comm #[rcase Ch qQ] true (.recv true)) w:=by
 simp only[execOp,b,c];have d:(zeroValue 247).run PR w=.ok qQ w:=by kernel_rfl
 have e:(underlying 232).run PR w=.ok (.chan .both 247) w:=by kernel_rfl
 simp[d,e,rcase]
def vN{Ch:Nat}{c:dw->cq}{o:Oper}{x:dw}(d:o.op=.recv 232 x true)(e:c x=.chan (some Ch))(w:cn):(execOp c o).events PR w #[]=#[]:=by
 simp only[execOp,d,e];have f:(zeroValue 247).run PR w=.ok qQ w:=by kernel_rfl
 have g:(underlying 232).run PR w=.ok (.chan .both 247) w:=by kernel_rfl
 have a:(zeroValue 247).events PR w #[]=#[]:=by kernel_rfl
 have b:(underlying 232).events PR w #[]=#[]:=by kernel_rfl
 simp[f,g,a,b]
end Go.Proofs.W
namespace Go.Proofs.W
open Go.Conc Go.cP Go.cP.Cr Go.cP.Wg Go.RowKit Go.Conc.Lib Go.ConcR.Gen
open Go.ConcN Go.ConcN.Gen
open Go.ConcR (KK wgBlock WgAt stA smA mk DC0)
def xU(Pv:Nat->(cN)->cn->cq->Prop):Prop:=∀j o w a v,(∀b,o b->a.heap[b]? =w.heap[b]?)->Pv j o w v->Pv j o a v
def nx(a:ek)(c d:Nat)(m k:Int)(b:Bool):cq:=.agg #[.slice a c d,.int .i64 m,.int .i64 k,.bool b]
def Bu(i:Int)(a:ek)(c d:Nat)(m k:Int)(b:Bool):cq:=.agg #[.int .i64 i,.slice a c d,.int .i64 m,.int .i64 k,.bool b]
def Dd(Pv:Nat->(cN)->cn->cq->Prop):Nat->cq->(cN)->cU:=λi v own w=>
 ∃a c d m k b e,v=Bu i a c d m k b/\(∀x,e x->own x/\x<w.heap.size)/\Pv i e w (nx a c d m k b)
def LO(Pv:Nat->(cN)->cn->cq->Prop)(own:cN)(A:Nat)(w:cn)(a:dU)(j:Nat):Prop:=
 ∃c d e m k b f,(∀x,f x->own x/\x≠A/\x<w.heap.size)/\a[4*j]? =some (.slice c d e)/\a[4*j+1]? =some (.int .i64 m)/\a[4*j+2]? =some (.int .i64 k)/\a[4*j+3]? =some (.bool b)/\Pv j f w (nx c d e m k b)
structure KR(pc oc Wg Ch A pb n:Nat)(rd:Nat->Prop)(Q:cn->Prop)(Pv:Nat->(Nat->Prop)->cn->cq->Prop)(own:Nat->Prop)(S:Nat->Bool)(w:cn):Prop where
 s:KS pc oc Wg Ch ⟨pb,0,none⟩ rd Q w
 a:∃cs,w.heap[A]? =some (.cells cs 199)/\cs.size=n*4/\∀j,j<n->S j=true->LO Pv own A w cs j
 oa:own A
 lr:∀b,rd b->b<A
 lw:Wg<A
section
variable{pc oc Wg Ch A pb n:Nat}{Q:cn->Prop}{Pv:Nat->(Nat->Prop)->cn->cq->Prop}{S:Nat->Bool}{own own' rd:Nat->Prop}
theorem LO.same(g:xU Pv){w w':cn}{e:dU}{j:Nat}(h:LO Pv own A w e j)(i:∀b,own b->own' b)(l:w.heap.size<=w'.heap.size)(n:∀b,own b->b≠A->b<w.heap.size->w'.heap[b]? =w.heap[b]?):LO Pv own' A w' e j:=by obtain⟨o,p,q,m,k,b,f,a,r,s,t,u,v⟩:=h;exact⟨o,p,q,m,k,b,f,λx c=>⟨i x (a x c).1,(a x c).2.1,dE (a x c).2.2 l⟩,r,s,t,u,g j f w w' _ (λb d=>n b (a b d).1 (a b d).2.1 (a b d).2.2) v⟩
theorem KR.rely(f:rd pc)(g:rd oc)(i:qP rd Q)(k:xU Pv):nN own rd (Lv 241 Wg) (KR pc oc Wg Ch A pb n rd Q Pv own S):=λw l c h=>by obtain⟨m,o,d,p⟩:=h.a;exact⟨KS.rely f g i w l c h.s,⟨m,c.obj (.inl h.oa) o,d,λj q r=>(p j q r).same k (λ_ h=>h) c.size λb t _ e=>c.heap b e (.inl t)⟩,h.oa,h.lr,h.lw⟩
end
end Go.Proofs.W
namespace Go.Proofs.W
open Go.RowKit
noncomputable abbrev jD:cA:=V.prog
structure SV where
 (sa:Option Addr)(sl sc:Nat)(m k:Int)(b:Bool)
def SV.val(s:SV):cq:=.agg #[.slice s.sa s.sl s.sc,.int .i64 s.m,.int .i64 s.k,.bool s.b]
def gX(x y:SV):Bool:=if !x.b||!y.b then x.b else if x.m≠y.m then decide (x.m<y.m)else decide (x.k<y.k)
theorem Gc(p:Value)(x y:SV)(w:World):Calls V.prog 194 #[p,x.val,y.val] w λe a=>e=.returned (.bool (gX x y))/\Below w.heap.size w a:=by
 obtain⟨b,c,d,f,g,h⟩:=x
 obtain⟨i,j,k,l,m,n⟩:=y
 simp only[SV.val,gX]
 go_enter V.func194,Tryz.ntmps194
 go_wp2
 all_goals
  go_ret
  exact⟨by simp_all,((Below.refl _ _).alloc (Nat.le_refl _) _).alloc (by simp) _⟩
theorem Bv(p:Value)(x y:SV)(w:World):Calls V.prog 194 #[p,x.val,y.val] w λe a=>e=.returned (.bool (gX x y))/\Below w.heap.size w a/\w.drawn<=a.drawn:=by
 obtain⟨b,c,d,f,g,h⟩:=x
 obtain⟨i,j,k,l,m,n⟩:=y
 simp only[SV.val,gX]
 go_enter V.func194,Tryz.ntmps194
 go_wp2
 all_goals
  go_ret
  exact⟨by simp_all,((Below.refl _ _).alloc (Nat.le_refl _) _).alloc (by simp) _,Nat.le_refl _⟩
def di:List SV->SV
 |[]=>⟨none,0,0,0,0,false⟩
 |x::b=>b.foldl (λa y=>if gX y a then y else a) x
def tS(l:List SV)(y:SV)(h:l≠[]):di (l++[y])=if gX y (di l)=true then y else di l:=by
 cases l with
 |nil=>exact absurd rfl h
 |cons x a=>rw[di,qx,di,xo];rfl
def wE(w:cn)(b o:Nat)(s:SV):Prop:=w.cell? ⟨b,o,none⟩=some (.slice s.sa s.sl s.sc)/\w.cell? ⟨b,o+1,none⟩=some (.int .i64 s.m)/\w.cell? ⟨b,o+2,none⟩=some (.int .i64 s.k)/\w.cell? ⟨b,o+3,none⟩=some (.bool s.b)
def W7(w:cn)(A:Nat)(a:List SV):Prop:=∀j (h:j<a.length),wE w A (j*4) a[j]
def eh(s:SV):Obj:=.cells #[.slice s.sa s.sl s.sc,.int .i64 s.m,.int .i64 s.k,.bool s.b] 199
def dY{s:SV}(h:w.heap[m]? =some (eh s)):w.cell? ⟨m,0,none⟩=some (.slice s.sa s.sl s.sc)/\w.cell? ⟨m,1,none⟩=some (.int .i64 s.m)/\w.cell? ⟨m,2,none⟩=some (.int .i64 s.k)/\w.cell? ⟨m,3,none⟩=some (.bool s.b)/\w.frozen? ⟨m,0,none⟩=false/\w.frozen? ⟨m,1,none⟩=false/\w.frozen? ⟨m,2,none⟩=false/\w.frozen? ⟨m,3,none⟩=false:=by simp[World.cell?,World.frozen?,h,eh]
def Aq(a:Below m w t):(∀b o,b<m->t.cell? ⟨b,o,none⟩=w.cell? ⟨b,o,none⟩)/\(∀b o,b<m->t.frozen? ⟨b,o,none⟩=w.frozen? ⟨b,o,none⟩):=
 ⟨λb o h=>a.cell (p:=(cY b o)) h,λb o h=>a.frozen (p:=(cY b o)) h⟩
def wE.below{s:SV}(h:wE w k o s)(a:Below m w t)(b:k<m):wE t k o s:=by unfold wE at*;rw[(Aq a).1 _ _ b,(Aq a).1 _ _ b,(Aq a).1 _ _ b,(Aq a).1 _ _ b];exact h
def fp(w:cn)(o:Obj):(w.alloc o).heap[w.heap.size]? =some o:=by show(w.heap.push o)[w.me]? =_;simp
def alloc_old(w:cn)(o:Obj){b:Nat}(h:b<w.heap.size):(w.alloc o).heap[b]? =w.heap[b]? :=by show(w.heap.push o)[b]? =_;rw[nS];split;omega;rfl
def jd(w:cn)(b:Nat)(s:SV):cn:=(((w.setCell ⟨b,0,none⟩ (.slice s.sa s.sl s.sc)).setCell ⟨b,1,none⟩ (.int .i64 s.m)).setCell ⟨b,2,none⟩ (.int .i64 s.k)).setCell ⟨b,3,none⟩ (.bool s.b)
def kK{s a:SV}(h:w.heap[m]? =some (eh a)):(jd w m s).heap[m]? =some (eh s):=by simp[jd,World.setCell,mR,h,eh]
def oV(w:cn)(b:Nat)(s:SV){c:Nat}(h:c≠b):(jd w b s).heap[c]? =w.heap[c]? :=by unfold jd;rw[cP.Cr.eA _ _ _ _ h,cP.Cr.eA _ _ _ _ h,cP.Cr.eA _ _ _ _ h,cP.Cr.eA _ _ _ _ h]
def pB(w:cn)(b:Nat)(s:SV):(jd w b s).heap.size=w.heap.size:=by simp[jd,World.setCell]
def kL{s:SV}(h:Below m t w)(a:m<=k):Below m t (jd w k s):=
 (((h.setCell a _).setCell a _).setCell a _).setCell a _
def lH{a:Type}(l:List a)(k:Nat)(h:k<l.length):l.take (k+1)=l.take k++[l[k]]:=by rw[jc h]
theorem I3(p:Value)(A:Nat)(ys:List SV)(w:World)(hn:ys.length<=65536)(hA:A<w.heap.size)(hy:W7 w A ys):
 Calls V.prog 193 #[.slice (some ⟨A,0,none⟩) ys.length ys.length,.func (.func 194) #[p] #[]] w λe w'=>e=.returned (di ys).val/\Below w.heap.size w w':=by
 go_enter V.func193,Tryz.ntmps193;go_wp2
 go_loopw [10] (λi wr=>∃k:Nat,k<=ys.length/\i=.int .i64 k/\Below w.heap.size w wr/\w.heap.size+2<=wr.heap.size/\wr.heap[w.heap.size+1]? =some (eh (di (ys.take k)))/\
  wr.heap[w.heap.size]? =some (eh (di []))) (λi _=>ys.length-(intOf i).toNat)
 case atStart=>
  refine⟨0,Nat.zero_le _,rfl,((Below.refl _ _).alloc (Nat.le_refl _) _).alloc (by simp) _,by simp,?_,?_⟩
  ·have:=fp (w.alloc (eh (di []))) (eh (di []));rw[World.size_alloc]at this;exact this
  ·exact(alloc_old (w.alloc (eh (di []))) _ (by simp)).trans (fp _ _)
 case round=>
  obtain⟨k,hk,rfl,hb,Wb,ho,hr⟩:=hrel;by_cases HJ:k<ys.length
  ·obtain⟨y1,y2,y3,y4⟩:=(hy k HJ).below hb hA;obtain⟨o1,o2,o3,o4,f1,f2,f3,f4⟩:=dY ho;have HO:=Go.Lib.hid ho;have HR:=Go.Lib.hid hr;clear ho hr hy;have l1:w.heap.size+1<wr.heap.size:=by omega
   have l3:w.heap.size<wr.heap.size:=by omega
   have l2:¬(w.heap.size+1=wr.heap.size):=by omega
   by_cases UL:k=0
   ·subst UL;go_wp2;go_roundw;case rel=>
     have hp:=kK (s:=ys[0]) HO.out;have UV:=(oV wr (w.heap.size+1) ys[0] (c:=w.heap.size) (by omega)).trans HR.out;have QA:=pB wr (w.heap.size+1) ys[0];refine⟨1,by omega,rfl,(kL hb (Nat.le_succ _)).alloc (by rw[QA];omega) _,by simp;omega,?_,?_⟩
     ·refine(alloc_old (jd wr (w.heap.size+1) ys[0]) _ (by rw[QA];omega)).trans ?_;rw[hp,lH _ _ HJ];rfl
     ·exact(alloc_old (jd wr (w.heap.size+1) ys[0]) _ (by rw[QA];omega)).trans UV
    case measure=>simp[intOf];omega
   ·have UM:((k:Int)==0)=false:=by simp;omega
    go_wp2_with (go_at_call 194;refine(Gc _ ys[k] (di (ys.take k)) _).mono ?_;rintro e w' ⟨rfl,De⟩;obtain⟨hc,hf⟩:=Aq De);all_goals go_roundw
    case rel=>
     have UW:gX ys[k] (di (ys.take k))=true:=by assumption
     have hO:=(De.block (w.heap.size+1) (by simp;omega)).trans ((alloc_old wr _ (by omega)).trans HO.out);have hR:=(De.block w.heap.size (by simp;omega)).trans ((alloc_old wr _ (by omega)).trans HR.out);have hz:=De.size;rw[World.size_alloc]at hz;have hp:=kK (s:=ys[k]) hO;have UV:=(oV w' (w.heap.size+1) ys[k] (c:=w.heap.size) (by omega)).trans hR;have QA:=pB w' (w.heap.size+1) ys[k];refine⟨k+1,by omega,by go_num,kL ((hb.alloc (by omega) _).trans (De.mono (by simp;omega))) (Nat.le_succ _),(by show w.heap.size+2<=(jd w' (w.heap.size+1) ys[k]).heap.size;rw[QA];omega),?_,UV⟩;refine hp.trans ?_;rw[lH _ _ HJ,tS _ _ (λh=>by have:=congrArg List.length h;rw[List.length_take,List.length_nil]at this;omega),if_pos UW]
    case measure=>simp[intOf];omega
    case rel=>
     have UW:gX ys[k] (di (ys.take k))=false:=by assumption
     have hO:=(De.block (w.heap.size+1) (by simp;omega)).trans ((alloc_old wr _ (by omega)).trans HO.out);have hR:=(De.block w.heap.size (by simp;omega)).trans ((alloc_old wr _ (by omega)).trans HR.out);have hz:=De.size;rw[World.size_alloc]at hz;refine⟨k+1,by omega,by go_num,(hb.alloc (by omega) _).trans (De.mono (by simp;omega)),by omega,?_,hR⟩;refine hO.trans ?_;rw[lH _ _ HJ,tS _ _ (λh=>by have:=congrArg List.length h;rw[List.length_take,List.length_nil]at this;omega),if_neg (by simp[UW])]
    case measure=>simp[intOf];omega
  ·obtain⟨o1,o2,o3,o4,f1,f2,f3,f4⟩:=dY ho;obtain⟨r1,r2,r3,r4,g1,g2,g3,g4⟩:=dY hr;have HO:=Go.Lib.hid ho;have HR:=Go.Lib.hid hr;clear ho hr hy;have l2:¬(w.heap.size+1=w.heap.size):=by omega
   go_wp2;have W8:ys.take k=ys:=List.take_of_length_le (by omega);have hp:=kK (s:=di (ys.take k)) HR.out;obtain⟨q1,q2,q3,q4,_⟩:=dY hp;unfold jd at q1 q2 q3 q4;refine bodyPost_ret (v:=(di (ys.take k)).val) (by simp[results,Tryz.results193,go_sem,q1,q2,q3,q4,SV.val]) rfl ⟨by rw[W8],kL hb (Nat.le_refl _)⟩
end Go.Proofs.W
namespace Go.cP
open Go.Conc
open Go.ConcN (sumTo upd sumTo_upd upd_ne upd_same)
section
variable{P:cA}{X:Nat->Prop}
structure Df(P:cA)(X:Nat->Prop)(gs:Array cx)(a:cx)(w:cn)(t:Trace)(q:Nat->Nat):Prop where
 at0:gs[0]? =some a
 run:a.status=.running
 leavers:Leavers P t gs q
 past:Past (nW X) w.heap.size t
 low:∀b,X b->b<w.heap.size
def Ge{f l:cN}{n m:Nat}(j:∀b,f b\/l b->¬X b/\b<m)(o:∀c,X c->c<n){e:Event}(h:EvW f l n m e):EvL (nW X) m e:=by
 rcases h with⟨a,p,rfl,h⟩|⟨r,p,rfl,h⟩|rfl;have g:¬X a.block/\a.block<m:=by rcases h with h|⟨_,h⟩|⟨q,k⟩;exact j _ (.inl h);exact j _ (.inr h);exact⟨λd=>by have:=o _ d;omega,k⟩
 refine⟨λx d i=>?_,by simp,by simp,g.2⟩;simp only[MemAct.ofEvent,MemAct.touch?,fO]at d;subst d;exact absurd i g.1;have g:¬X r/\r<m:=by rcases h with h|⟨q,k⟩;exact j _ (.inl h);exact⟨λd=>by have:=o _ d;omega,k⟩
 refine⟨λx d i=>?_,by simp,by simp,by simpa[MemAct.ofEvent,MemAct.low,Loc.low]using g.2⟩;simp only[MemAct.ofEvent,MemAct.touch?,fO]at d;subst d;exact absurd i g.1;refine⟨λx d i=>?_,by simp,by simp,trivial⟩;simp[MemAct.ofEvent,MemAct.touch?]at d
def Df.pick{c:Array cx}{t:Trace}{q:Nat->Nat}(h:Df P X c Z w t q)(sl:Option (Nat×Nat)):(∃d a,stepT P (crowd c w sl)=runT P (crowd c (w.at d) a) 0)\/∃d a m u M,stepT P (crowd c w sl)=(.next (crowd m (w.at d) a),u)/\Df P X m Z (w.at d) (t++u) M/\sumTo m.size M+1=sumTo c.size q:=by
 have b:=h.run;have G:=h.at0;have C:=h.leavers;have H:∀g∈c,awake g:=by
  intro g r;obtain⟨i,s,rfl⟩:=Array.mem_iff_getElem.1 r;rcases mY i with rfl|f;have:c[0]=Z:=by simpa[iY s]using G
  rw[this];exact awake_of (.inl b);exact awake_of ((C.old i _ f (iY s)).status.elim .inl λx=>.inr (.inr x))
 obtain⟨i,g,d,a,s,r,v⟩:=crowd_pick (P:=P) (w:=w) (sl:=sl) H ⟨0,Z,G,b⟩;rcases mY i with rfl|f;exact .inl ⟨d,a,v⟩;have D:=C.old i g f s;have I:(i==0)=false:=by simp;omega
 have z:i<c.size:=(eU.1 s).1;cases n:q i with
 |zero=>rw[n]at D;rw[D.1]at r;cases r
 |succ k=>
  rw[n]at D;rcases D with⟨O,_⟩|⟨_,g',Q,R,A,J⟩;rw[O]at r;cases r;have o:=runT_crowd_go (P:=P) (sl:=a) (i:=i) s (by rw[I];exact A (w.at d));have K:((c.map (woken P g g' (w.at d))).setIfInBounds i g').size=c.size:=by simp
  have N:sumTo c.size (upd q i k)+(k+1)=sumTo c.size q+k:=by have:=sumTo_upd q k id z;simpa[n]using this
  refine .inr ⟨d,a,_,_,upd q i k,v.trans o,⟨?_,b,⟨λj x E F=>?_,λj E=>?_⟩,h.past.mute (by omega) R,h.low⟩,by rw[K];omega⟩;have L:i≠0:=by omega
  rw[eo L,qw,G];simp[woken_run b];by_cases l:i=j;subst l;rw[kI (by simpa using z)]at F;obtain rfl:=cO F;rw[upd_same,Deaf_own];exact J;rw[eo l,qw]at F;obtain⟨y,S,rfl⟩:=il.1 F;have B:=C.old j y E S;rw[woken_quitsD B,upd_ne q k (gh l),Deaf_other t l _ (λT p=>by obtain⟨e,_,rfl⟩:=Go.Conc.mem_ofEvents p;rfl)];exact B;rw[Deaf_other t (g:=j) (g':=i) (by simp at E;omega) (MemOp.ofEvents i g.frame.fn g.frame.place Q) (λT p=>by obtain⟨e,_,rfl⟩:=Go.Conc.mem_ofEvents p;rfl)];exact C.above j (by simpa using E)
structure xV(own:Nat->Prop)(w:cn)(own':Nat->Prop)(w':cn):Prop where
 tape:w'.tape=w.tape
 os:w'.os=w.os
 output:w'.output=w.output
 size:w.heap.size<=w'.heap.size
 heap:∀b,b<w.heap.size->¬own b->w'.heap[b]? =w.heap[b]?
 new:∀b,own' b->own b\/(w.heap.size<=b/\b<w'.heap.size)
 keep:∀b,own b->own' b
def xV.refl(a:cN)(w:cn)(d:Nat):xV a w a (w.at d):=⟨rfl,rfl,rfl,cJ _,λ_ _ _=>rfl,λ_ h=>.inl h,λ_ h=>h⟩
theorem xV.trans{c d f:cN}(h:xV c w d t)(k:xV d t f e):xV c w f e:=
 ⟨k.tape.trans h.tape,k.os.trans h.os,k.output.trans h.output,cZ h.size k.size,λb a g=>(k.heap b (dE a h.size) λi=>(h.new b i).elim g λx=>by omega).trans (h.heap b a g),
  λb a=>(k.new b a).elim (λx=>(h.new b x).imp id λy=>⟨y.1,dE y.2 k.size⟩) λx=>.inr ⟨cZ h.size x.1,x.2⟩,λb a=>k.keep b (h.keep b a)⟩
def Df.step{u:Array cx}{a o:cx}{w l:cn}{t:Trace}{q:Nat->Nat}{own rd i:cN}{p:Array Event}{d:Nat}(h:Df P X u a w t q)(n:∀b,own b\/rd b->¬X b/\b<w.heap.size) (e:stepG P true a (w.at d)=.go o l p)(m:KG own rd (w.at d) l p i)(E:o.status=.running):Df P X ((u.map (woken P a o l)).setIfInBounds 0 o) o l (t++MemOp.ofEvents 0 a.frame.fn a.frame.place p) q/\∀b,i b\/rd b->¬X b/\b<l.heap.size:=by
 have f:w.heap.size<=l.heap.size:=m.size;have v:0<u.size:=(eU.1 h.at0).1;refine⟨⟨by simp[v],E,⟨λj x r s=>?_,λj r=>?_⟩,(h.past.mono f).own λe F=>Ge (λb c=>⟨(n b c).1,dE (n b c).2 f⟩) h.low (m.evs e F),λb c=>dE (h.low b c) f⟩,λb c=>?_⟩;have z:0≠j:=by omega
 rw[eo z,qw]at s;obtain⟨y,G,rfl⟩:=il.1 s;have C:=h.leavers.old j y r G;rw[woken_quitsD C,Deaf_other t (by omega) _ (λH k=>by obtain⟨e,_,rfl⟩:=Go.Conc.mem_ofEvents k;rfl)];exact C;rw[Deaf_other t (g:=j) (g':=0) (by simp at r;omega) (MemOp.ofEvents 0 a.frame.fn a.frame.place p) (λH k=>by obtain⟨e,_,rfl⟩:=Go.Conc.mem_ofEvents k;rfl)];exact h.leavers.above j (by simpa using r);rcases c with c|c;rcases(m.owns b).1 c with c|⟨A,B⟩;exact⟨(n b (.inl c)).1,dE (n b (.inl c)).2 f⟩;have D:w.heap.size<=b:=A;exact⟨λs=>by have:=h.low b s;omega,B⟩;exact⟨(n b (.inr c)).1,dE (n b (.inr c)).2 f⟩
def sZ{rd:cN}{L:cU}(E:∀w d,L w->L (w.at d)){k:(cN)->cx->cU}(G:∀o g w,k o g w->g.status=.running):∀{H:WT} {own:cN} {a:cx} {w:cn},Way P true rd L k H own a w->∀(r:Array cx) (sl:Option (Nat×Nat)) (t:Trace) (q:Nat->Nat),Df P X r a w t q->(∀b,own b\/rd b->¬X b/\b<w.heap.size)->∃(N:Nat) (l:Array cx) (s:cn) (c:Option (Nat×Nat)) (I:Trace) (F:Nat->Nat) (j:cN) (J:cx),runNT P N (crowd r w sl) t=(.next (crowd l s c),I)/\Df P X l J s I F/\k j J s/\xV own w j s/\∀b,j b\/rd b->¬X b/\b<s.heap.size:=by
 intro H own a w hw;induction hw with
 | @here H own a w h=>
  intro r sl t q u z;exact⟨0,r,w,sl,t,q,own,a,rfl,u,h w (.refl _ _ _ _),xV.refl own w w.drawn,z⟩
 | @step f own a w hs h1 h2 ih=>
  have p:∀{own a w} {H},Way P true rd L k H own a w->a.status=.running:=λh=>by
   cases h with
   |here h=>exact G _ _ _ (h _ (.refl _ _ _ _))
   |step hs _ _=>exact hs
  have K:∀(M:Nat) (r:Array cx) (A:Nat) (sl:Option (Nat×Nat)) (t:Trace) (q:Nat->Nat),sumTo r.size q<=M->Df P X r a (w.at A) t q->(∀b,own b\/rd b->¬X b/\b<w.me)->∃(N:Nat) (l:Array cx) (s:cn) (c:Option (Nat×Nat)) (I:Trace) (F:Nat->Nat) (j:cN) (J:cx),runNT P N (crowd r (w.at A) sl) t=(.next (crowd l s c),I)/\Df P X l J s I F/\k j J s/\xV own w j s/\∀b,j b\/rd b->¬X b/\b<s.me:=by
   intro M;induction M with
   |zero=>
    intro r A sl t q hM u z;rcases u.pick sl with⟨d,c,v⟩|⟨d,c,l,O,F,_,_,Q⟩;obtain⟨a1,w1,es,R,e,m⟩:=h1 (w.at d) (dT.at own rd E w d);have S:stepG P true a ((w.at A).at d)=.go a1 w1 es:=e;obtain⟨B,C⟩:=u.step (own:=own) (rd:=rd) z S m (p (h2 _ _ _ _ _ (dT.at own rd E w d) e m));obtain⟨N,x,T,y,U,V,n,W,Y,Z,r3,r4,r5⟩:=ih _ _ _ _ _ (dT.at own rd E w d) e m _ c _ q B C;have hr:=v.trans (runT_crowd_go (P:=P) (sl:=c) (i:=0) u.at0 (show stepG P (0==0) a ((w.at A).at d)=_ from S));refine⟨1+N,x,T,y,U,V,n,W,runNT_add (kJ hr) Y,Z,r3,xV.trans ⟨m.tape,m.os,m.output,m.size,m.same,λb D=>(m.owns b).1 D,λb D=>(m.owns b).2 (.inl D)⟩ r4,r5⟩;omega
   |succ M aa=>
    intro r A sl t q hM u z;rcases u.pick sl with⟨d,c,v⟩|⟨d,c,l,O,F,v,ab,Q⟩;obtain⟨a1,w1,es,R,e,m⟩:=h1 (w.at d) (dT.at own rd E w d);have S:stepG P true a ((w.at A).at d)=.go a1 w1 es:=e;obtain⟨B,C⟩:=u.step (own:=own) (rd:=rd) z S m (p (h2 _ _ _ _ _ (dT.at own rd E w d) e m));obtain⟨N,x,T,y,U,V,n,W,Y,Z,r3,r4,r5⟩:=ih _ _ _ _ _ (dT.at own rd E w d) e m _ c _ q B C;have hr:=v.trans (runT_crowd_go (P:=P) (sl:=c) (i:=0) u.at0 (show stepG P (0==0) a ((w.at A).at d)=_ from S));refine⟨1+N,x,T,y,U,V,n,W,runNT_add (kJ hr) Y,Z,r3,xV.trans ⟨m.tape,m.os,m.output,m.size,m.same,λb D=>(m.owns b).1 D,λb D=>(m.owns b).2 (.inl D)⟩ r4,r5⟩;obtain⟨N,x,T,y,U,V,n,W,Y,Z,r3,r4,r5⟩:=aa l d c (t++O) F (by omega) ab z;exact⟨1+N,x,T,y,U,V,n,W,runNT_add (kJ v) Y,Z,r3,r4,r5⟩
  intro r sl t q u z;exact K _ r w.drawn sl t q (cJ _) u z
end
end Go.cP
namespace Go.cP
open Go
def jx(z:cq):Bool:=z.cells.all (eG 2)&&eG 3 z
theorem Ar{g c:Type}(I:c->Prop)(f:g->c->Option (ForInStep c))(i:∀a b s,I b->f a b=some s->I s.value):∀(l:List g) (init:c),I init->∀r,forIn l init f=some r->I r
 |[],init,d,r,h=>by simp at h;exact h▸d
 |a::l,init,d,r,h=>by
  rw[List.forIn_cons]at h;cases e:f a init with
  |none=>rw[e]at h;cases h
  |some s=>
   rw[e]at h;have:=i a init s d e;cases s with
   |done b=>simp at h;exact h▸this
   |yield b=>exact Ar I f i l b this r h
theorem Bw{info:TypeId->Option TypeInfo}(h:∀t i z,info t=some i->i.zero=some z->jx z=true)(d:TypeDesc)(i:TypeInfo)(z:Value)(a:Made.reckon info d=some i)(q:i.zero=some z):jx z=true:=by
 have m:∀(d:TypeDesc) (s:String) (u:Value) (b:Bool) (n:Nat),jx u=true->Made.word d s u b n=i->jx z=true:=λd s u b n D e=>by
  subst e
  have:some u=some z:=q
  cases this
  exact D
 cases d with
 |pointer e=>
  simp only[Made.reckon,Option.bind_eq_bind,Option.bind_eq_some_iff]at a
  obtain⟨j,_,a⟩:=a
  split at a
  ·cases a
  ·split at a
   ·cases a
   ·simp only[Option.bind_eq_some_iff]at a
    obtain⟨s,_,a⟩:=a
    exact m _ _ _ _ _ (by simp[jx,eG,Value.cells]) (Option.some.inj a)
  ·simp only[Option.bind_eq_some_iff]at a
   obtain⟨s,_,a⟩:=a
   exact m _ _ _ _ _ (by simp[jx,eG,Value.cells]) (Option.some.inj a)
 |slice e=>
  simp only[Made.reckon,Option.bind_eq_bind,Option.bind_eq_some_iff]at a
  obtain⟨j,_,s,_,a⟩:=a
  exact m _ _ _ _ _ (by simp[jx,eG,Value.cells]) (Option.some.inj a)
 |map k e=>
  simp only[Made.reckon,Option.bind_eq_bind,Option.bind_eq_some_iff]at a
  obtain⟨j,_,s,_,M,_,N,_,a⟩:=a
  exact m _ _ _ _ _ (by simp[jx,eG,Value.cells]) (Option.some.inj a)
 |chan d e=>
  simp only[Made.reckon,Option.bind_eq_bind,Option.bind_eq_some_iff]at a
  obtain⟨j,_,s,_,a⟩:=a
  cases d<;>exact m _ _ _ _ _ (by simp[jx,eG,Value.cells]) (Option.some.inj a)
 |func O P v=>
  simp only[Made.reckon,Option.bind_eq_bind,Option.bind_eq_some_iff]at a
  obtain⟨s,_,a⟩:=a
  exact m _ _ _ _ _ (by simp[jx,eG,Value.cells]) (Option.some.inj a)
 |array n e=>
  simp only[Made.reckon,Option.bind_eq_bind,Option.bind_eq_some_iff]at a
  obtain⟨j,E,s,_,a⟩:=a
  have a:=Option.some.inj a
  subst a
  simp only at q
  split at q
  ·cases q
  ·split at q
   ·cases q;simp[jx,eG,Value.cells]
   ·obtain⟨y,A,rfl⟩:=Option.map_eq_some_iff.1 q
    have:=h e j y E A
    simp only[jx,Bool.and_eq_true,Array.all_eq_true_iff_forall_mem]at this
    have p:((Array.replicate n y.cells).flatten).all (eG 2)=true:=by
     simp only[Array.all_eq_true_iff_forall_mem,Array.mem_flatten]
     rintro x ⟨o,g,w⟩
     rw[Array.eq_of_mem_replicate g]at w
     exact this.1 x w
    have F:eG 3 (.agg (Array.replicate n y.cells).flatten)=(Array.replicate n y.cells).flatten.all (eG 2):=rfl
    show((Array.replicate n y.cells).flatten.all (eG 2)&&eG 3 (.agg (Array.replicate n y.cells).flatten))=true
    rw[F,p]
    rfl
 |struct G=>
  simp only[Made.reckon,Made.reckonStruct]at a
  obtain⟨H,r,a⟩:=Option.bind_eq_some_iff.1 a
  rw[<-Array.forIn_toList]at r
  have I:=Ar (λb:Array Field×Nat×Nat×Nat×Nat×Bool×Bool×Option (Array Value)×String=>∀o,b.2.2.2.2.2.2.2.1=some o->o.all (eG 2)=true) _ ?_ G.toList _ ?_ H r
  ·split at a
   all_goals
    simp only[Option.bind_eq_bind,Option.pure_def,Option.some.injEq,Option.bind_some]at a
    subst a
    simp only at q
    obtain⟨o,g,rfl⟩:=Option.map_eq_some_iff.1 q
    have p:=I o g
    show(o.all (eG 2)&&o.all (eG 2))=true
    rw[p];rfl
  ·rintro f b s J l
   simp only[Option.bind_eq_bind,Option.bind_eq_some_iff]at l
   obtain⟨i,a,l⟩:=l
   have B:∀(c:Nat) o,(if c>Made.mostCells then none else do pure ((<-b.2.2.2.2.2.2.2.1)++(<-i.zero).cells))=some o->o.all (eG 2)=true:=by
    intro c o g
    split at g
    ·cases g
    ·simp only[Option.bind_eq_bind,Option.bind_eq_some_iff]at g
     obtain⟨x,w,y,A,g⟩:=g
     have g:=Option.some.inj g
     subst g
     have K:=J x w
     have C:=h f.type i y a A
     simp only[jx,Bool.and_eq_true]at C
     rw[Array.all_append,K,C.1]
     rfl
   split at l
   ·simp only[Option.bind_eq_some_iff]at l
    obtain⟨_,l,_⟩:=l
    cases l
   ·split at l
    ·simp only[Option.bind_eq_some_iff]at l
     obtain⟨_,l,_⟩:=l
     cases l
    ·split at l
     all_goals
      simp only[Option.bind_eq_some_iff]at l
      obtain⟨L,_,l⟩:=l
      split at l
      all_goals
       have l:=Option.some.inj l
       subst l
       exact B _
  ·intro o g
   cases g
   simp
 |_=>cases a
def Gf{T:Tables}(h:∀(t:Nat) (i:TypeInfo) (z:cq),T.types[t]? =some i->i.zero=some z->jx z=true):∀(t:cw) (i:TypeInfo) (z:cq),T.info? t=some i->i.zero=some z->eG 3 z=true:=by
 have c:∀(f:Nat) (t:cw) (i:TypeInfo) (z:cq),Made.infoAt T f t=some i->i.zero=some z->jx z=true:=by
  intro f;induction f with
  |zero=>intro t i z a _;cases a
  |succ f e=>
   intro t i z a b;simp only[Made.infoAt]at a;split at a;exact h t i z a b;obtain⟨d,_,a⟩:=sM.1 a;exact Bw e d i z a b
 intro t i z a b;have:jx z=true:=by unfold Tables.info? at a;split at a;exact h t i z a b;exact c _ t i z a b
 simp only[jx,dW]at this;exact this.2
end Go.cP
variable{l f:List Nat}
namespace Go.Proofs.W
open Go Go.cP
noncomputable def okF(L:cz)(a:Bool)(d:Nat->Bool)(f:Nat):Bool:=match V.prog.funcs[f]? with
 |some b=>match b.body with
  |some c=>gD V.prog (λg=>L.contains g) a (d f) c&&!(b.name== "runtime.NumGoroutine")
  |none=>false
 |none=>false
def tT{b:Nat->Bool}(h:l.all (okF l D b)=true)(f:Nat)(d:l.contains f=true):
 ∃a c,V.prog.funcs[f]? =some a/\a.body=some c/\gD V.prog (λg=>l.contains g) D (b f) c=true/\(a.name== "runtime.NumGoroutine")=false:=by
 have:=mU.1 h f (by simpa using d);unfold okF at this;split at this;rename_i a e;split at this;rename_i c i;simp only[dW,tE]at this;exact⟨a,c,e,i,this.1,this.2⟩;cases this;cases this
def V.LP(P:cA)(f:Nat)(x:Func)(n:Nat)(h:f≠n):(V.sub P (P.funcs.setIfInBounds n x)).funcs[f]? =P.funcs[f]? :=by show(P.funcs.setIfInBounds n x)[f]? =P.funcs[f]?;rw[eo (gh h)]
def V.wU(f:Nat)(h:f≠163):V.prog.funcs[f]? =PR.funcs[f]? :=V.LP Tryz.prog f V.f163 163 h
noncomputable def Wc(t:Nat):Bool:=match Tryz.prog.types[t]? with
 |some i=>match i.zero with
  |some a=>jx a
  |none=>true
 |none=>true
def Tm:(List.range 291).all Wc=true:=by kernel_rfl
theorem V.zero(t:cw)(i:TypeInfo)(z:cq)(a:V.prog.info? t=some i)(c:i.zero=some z):eG 3 z=true:=by rw[V.Hx]at a;refine Gf (T:=Tryz.prog.toTables) (λt i z a c=>?_) t i z a c;have b:t<Tryz.prog.types.size:=(eU.1 a).1;rw[Tryz.types_size]at b;have:=mU.1 Tm t (gR.2 b);unfold Wc at this;rw[a]at this;simp only[c]at this;exact this
def V.Dg:V.prog.globals.size=0:=by rw[show V.prog.globals=Tryz.prog.globals from cT Tables.globals V.Ag,Tryz.globals_size]
def As(P:cA):5<=P.depth:=by have h:P.depth=2*(P.types.size+100)+2:=rfl;omega
def _root_.Go.cP.Hv.obj{m:Option Nat}(h:Hv R m O Q)(a:m=none):jM R O Q:=by rcases h with⟨_,h⟩|⟨n,e,_⟩;exact h;rw[a]at e;cases e
def V.bad:V.prog.info? sR=none:=by kernel_rfl
def V.fit{a:Nat->Bool}(h:l.all (okF l D a)=true):Fit V.prog (λg=>l.contains g) D:=
 ⟨V.zero,λf b=>by obtain⟨d,c,e,i,_,j⟩:=tT h f b;exact⟨d,c,e,j,i⟩,V.Dg,As _,V.bad⟩
noncomputable def oW(L:cz)(df:Nat->Bool)(B:cN):dm where
 S:=λg=>L.contains g
 dim:=true
 ok:=λf=>gD V.prog (λg=>L.contains g) true (df f)
 df:=df
 fs:=PR.funcs
 hole:=λ_=>false
 r:=λb c=>b=c/\B b
 mg:=λ_ _ _ h a=>h.1.symm.trans a.1
 oq:=λ_ _ _ h a=>.inl (h.1.trans a.1.symm)
def Au{k:Nat->Bool}(h:l.all (okF l true k)=true)(d:¬l.contains 163=true):Go.cP.Good V.prog (oW l k B):=by refine⟨V.fit h,rfl,λf a _=>?_,⟨λf a=>?_⟩,λ_ _=>rfl⟩;obtain⟨g,c,b,i,m,_⟩:=tT h f a;exact⟨g,c,b,i,m⟩;obtain⟨g,c,b,i,_,n⟩:=tT h f a;have j:f≠163:=λe=>d (by subst e;exact a);exact⟨g,c,(V.wU f j).symm.trans b,n,i,λ_=>b⟩
def OY(P Q:cA)(h:Q.toTables=P.toTables):Q.it P.funcs=P:=by cases P;cases Q;simp only at h;subst h;rfl
def OZ:V.prog.it PR.funcs=PR:=OY Tryz.prog jD V.Ag
end Go.Proofs.W
namespace Go.Proofs.W
open Go.Conc Go.cP Go.cP.Cr Go.cP.Wg Go.RowKit Go.Conc.Lib Go.ConcR.Gen
open Go.ConcR (KK wgBlock WgAt stA smA mk DC0)
structure KO(bl:List (Nat×Obj))(Q:cn->Prop)(m0:Nat)(w:cn):Prop where
 at_:∀x∈bl,w.heap[x.1]? =some x.2
 inc:(bl.map (·.1)).Pairwise (·>·)
 lo:∀x∈bl,m0<=x.1
 sz:m0<=w.heap.size
 q:Q w
section
variable{P:cA}{ty:cw}{Wg:Nat}{main:Bool}{own rd:Nat->Prop}{S:gW}{Q:cn->Prop}{m0:Nat}{bl:List (Nat×Obj)}{g:cx} {b:Frame}{a:Act}{k:List Item}{cs:List Frame}{ops:Array Oper}{i:Nat}{rest:List Nat}{o:Oper}{v:cq}
theorem KO.rely{L:cU}(a:∀x∈bl,own x.1)(d:wD rd Q):nN own rd L (KO bl Q m0):=λ_ _ b h=>
 ⟨λx c=>b.obj (.inl (a x c)) (h.at_ x c),h.inc,h.lo,cZ h.sz b.size,d.rely b h.q⟩
theorem WK.Gg{ob:Obj}{f:Nat->cq}(g:∀x∈bl,own x.1)(r:wD rd Q)(v:ops[i]? =some o)(z:Region.wanted o (yielded ops a.tmps)=true)(A:b.kind≠ .early) (B:∀w,KO bl Q m0 w->(execOp a.eval o).run P w=.ok (.value (f w.heap.size)) {w with heap:=w.heap.push ob})
 (C:∀w,KO bl Q m0 w->∀e∈(execOp a.eval o).events P w #[],EvW own rd w.heap.size (w.heap.size+1) e) (D:∀c,(∀x∈bl,x.1<c)->m0<=c->WK P ty Wg main rd S (λx=>own x\/x=c) (KO ((c,ob)::bl) Q m0) (G (b.at (a.put o.dst (f c)) (.inRegion ops rest::k)) cs)):
 WK P ty Wg main rd S own (KO bl Q m0) (G (b.at a (.inRegion ops (i::rest)::k)) cs):=by
 refine WK.new (f:=f) (ob:=ob) (KO.rely g r) v z A B C λc=>?_;rintro w ⟨l,m,rfl,n⟩;have p:∀x∈bl,x.1<l.me:=λx d=>lt_of_heap (m.at_ x d)
 have j:dT (λx=>own x\/x=l.me) rd (Lv ty Wg) l {l with heap:=l.heap.push ob}:=⟨rfl,rfl,rfl,by simp,λb F _=>by
  show(l.heap.push ob)[b]? =_;rw[nS];split;omega;rfl,λh=>by
  obtain⟨s,t,h⟩:=h;refine⟨s,t,?_⟩;have u:l.heap[Wg]? =some (wgBlock ty s t):=h;show(l.heap.push ob)[Wg]? =_;rw[nS];split;have:=lt_of_heap u;omega;exact u⟩
 refine D l.me p m.sz w (KO.rely (λx d=>?_) r _ _ n ⟨λx d=>?_,?_,λx d=>?_,?_,r.rely j m.q⟩);rcases eO.1 d with rfl|d;exact .inr rfl;exact .inl (g x d);rcases eO.1 d with rfl|d;simp;exact j.obj (.inl (.inl (g x d))) (m.at_ x d);simp only[lq,List.pairwise_cons];exact⟨λy E=>by obtain⟨x,d,rfl⟩:=mq.1 E;exact p x d,m.inc⟩;rcases eO.1 d with rfl|d;exact m.sz;exact m.lo x d;have:=m.sz;simp;omega
theorem WK.LQ{pre:List (Nat×Obj)}{c:Nat}{ob ob':Obj}(g:∀x∈pre++(c,ob)::bl,own x.1)(r:wD rd Q)(s:∀b,own b->¬rd b)(u:ops[i]? =some o)(v:Region.wanted o (yielded ops a.tmps)=true)(y:b.kind≠ .early) (z:∀w,KO (pre++(c,ob)::bl) Q m0 w->∃j,(execOp a.eval o).run P w=.ok .skip j/\j.tape=w.tape/\j.os=w.os/\j.output=w.output/\j.heap.size=w.heap.size/\(∀d,d≠c->j.heap[d]? =w.heap[d]?)/\j.heap[c]? =some ob') (A:∀w,KO (pre++(c,ob)::bl) Q m0 w->∀e∈(execOp a.eval o).events P w #[],EvW own rd w.heap.size w.heap.size e) (B:WK P ty Wg main rd S own (KO (pre++(c,ob')::bl) Q m0) (G (b.at (a.put o.dst undef) (.inRegion ops rest::k)) cs)):WK P ty Wg main rd S own (KO (pre++(c,ob)::bl) Q m0) (G (b.at a (.inRegion ops (i::rest)::k)) cs):=by
 refine WK.write (bl:=c) (W:=λ_ j=>j.heap[c]? =some ob') (KO.rely g r) u v y (g (c,ob) (by simp)) (λw m=>?_) A ?_;obtain⟨j,C,D,E,F,H,I,J⟩:=z w m;exact⟨j,C,D,E,F,H,I,J⟩;refine WK.mono B ?_;rintro w ⟨K,L,m,M,t,l,p⟩;have n:∀x∈pre++(c,ob')::bl,own x.1:=λx f=>by rcases jH.1 f with f|f;exact g x (jH.2 (.inl f));rcases eO.1 f with rfl|f;exact g (c,ob) (by simp);exact g x (by simp[f])
 have h:=m.inc;simp only[vB,lq,List.pairwise_append,List.pairwise_cons]at h;refine KO.rely n r _ _ p ⟨λx f=>?_,?_,λx f=>?_,?_,?_⟩;rcases jH.1 f with f|f;have:x.1>c:=h.2.2 x.1 (mq.2 ⟨x,f,rfl⟩) c (by simp);rw[l _ (by omega)];exact m.at_ x (jH.2 (.inl f));rcases eO.1 f with rfl|f;exact M;have:c>x.1:=h.2.1.1 x.1 (mq.2 ⟨x,f,rfl⟩);rw[l _ (by omega)];exact m.at_ x (by simp[f]);simp only[vB,lq,List.pairwise_append,List.pairwise_cons];exact h;rcases jH.1 f with f|f;exact m.lo x (jH.2 (.inl f));rcases eO.1 f with rfl|f;exact m.lo (c,ob) (by simp);exact m.lo x (by simp[f]);rw[t];exact m.sz;refine r K L (by rw[t];exact cJ _) (λb _ N=>l b λe=>?_) m.q;subst e;exact s b (g (b,ob) (by simp)) N
end
end Go.Proofs.W
variable{W X:Array cq}
namespace Go.Proofs.W
open Go.Conc Go.cP Go.cP.Cr Go.cP.Wg Go.RowKit Go.Conc.Lib Go.ConcR.Gen
open Go.ConcN Go.ConcN.Gen
open Go.ConcR (KK wgBlock WgAt stA smA mk DC0)
noncomputable def Dh:Code:=(Go.Code.cond (Go.Operand.tmp 40) Go.Code.skip (Go.Code.exit 2)).seq (Go.Code.block 3 ((Go.Code.region 15 uX false).seq (Go.Code.region 16 uY false)))
structure I4 where
 (x5 W9 x24 x25 x26 x27 x28 Xa Xb Xc Xd Xe Xf Xg Xh Xi:cq)
noncomputable def Av(e:qO)(m:I4)(k l o p n A:Nat)(q a b c d f g h i j:cq):Act:=
 xS e k l o n m.x5 (.slice (some ⟨A,0,none⟩) n n) q m.W9 m.x24 m.x25 m.x26 m.x27 m.x28 m.Xa m.Xb m.Xc m.Xd m.Xe m.Xf m.Xg m.Xh m.Xi (.chan (some p)) a b c d f g h i j
structure KB(Wg lc:Nat)(rd own:Nat->Prop)(K0:cn->Prop)(lv:Array cq)(w:cn):Prop where
 was:∃w0,K0 w0/\lc=w0.heap.size/\w0.heap.size<=w.heap.size/\∀x,x<w0.heap.size->own x\/rd x->w.heap[x]? =w0.heap[x]?
 live:Lv 241 Wg w
 l:w.heap[lc]? =some (.cells lv 247)
def KB.rely{rd own:cN}:nN (λx=>own x\/x=k) rd (Lv 241 m) (KB m k rd own S W):=λw j a h=>by obtain⟨c,d,e,f,g⟩:=h.was;exact⟨⟨c,d,e,cZ f a.size,λx i b=>(a.heap x (by omega) (b.imp .inl id)).trans (g x i b)⟩,a.live h.live,a.obj (.inl (.inr rfl)) h.l⟩
def I5{e:qO}{m:I4}{M N Wg Ch n pb A i:Nat}{Q:cU}{D own:cN}{J:Nat->(cN)->cn->cq->Prop}{S:gW}{Sb:Nat->Bool}{cs:List Frame}(hn:n<=65536)(hi:i<n)(ai:own A)(h1:D M)(h3:D N)(hQ:qP D Q)(hP:xU J) {sa:ek}{sl sc:Nat}{mm k:Int}{b:Bool} (x7 Y Z aa ab ac ad ae af:cq) (ag:∀own' x7 am Y Z aa ab ac ad ae af,WK PR 241 Wg true D S own' (KR M N Wg Ch A pb n D Q J own' (upd Sb i true)) (G (kD.at (Av e m M N Wg Ch n A x7 am Y Z aa ab ac ad ae af) [.code n4,.inLoop n4,.inBlock 2,.code kU]) cs)):
 WK PR 241 Wg true D S own (λw=>KR M N Wg Ch A pb n D Q J own Sb w/\∃H,(∀x,H x->own x/\x≠A/\x<w.heap.size)/\J i H w (nx sa sl sc mm k b))
  (G (kD.at (Av e m M N Wg Ch n A x7 (.tuple #[Bu i sa sl sc mm k b,.bool true]) Y Z aa ab ac ad ae af) [.inRegion lG [1],.code Dh,.inLoop n4,.inBlock 2,.code kU]) cs):=by
 have C:nN own D (Lv 241 Wg) (λw=>KR M N Wg Ch A pb n D Q J own Sb w/\∃H,(∀x,H x->own x/\x≠A/\x<w.heap.size)/\J i H w (nx sa sl sc mm k b)):=λw w1 I h=>⟨KR.rely h1 h3 hQ hP w w1 I h.1,h.2.imp λH h=>⟨λx z=>⟨(h.1 x z).1,(h.1 x z).2.1,dE (h.1 x z).2.2 I.size⟩,hP _ _ _ _ _ (λx z=>I.heap x (h.1 x z).2.2 (.inl (h.1 x z).1)) h.2⟩⟩;have K:∀d lv,nN (λx=>own x\/x=d) D (Lv 241 Wg) (KB Wg d D own (λw=>KR M N Wg Ch A pb n D Q J own Sb w/\∃H,(∀x,H x->own x/\x≠A/\x<w.heap.size)/\J i H w (nx sa sl sc mm k b)) lv):=λ_ _=>KB.rely;simp only[lG,Av,xS];refine WK.val (v:=?_) C rfl rfl (by k_ne) (λw=>?_) (λw=>?_) ?_;rotate_left;go_simp;rfl;go_simp;walk_nrm;refine WK.ctl C rfl (λ_=>cE)<|WK.ctl C rfl (λ_=>cI)<|WK.ctl C rfl (λ_=>stepG_cond (t:=true) rfl) ?_;simp only[dF];refine WK.ctl C rfl (λ_=>eJ)<|WK.ctl C rfl (λ_=>qz)<|WK.ctl C rfl (λ_=>cI)<|WK.ctl C rfl (λ_=>gi) ?_;simp only[uX,gK,eI,fB,Nat.reduceAdd,cG,List.range,List.range.loop];refine WK.val (v:=?_) C rfl rfl (by k_ne) (λw=>?_) (λw=>?_) ?_;rotate_left;go_simp;rfl;go_simp;walk_nrm;refine WK.new (f:=λn=>dI n) (ob:=.cells #[i64 0,jK,i64 0,i64 0,.bool false] 247) C rfl rfl (by k_ne) (λw q=>?_) (λw q e o=>?_) (λd=>?_)
 ·go_simp;first|done|rfl
 simp[go_sem]at o;refine WK.mono (K':=KB Wg d D own (λw=>KR M N Wg Ch A pb n D Q J own Sb w/\∃H,(∀x,H x->own x/\x≠A/\x<w.heap.size)/\J i H w (nx sa sl sc mm k b)) #[i64 0,jK,i64 0,i64 0,.bool false]) ?_ ?_;rotate_left;rintro w ⟨P,q,rfl,I⟩;refine K _ _ _ _ I ⟨⟨P,q,rfl,by simp,λx z _=>?_⟩,rO q.1.s.live,by simp⟩;show(P.heap.push _)[x]? =_;rw[nS];split;omega;rfl;walk_nrm;refine WK.write (bl:=d) (W:=λ_ w'=>w'.heap[d]? =some (.cells #[i64 i,.slice sa sl sc,i64 mm,i64 k,.bool b] 247)) (K _ _) rfl rfl (by k_ne) (.inr rfl) (λw q=>?_) (λw q e o=>?_) ?_;have g:=q.l;have c0:w.cell? (cY d 0)=some (i64 0):=by simp[World.cell?,g]
 have f0:w.frozen? (cY d 0)=false:=by simp[World.frozen?,g]
 have R:w.cell? (cY d 1)=some jK:=by simp[World.cell?,g]
 have f1:w.frozen? (cY d 1)=false:=by simp[World.frozen?,g]
 have T:w.cell? (cY d 2)=some (i64 0):=by simp[World.cell?,g]
 have f2:w.frozen? (cY d 2)=false:=by simp[World.frozen?,g]
 have U:w.cell? (cY d 3)=some (i64 0):=by simp[World.cell?,g]
 have f3:w.frozen? (cY d 3)=false:=by simp[World.frozen?,g]
 have c4:w.cell? (cY d 4)=some (.bool false):=by simp[World.cell?,g]
 have f4:w.frozen? (cY d 4)=false:=by simp[World.frozen?,g]
 simp only[Bu];go_simp;refine⟨by simp[World.setCell],by simp[World.setCell],λc ah=>?_,?_⟩;simp[World.setCell,mR,gh ah];simp[World.setCell,mR,g];have g:=q.l;have c0:w.cell? (cY d 0)=some (i64 0):=by simp[World.cell?,g]
 have f0:w.frozen? (cY d 0)=false:=by simp[World.frozen?,g]
 have R:w.cell? (cY d 1)=some jK:=by simp[World.cell?,g]
 have f1:w.frozen? (cY d 1)=false:=by simp[World.frozen?,g]
 have T:w.cell? (cY d 2)=some (i64 0):=by simp[World.cell?,g]
 have f2:w.frozen? (cY d 2)=false:=by simp[World.frozen?,g]
 have U:w.cell? (cY d 3)=some (i64 0):=by simp[World.cell?,g]
 have f3:w.frozen? (cY d 3)=false:=by simp[World.frozen?,g]
 have c4:w.cell? (cY d 4)=some (.bool false):=by simp[World.cell?,g]
 have f4:w.frozen? (cY d 4)=false:=by simp[World.frozen?,g]
 simp only[Bu]at o;have B:∀(w:cn) (B:Array Event) (a:Addr) (m:Mode) (x:ek) (l c:Nat),(store a (.slice x l c) m).events PR w B=storedEv PR w B a (.slice x l c) m:=λw B a m x l c=>events_store PR w B a _ m rfl;have eb:∀(w:cn) (B:Array Event) (a:Addr) (m:Mode) (x:Bool),(store a (.bool x) m).events PR w B=storedEv PR w B a (.bool x) m:=λw B a m x=>events_store PR w B a _ m rfl;simp[go_sem,B,eb,c0,R,T,U,c4,f0,f1,f2,f3,f4]at o;rcases o with o|o|o|o|o<;>exact .inl ⟨_,_,o,.inl (.inr rfl)⟩;refine WK.mono (K':=KB Wg d D own (λw=>KR M N Wg Ch A pb n D Q J own Sb w/\∃H,(∀x,H x->own x/\x≠A/\x<w.heap.size)/\J i H w (nx sa sl sc mm k b)) #[i64 i,.slice sa sl sc,i64 mm,i64 k,.bool b]) ?_ ?_;rotate_left;rintro w ⟨P,w1,q,hW,hs,ho,I⟩;obtain⟨an,k1,k2,k3,k4⟩:=q.was;obtain⟨st,sm,hl⟩:=q.live;refine K _ _ _ _ I ⟨⟨an,k1,k2,by omega,λx z ao=>(ho x (by omega)).trans (k4 x z ao)⟩,⟨st,sm,(ho Wg ?_).trans hl⟩,hW⟩;have:=k1.1.lw;obtain⟨aB,aC,ap⟩:=k1.1.s.live;have:=lt_of_heap ap;omega;walk_nrm;have u:=K d #[i64 i,.slice sa sl sc,i64 mm,i64 k,.bool b];refine WK.ctl u rfl (λ_=>cE)<|WK.ctl u rfl (λ_=>gi) ?_;simp only[uY,gK,eI,fB,Nat.reduceAdd,cG,List.range,List.range.loop];refine WK.val (v:=?_) u rfl rfl (by k_ne) (λw=>?_) (λw=>?_) ?_;rotate_left;go_simp;rfl;go_simp;walk_nrm;refine WK.val (v:=?_) u rfl rfl (by k_ne) (λw=>?_) (λw=>?_) ?_;rotate_left;go_simp;rfl;go_simp;walk_nrm;refine WK.load (v:=i64 i) u rfl rfl (by k_ne) (λw q=>?_) (λw q e o=>?_) ?_;have g:=(λw q=>(show w.cell? (cY d 0)=some (i64 i) by simp[World.cell?,q.l])) w q;go_simp;have g:=(λw q=>(show w.cell? (cY d 0)=some (i64 i) by simp[World.cell?,q.l])) w q;simp[go_sem,g]at o;exact .inl ⟨_,_,o,.inl (.inr rfl)⟩;walk_nrm;refine WK.val (v:=?_) u rfl rfl (by k_ne) (λw=>?_) (λw=>?_) ?_;rotate_left;go_simp;rfl;go_simp;walk_nrm;refine WK.load (v:=nx sa sl sc mm k b) u rfl rfl (by k_ne) (λw q=>?_) (λw q e o=>?_) ?_
 ·have g:=q.l;have R:w.cell? (cY d 1)=some (.slice sa sl sc):=by simp[World.cell?,g]
  have T:w.cell? (cY d 2)=some (i64 mm):=by simp[World.cell?,g]
  have U:w.cell? (cY d 3)=some (i64 k):=by simp[World.cell?,g]
  have c4:w.cell? (cY d 4)=some (.bool b):=by simp[World.cell?,g]
  go_simp;first|done|rfl
 have g:=q.l;have R:w.cell? (cY d 1)=some (.slice sa sl sc):=by simp[World.cell?,g]
 have T:w.cell? (cY d 2)=some (i64 mm):=by simp[World.cell?,g]
 have U:w.cell? (cY d 3)=some (i64 k):=by simp[World.cell?,g]
 have c4:w.cell? (cY d 4)=some (.bool b):=by simp[World.cell?,g]
 simp[go_sem,R,T,U,c4]at o;rcases o with o|o|o|o<;>exact .inl ⟨_,_,o,.inl (.inr rfl)⟩;walk_nrm;refine WK.val (v:=Ba A (4*i)) u rfl rfl (by k_ne) (λw=>?_) (λw=>?_) ?_;go_simp<;>omega;simp[go_sem];exact events_indexAt_slice _ _ _ _ _ _ (by kernel_rfl) ⟨by omega,by omega⟩;walk_nrm;refine WK.write (bl:=A) (W:=λw w'=>∀cs:dU,w.heap[A]? =some (.cells cs 199)->w'.heap[A]? =some (.cells ((((cs.setIfInBounds (4*i) (.slice sa sl sc)).setIfInBounds (4*i+1) (i64 mm)).setIfInBounds (4*i+2) (i64 k)).setIfInBounds (4*i+3) (.bool b)) 199)) u rfl rfl (by k_ne) (.inl ai) (λw q=>?_) (λw q e o=>?_) ?_;obtain⟨P,⟨I,_⟩,_,_,p⟩:=q.was;obtain⟨y,V,aj,_⟩:=I.a;have F:w.heap[A]? =some (.cells y 199):=(p A (lt_of_heap V) (.inl I.oa)).trans V;have c0:w.cell? (cY A (4*i))=some (y[4*i]'(by omega)):=by simp[World.cell?,F]
 have R:w.cell? (cY A (4*i+1))=some (y[4*i+1]'(by omega)):=by simp[World.cell?,F]
 have T:w.cell? (cY A (4*i+2))=some (y[4*i+2]'(by omega)):=by simp[World.cell?,F]
 have U:w.cell? (cY A (4*i+3))=some (y[4*i+3]'(by omega)):=by simp[World.cell?,F]
 have f0:w.frozen? (cY A (4*i))=false:=by simp[World.frozen?,F]
 have f1:w.frozen? (cY A (4*i+1))=false:=by simp[World.frozen?,F]
 have f2:w.frozen? (cY A (4*i+2))=false:=by simp[World.frozen?,F]
 have f3:w.frozen? (cY A (4*i+3))=false:=by simp[World.frozen?,F]
 simp only[nx];go_simp;refine⟨by simp[World.setCell],by simp[World.setCell],λc ah=>?_,?_⟩;simp[World.setCell,mR,gh ah];simp[World.setCell,mR,F];obtain⟨P,⟨I,_⟩,_,_,p⟩:=q.was;obtain⟨y,V,aj,_⟩:=I.a;have F:w.heap[A]? =some (.cells y 199):=(p A (lt_of_heap V) (.inl I.oa)).trans V;have c0:w.cell? (cY A (4*i))=some (y[4*i]'(by omega)):=by simp[World.cell?,F]
 have R:w.cell? (cY A (4*i+1))=some (y[4*i+1]'(by omega)):=by simp[World.cell?,F]
 have T:w.cell? (cY A (4*i+2))=some (y[4*i+2]'(by omega)):=by simp[World.cell?,F]
 have U:w.cell? (cY A (4*i+3))=some (y[4*i+3]'(by omega)):=by simp[World.cell?,F]
 have f0:w.frozen? (cY A (4*i))=false:=by simp[World.frozen?,F]
 have f1:w.frozen? (cY A (4*i+1))=false:=by simp[World.frozen?,F]
 have f2:w.frozen? (cY A (4*i+2))=false:=by simp[World.frozen?,F]
 have f3:w.frozen? (cY A (4*i+3))=false:=by simp[World.frozen?,F]
 have B:∀(w:cn) (B:Array Event) (a:Addr) (m:Mode) (x:ek) (l c:Nat),(store a (.slice x l c) m).events PR w B=storedEv PR w B a (.slice x l c) m:=λw B a m x l c=>events_store PR w B a _ m rfl;have eb:∀(w:cn) (B:Array Event) (a:Addr) (m:Mode) (x:Bool),(store a (.bool x) m).events PR w B=storedEv PR w B a (.bool x) m:=λw B a m x=>events_store PR w B a _ m rfl;simp only[nx]at o;simp[go_sem,B,eb,c0,R,T,U,f0,f1,f2,f3]at o;rcases o with o|o|o|o<;>exact .inl ⟨_,_,o,.inl (.inl ai)⟩;refine WK.mono (K':=KR M N Wg Ch A pb n D Q J (λx=>own x\/x=d) (upd Sb i true)) ?_ ?_;rotate_left;rintro w ⟨w1,w2,q,hW,hs,ho,I⟩;refine KR.rely h1 h3 hQ hP _ _ I ?_;obtain⟨P,⟨E,H,L,aq⟩,aD,aj,p⟩:=q.was;obtain⟨y,V,ak,al⟩:=E.a;have ar:w1.heap[A]? =some (.cells y 199):=(p A (lt_of_heap V) (.inl E.oa)).trans V;have X:∀x,own x->x≠A->x<P.heap.size->w2.heap[x]? =P.heap[x]? :=λx z au av=>(ho x au).trans (p x av (.inl z));obtain⟨st,sm,hl⟩:=q.live;refine⟨⟨E.s.k.same h1 h3 hQ (by omega) λx z=>(ho x (by have:=E.lr x z;omega)).trans (p x (E.s.k.r x z) (.inr z)),⟨st,sm,(ho Wg (by have:=E.lw;omega)).trans hl⟩⟩,⟨_,hW y ar,by simp[ak],λj hj hS=>?_⟩,.inl E.oa,E.lr,E.lw⟩;by_cases e:j=i;subst e
 refine⟨sa,sl,sc,mm,k,b,H,λx z=>⟨.inl (L x z).1,(L x z).2.1,by have:=(L x z).2.2;omega⟩,?_,?_,?_,?_,hP _ _ _ _ _ (λx z=>X x (L x z).1 (L x z).2.1 (L x z).2.2) aq⟩<;>
  simp[Array.getElem?_setIfInBounds,ak]<;>omega
 have aw:Sb j=true:=by rwa[upd_ne _ _ e]at hS
 obtain⟨ax,ay,az,m',k',b',aA,g1,g2,g3,g4,g5,g6⟩:=LO.same (own':=λx=>own x\/x=d) hP (al j hj aw) (λ_ h=>.inl h) (by omega:P.heap.size<=w2.heap.size) X;refine⟨ax,ay,az,m',k',b',aA,g1,?_,?_,?_,?_,g6⟩;rw[eo (by omega),eo (by omega),eo (by omega),eo (by omega)];exact g2;rw[eo (by omega),eo (by omega),eo (by omega),eo (by omega)];exact g3;rw[eo (by omega),eo (by omega),eo (by omega),eo (by omega)];exact g4;rw[eo (by omega),eo (by omega),eo (by omega),eo (by omega)];exact g5;have O:nN (λx=>own x\/x=d) D (Lv 241 Wg) (KR M N Wg Ch A pb n D Q J (λx=>own x\/x=d) (upd Sb i true)):=KR.rely h1 h3 hQ hP;exact WK.ctl O rfl (λ_=>cE)<|WK.ctl O rfl (λ_=>stepG_inBlock)<|WK.ctl O rfl (λ_=>stepG_inLoop)<|ag _ _ _ _ _ _ _ _ _ _ _
def qR(S:Nat->Bool)(n:Nat):Nat:=sumTo n λj=>if S j=true then 1 else 0
theorem HW(S:Nat->Bool):∀n,qR S n<=n
 |0=>by simp[qR,sumTo]
 |n+1=>by have:=HW S n;simp only[qR,sumTo]at*;split<;>omega
theorem Di(S:Nat->Bool):∀n,qR S n=n->∀j,j<n->S j=true
 |0,_,j,c=>by omega
 |n+1,h,j,c=>by
  have a:=HW S n;simp only[qR,sumTo]at h a;by_cases e:S n=true;rw[cB e]at h;rcases fj j n with b|b;exact Di S n (by simp only[qR];omega) j b;obtain rfl:j=n:=by omega
  exact e;rw[cy e]at h;omega
theorem Dj(S:Nat->Bool)(i:Nat)(a:S i=false):∀n,i<n->qR (upd S i true) n=qR S n+1
 |0,h=>by omega
 |n+1,h=>by
  by_cases e:i=n;subst e;have b:qR (upd S i true) i=qR S i:=sumTo_congr λj d=>by rw[upd_ne _ _ (by omega)]
  simp only[qR,sumTo]at b⊢;rw[b,upd_same,a];simp;have c:=Dj S i a n (by omega);simp only[qR,sumTo]at c⊢;rw[c,upd_ne _ _ (by omega)];omega
noncomputable def HX(e:qO)(m:I4)(j k l o n A:Nat)(p a b c d f g h i:cq)(q:List Frame):cx:=
 G (kD.at (Av e m j k l o n A p (.tuple #[qQ,.bool false]) a b c d f g h i) [.inRegion lG [1],.code Dh,.inLoop n4,.inBlock 2,.code kU]) q
def Tn(e:qO)(m:I4)(l o p q A r n:Nat)(s:cN)(Q:cU)(t:Nat->(cN)->cn->cq->Prop)(u:List Frame):gW:=λa g w=>
 ∃v b c d f h i j k,g=HX e m l o p q n A v b c d f h i j k u/\KR l o p q A r n s Q t a (λ_=>true) w
def KR.all{e:Nat->(cN)->cn->cq->Prop}{f g:Nat->Bool}(h:KR m k i j o p s B S e A f w)(n:∀b,b<s->g b=true->f b=true):KR m k i j o p s B S e A g w:=by obtain⟨q,r,c,t⟩:=h.a;exact⟨h.s,⟨q,r,c,λb l d=>t b l (n b l d)⟩,h.oa,h.lr,h.lw⟩
def hears{e:qO}{m:I4}{F H Wg Ch n pb A:Nat}{Q:cU}{C:Nat->(cN)->cn->cq->Prop}{cs:List Frame}{D:gW}(J:∀own g w,Tn e m F H Wg Ch A pb n B Q C cs own g w->D own g w)(hn:n<=65536)(P:B F)(R:B H)(T:qP B Q)(O:xU C):∀(r:Nat) (S:Nat->Bool) (own:cN) (I y d f l o p q t u:cq),qR S n+r=n->WK PR 241 Wg true B (nX PR 241 Wg Ch n B (Dd C) D qQ r S) own (KR F H Wg Ch A pb n B Q C own S) (G (kD.at (Av e m F H Wg Ch n A I y d f l o p q t u) [.code n4,.inLoop n4,.inBlock 2,.code kU]) cs):=by
 intro r;induction r with
 |zero=>
  intro S own I y d f l o p q t u hc;have c:nN own B (Lv 241 Wg) (KR F H Wg Ch A pb n B Q C own S):=KR.rely P R T O;refine WK.ctl c rfl (λ_=>cI)<|WK.ctl c rfl (λ_=>gi) ?_;rw[show List.range lG.size=[0,1]from rfl];refine WK.stop c λw z=>⟨rfl,λw=>?_,?_⟩;refine(stepG_comm rfl rfl (by k_ne) (Dc (Ch:=Ch) rfl rfl w)).trans ?_;unfold listed;rw[vN (Ch:=Ch) rfl rfl w,seen_none];rw[served_G];exact J _ _ _ ⟨I,d,f,l,o,p,q,t,u,rfl,z.all λj U _=>Di S n (by omega) j U⟩
 |succ r ih=>
  intro S own I y d f l o p q t u hc;have c:nN own B (Lv 241 Wg) (KR F H Wg Ch A pb n B Q C own S):=KR.rely P R T O;refine WK.ctl c rfl (λ_=>cI)<|WK.ctl c rfl (λ_=>gi) ?_;rw[show List.range lG.size=[0,1]from rfl];refine WK.stop c λw z=>⟨rfl,λw=>?_,λi v K Z V L M=>?_⟩;refine(stepG_comm rfl rfl (by k_ne) (Dc (Ch:=Ch) rfl rfl w)).trans ?_;unfold listed;rw[vN (Ch:=Ch) rfl rfl w,seen_none];rw[served_G];obtain⟨sa,sl,sc,mm,k,b,oj,rfl,E,W⟩:=L
  have hl:=I5 (e:=e) (m:=m) (Wg:=Wg) (Ch:=Ch) (n:=n) (pb:=pb) (A:=A) (i:=i) (own:=λb=>own b\/K b) (S:=nX PR 241 Wg Ch n B (Dd C) D qQ r (upd S i true)) (Sb:=S) (cs:=cs) hn Z (.inl z.oa) P R T O (sa:=sa) (sl:=sl) (sc:=sc) (mm:=mm) (k:=k) (b:=b)
   I d f l o p q t u λaa I y d f l o p q t u=>ih _ _ _ _ _ _ _ _ _ _ _ _ (by rw[Dj S i V n Z];omega)
  obtain⟨ca,ha,X,N⟩:=z.a;refine hl w ⟨⟨z.s,⟨ca,ha,X,λj U V=>(N j U V).same O (λ_ h=>.inl h) (cJ _) λ_ _ _ _=>rfl⟩,.inl z.oa,z.lr,z.lw⟩,oj,λx Y=>⟨.inr (E x Y).1,λe=>M x (E x Y).1 (e▸z.oa),(E x Y).2⟩,W⟩
structure Dk(pb:Nat)(oa:Option Addr)(on oc:Nat)(la:Addr)(L C:Nat)(a0:Option Addr)(n c0:Nat)(w:cn):Prop where
 f1:w.cell? ⟨pb,1,none⟩=some (.slice oa on oc)
 ls:LM pb la L C a0 n c0 w
noncomputable def O0(o p q r s t u a b c d e f g h i j k l m n:cq):Act:=
 ⟨#[o,p,q,r,s,undef,undef,undef,t,u,a,b,c,d,e,f,g,h,i,j,k,l,m,n,undef,undef,undef,undef,undef,undef,undef,undef,undef,undef,undef,undef,undef,undef,undef,undef,undef,undef,undef,undef,undef,undef,undef,undef,undef,undef,undef,undef],[]⟩
def Dl(x:cq)(a:List Frame):G (Frame.enter PR 163 #[x] .normal) a=G (kD.at (O0 x undef undef undef undef undef undef undef undef undef undef undef undef undef undef undef undef undef undef undef undef) [.code tR]) a:=by rw[enter_at (fn:=Tryz.f163) (c:=tR) _ Tryz.func163 xR,Tryz.ntmps163];simp only[O0,gK,eI,fB,Nat.reduceAdd,Nat.reduceSub,Array.replicate,List.replicate,List.append_toArray,qx,sr,kD]
noncomputable def i247:TypeInfo:=(PR.info? 247).getD default
def HY:PR.info? 247=some i247:=by kernel_rfl
def Rx(k:Nat)(n:Nat)(Q:cU)(l:Nat)(m:List Frame):gW:=λa g w=>
 ∃(e:qO) (d f h i j c:Nat),g=G (kD.at (mD e d h i n 0 undef undef undef undef undef undef) [.code fI,.inLoop fI,.inBlock 0,.code iM]) m/\e.x2=.pointer (some ⟨f,0,none⟩)/\KO [(i,wgBlock 241 0 0),(h,.cells #[.chan (some j)] 232),(j,.chan 0 #[] false c c false),(f,.cells #[.slice none 0 0,.int .i64 0,.int .i64 0,.bool false] 199),(d,.cells #[.pointer (some ⟨k,0,none⟩)] 200)] Q l w/\∀b,a b↔b=i\/b=h\/b=j\/b=f\/b=d
def LR{u U J L C n K m0:Nat}{a0:ek}{Q:cU}{rd:cN}{cs:List Frame}(D:wD rd Q)(aa:0<U)(hL:0<L) (H:∀w,Q w->Dk u a U J h L C a0 n K w)(M:rd u)(V:rd h.block)(W:∀b,rd b->b<m0):WK PR 241 0 true rd (Rx u n Q m0 cs) cL (KO [] Q m0) (G (Frame.enter PR 163 #[.pointer (some ⟨u,0,none⟩)] .normal) cs):=by
 rw[Dl];have h0:∀x∈([]:List (Nat×Obj)),cL x.1:=λx s=>by cases s
 have N:=KO.rely (Q:=Q) (m0:=m0) (rd:=rd) (own:=cL) (L:=Lv 241 0) h0 D;simp only[tR,O0];refine WK.ctl N rfl (λ_=>cI)<|WK.ctl N rfl (λ_=>gi) ?_;simp only[xO,gK,eI,fB,Nat.reduceAdd,cG,List.range,List.range.loop];refine WK.Gg (f:=λn=>dI n) (ob:=.cells #[dI u] 200) h0 D rfl rfl (by k_ne) (λw c=>?_) (λw c e l=>?_) λr _ _=>?_
 ·go_simp;first|done|rfl
 simp[go_sem]at l;walk_nrm;have h1:∀x∈[(r,Obj.cells #[dI u] 200)],(λx=>cL x\/x=r) x.1:=λx s=>by rw[iJ.1 s];exact .inr rfl
 refine WK.Gg (f:=λn=>dI n) (ob:=.cells #[jK,i64 0,i64 0,.bool false] 199) h1 D rfl rfl (by k_ne) (λw c=>?_) (λw c e l=>?_) λz _ _=>?_
 ·go_simp;first|done|rfl
 simp[go_sem]at l;walk_nrm;have X:∀x∈[(z,Obj.cells #[jK,i64 0,i64 0,.bool false] 199),(r,Obj.cells #[dI u] 200)],(λx=>(cL x\/x=r)\/x=z) x.1:=λx s=>by rcases eO.1 s with rfl|s;exact .inr rfl;rw[iJ.1 s];exact .inl (.inr rfl)
 have j:=KO.rely (m0:=m0) (L:=Lv 241 0) (own:=λx=>(cL x\/x=r)\/x=z) X D;have O:∀w,KO [(z,Obj.cells #[jK,i64 0,i64 0,.bool false] 199),(r,Obj.cells #[dI u] 200)] Q m0 w->w.cell? (cY r 0)=some (dI u):=λw c=>by have:=c.at_ (r,Obj.cells #[dI u] 200) (by simp);simp[World.cell?,this]
 refine WK.ctl j rfl (λ_=>cE)<|WK.ctl j rfl (λ_=>cI)<|WK.ctl j rfl (λ_=>cI)<|WK.ctl j rfl (λ_=>gi) ?_;simp only[xP,gK,eI,fB,Nat.reduceAdd,cG,List.range,List.range.loop];refine WK.load (v:=dI u) j rfl rfl (by k_ne) (λw c=>?_) (λw c e l=>?_) ?_;have p:=(O) w c;go_simp;have p:=(O) w c;simp[go_sem,p]at l;exact .inl ⟨_,_,l,.inl (.inl (.inr rfl))⟩;walk_nrm;refine WK.val (v:=?_) j rfl rfl (by k_ne) (λw=>?_) (λw=>?_) ?_;rotate_left;go_simp;rfl;go_simp;walk_nrm;refine WK.val (v:=?_) j rfl rfl (by k_ne) (λw=>?_) (λw=>?_) ?_;rotate_left;go_simp;rfl;go_simp;walk_nrm;refine WK.load (v:=.slice a U J) j rfl rfl (by k_ne) (λw c=>?_) (λw c e l=>?_) ?_;have p:=(λw c=>(H w c.q).f1) w c;go_simp;have p:=(λw c=>(H w c.q).f1) w c;simp[go_sem,p]at l;exact .inl ⟨_,_,l,.inr (.inl ⟨rfl,M⟩)⟩;walk_nrm;refine WK.val (v:=?_) j rfl rfl (by k_ne) (λw=>?_) (λw=>?_) ?_;rotate_left;go_simp;rfl;go_simp;walk_nrm;refine WK.val (v:=.bool false) j rfl rfl (by k_ne) (λw=>?_) (λw=>?_) ?_;go_simp;omega;simp[go_sem];walk_nrm;refine WK.ctl j rfl (λ_=>cE)<|WK.ctl j rfl (λ_=>stepG_cond (t:=false) rfl) ?_;simp only[ik,eF];refine WK.ctl j rfl (λ_=>eJ)<|WK.ctl j rfl (λ_=>cI)<|WK.ctl j rfl (λ_=>gi) ?_;simp only[C6,gK,eI,fB,Nat.reduceAdd,cG,List.range,List.range.loop];refine WK.Gg (f:=λn=>.chan (some n)) (ob:=.chan 0 #[] false 0 0 false) X D rfl rfl (by k_ne) (λw c=>?_) (λw c e l=>?_) λA _ _=>?_
 ·have:=run_makeChan (P:=PR) (w:=w) (t:=232) (e:=247) (dir:=.both) (i:=i247) (by kernel_rfl) HY .i64 0 (by omega) (by omega);go_simp;first|done|rfl|(rw[this];rfl)
 have Y:(Instr.makeChan 232 (i64 0)).events PR w #[]=#[]:=by have Y:=events_makeChan (P:=PR) (w:=w) (t:=232) (e:=247) (dir:=.both) (i:=i247) (by kernel_rfl) HY .i64 0 (by omega) (by omega) #[];simpa using Y
 have F:e∈(do Pure.pure (Next.value (<-Instr.makeChan 232 (i64 0))):Sem Next).events PR w #[]:=l;simp at F;rw[Y]at F;simp at F;walk_nrm;have h3:∀x∈[(A,Obj.chan 0 #[] false 0 0 false),(z,Obj.cells #[jK,i64 0,i64 0,.bool false] 199),(r,Obj.cells #[dI u] 200)],(λx=>((cL x\/x=r)\/x=z)\/x=A) x.1:=λx s=>by rcases eO.1 s with rfl|s;exact .inr rfl;exact .inl (X x s)
 refine WK.Gg (f:=λn=>dI n) (ob:=.cells #[.chan none] 232) h3 D rfl rfl (by k_ne) (λw c=>?_) (λw c e l=>?_) λy _ _=>?_
 ·go_simp;first|done|rfl
 simp[go_sem]at l;walk_nrm;have S:∀o,∀x∈[(y,o),(A,Obj.chan 0 #[] false 0 0 false),(z,Obj.cells #[jK,i64 0,i64 0,.bool false] 199),(r,Obj.cells #[dI u] 200)],(λx=>(((cL x\/x=r)\/x=z)\/x=A)\/x=y) x.1:=λo x s=>by rcases eO.1 s with rfl|s;exact .inr rfl;exact .inl (h3 x s)
 refine WK.LQ (pre:=[]) (ob':=.cells #[.chan (some A)] 232) (S _) D (λb k Z=>?_) rfl rfl (by k_ne) (λw c=>?_) (λw c e l=>?_) ?_
 ·have:=W b Z;rcases k with(((k|k)|k)|k)|k;exact k;all_goals omega
 have p:=c.at_ (y,Obj.cells #[.chan none] 232) (by simp);have K:w.cell? (cY y 0)=some (.chan none):=by simp[World.cell?,p]
 have f0:w.frozen? (cY y 0)=false:=by simp[World.frozen?,p]
 go_simp;refine⟨by simp[World.setCell],by simp[World.setCell],λd hd=>eA w (cY y 0) _ d hd,?_⟩;simp[World.setCell,mR,p];have p:=c.at_ (y,Obj.cells #[.chan none] 232) (by simp);have K:w.cell? (cY y 0)=some (.chan none):=by simp[World.cell?,p]
 have f0:w.frozen? (cY y 0)=false:=by simp[World.frozen?,p]
 have I:∀(w:cn) (I:Array Event) (T:Addr) (m:Mode) (x:Option Nat),(store T (.chan x) m).events PR w I=storedEv PR w I T (.chan x) m:=λw I T m x=>events_store PR w I T _ m rfl;simp[go_sem,I,K,f0]at l;exact .inl ⟨_,_,l,.inl (.inr rfl)⟩;walk_nrm;have B:=KO.rely (m0:=m0) (L:=Lv 241 0) (own:=λx=>(((cL x\/x=r)\/x=z)\/x=A)\/x=y) (S (Obj.cells #[.chan (some A)] 232)) D;refine WK.ctl B rfl (λ_=>cE)<|WK.ctl B rfl (λ_=>cI)<|WK.ctl B rfl (λ_=>gi) ?_;simp only[C7,gK,eI,fB,Nat.reduceAdd,cG,List.range,List.range.loop];refine WK.Gg (f:=λn=>dI n) (ob:=wgBlock 241 0 0) (S _) D rfl rfl (by k_ne) (λw c=>?_) (λw c e l=>?_) λR _ _=>?_
 ·go_simp;first|done|rfl
 simp[go_sem]at l;walk_nrm;have h5:∀x∈[(R,wgBlock 241 0 0),(y,Obj.cells #[.chan (some A)] 232),(A,Obj.chan 0 #[] false 0 0 false),(z,Obj.cells #[jK,i64 0,i64 0,.bool false] 199),(r,Obj.cells #[dI u] 200)],(λx=>((((cL x\/x=r)\/x=z)\/x=A)\/x=y)\/x=R) x.1:=λx s=>by rcases eO.1 s with rfl|s;exact .inr rfl;exact .inl (S _ x s)
 have g:=KO.rely (m0:=m0) (L:=Lv 241 0) (own:=λx=>((((cL x\/x=r)\/x=z)\/x=A)\/x=y)\/x=R) h5 D;refine WK.ctl g rfl (λ_=>cE)<|WK.ctl g rfl (λ_=>cI)<|WK.ctl g rfl (λ_=>cI)<|WK.ctl g rfl (λ_=>gi) ?_;simp only[C8,gK,eI,fB,Nat.reduceAdd,cG,List.range,List.range.loop];have E:∀w,KO [(R,wgBlock 241 0 0),(y,Obj.cells #[.chan (some A)] 232),(A,Obj.chan 0 #[] false 0 0 false),(z,Obj.cells #[jK,i64 0,i64 0,.bool false] 199),(r,Obj.cells #[dI u] 200)] Q m0 w->w.cell? (cY r 0)=some (dI u):=λw c=>by have:=c.at_ (r,Obj.cells #[dI u] 200) (by simp);simp[World.cell?,this]
 refine WK.load (v:=dI u) g rfl rfl (by k_ne) (λw c=>?_) (λw c e l=>?_) ?_;have p:=(E) w c;go_simp;have p:=(E) w c;simp[go_sem,p]at l;exact .inl ⟨_,_,l,.inl (.inl (.inl (.inl (.inl (.inr rfl)))))⟩;walk_nrm;refine WK.val (v:=?_) g rfl rfl (by k_ne) (λw=>?_) (λw=>?_) ?_;rotate_left;go_simp;rfl;go_simp;walk_nrm;refine WK.val (v:=?_) g rfl rfl (by k_ne) (λw=>?_) (λw=>?_) ?_;rotate_left;go_simp;rfl;go_simp;walk_nrm;refine WK.load (v:=.slice (some h) L C) g rfl rfl (by k_ne) (λw c=>?_) (λw c e l=>?_) ?_;have p:=(λw c=>(H w c.q).ls.f2) w c;go_simp;have p:=(λw c=>(H w c.q).ls.f2) w c;simp[go_sem,p]at l;exact .inl ⟨_,_,l,.inr (.inl ⟨rfl,M⟩)⟩;walk_nrm;refine WK.val (v:=.pointer (some h)) g rfl rfl (by k_ne) (λw=>?_) (λw=>?_) ?_;go_simp;simp[go_sem];exact events_indexAt_slice _ _ _ _ _ _ (by kernel_rfl) ⟨by omega,by omega⟩;walk_nrm;refine WK.load (v:=.slice a0 n K) g rfl rfl (by k_ne) (λw c=>?_) (λw c e l=>?_) ?_;have p:=(λw c=>(H w c.q).ls.l0) w c;go_simp;have p:=(λw c=>(H w c.q).ls.l0) w c;simp[go_sem,p]at l;exact .inl ⟨_,_,l,.inr (.inl ⟨rfl,V⟩)⟩;walk_nrm;refine WK.val (v:=?_) g rfl rfl (by k_ne) (λw=>?_) (λw=>?_) ?_;rotate_left;go_simp;rfl;go_simp;walk_nrm;refine WK.val (v:=?_) g rfl rfl (by k_ne) (λw=>?_) (λw=>?_) ?_;rotate_left;go_simp;rfl;go_simp;walk_nrm;refine WK.ctl g rfl (λ_=>cE)<|WK.ctl g rfl (λ_=>qz)<|WK.ctl g rfl (λ_=>stepG_loop)<|WK.stop g λw c=>⟨⟨_,_,_,_,_,_,_,_,_,_,_,_,_,_,_,_⟩,r,z,y,R,A,0,rfl,rfl,c,λb=>⟨?_,?_⟩⟩;rintro(((((k|k)|k)|k)|k)|k);exact k.elim;exact .inr (.inr (.inr (.inr k)));exact .inr (.inr (.inr (.inl k)));exact .inr (.inr (.inl k));exact .inr (.inl k);exact .inl k;rintro(k|k|k|k|k);exact .inr k;exact .inl (.inr k);exact .inl (.inl (.inr k));exact .inl (.inl (.inl (.inr k)));exact .inl (.inl (.inl (.inl (.inr k))))
theorem xW{rc:Nat}{f:dU}{a b c d:cq}{w:cn}(g:f[2]? =some (.pointer (some ⟨rc,0,none⟩)))(e:w.heap[rc]? =some (.cells #[a,b,c,d] 199)):(results Tryz.f163 f).run PR w=.ok (.agg #[a,b,c,d]) w:=by
 have h:w.cell? (cY rc 0)=some a:=by simp[World.cell?,e]
 have i:w.cell? (cY rc 1)=some b:=by simp[World.cell?,e]
 have j:w.cell? (cY rc 2)=some c:=by simp[World.cell?,e]
 have k:w.cell? (cY rc 3)=some d:=by simp[World.cell?,e]
 simp[results,Tryz.results163,go_sem,g,h,i,j,k]
theorem tU{rc:Nat}{h:dU}{a b c d:cq}{w:cn}(j:h[2]? =some (.pointer (some ⟨rc,0,none⟩)))(g:w.heap[rc]? =some (.cells #[a,b,c,d] 199)):∀e∈(results Tryz.f163 h).events PR w #[],∃i k,e=⟨.cell i,k,false⟩/\i.block=rc:=by
 have l:w.cell? (cY rc 0)=some a:=by simp[World.cell?,g]
 have m:w.cell? (cY rc 1)=some b:=by simp[World.cell?,g]
 have n:w.cell? (cY rc 2)=some c:=by simp[World.cell?,g]
 have o:w.cell? (cY rc 3)=some d:=by simp[World.cell?,g]
 intro e f;simp[results,Tryz.results163,go_sem,j,l,m,n,o]at f;rcases f with f|f|f|f<;>exact⟨_,_,f,rfl⟩
section
variable{Wg:Nat}{own rd:Nat->Prop}{S:gW}{Q:cn->Prop}{m0 rc:Nat}{bl pre:List (Nat×Obj)}{caller:Frame}{cs:List Frame}{va vb vc vd:cq}{act:Act}
theorem LU{k:List Item}{K:cU}(a:nN own rd (Lv 241 Wg) K)(f:∀w,K w->w.heap[rc]? =some (.cells #[va,vb,vc,vd] 199))(c:own rc)(g:act.tmps[2]? =some (.pointer (some ⟨rc,0,none⟩)))(i:act.defers=[]) (j:WK PR 241 Wg true rd S own K (G (caller.finish (.agg #[va,vb,vc,vd])) cs)):WK PR 241 Wg true rd S own K (G (kD.at act (.code .ret::k)) (caller::cs)):=by refine WK.ctl (g':=G {kD.at act (.code .ret::k)with mode:=.returning} (caller::cs)) a rfl (λw=>?_) ?_;simp[stepG,stepG.exec,G,Frame.at,kD,base];refine WK.step a rfl λw d=>?_;have l:=xW g (f w d);refine⟨G (caller.finish (.agg #[va,vb,vc,vd])) cs,w,seen PR 163 ((results Tryz.f163 act.tmps).events PR w #[]),own,?_,⟨rfl,rfl,rfl,cJ _,λb=>⟨.inl,λh=>h.elim id λh=>absurd h.2 (Nat.not_lt.2 h.1)⟩,λ_ _ _=>rfl,λe m=>?_⟩,j w d⟩;simp[stepG,unwind,doReturn,G,Frame.at,kD,base,i,Tryz.func163,lB,l,GStep.after];have:=j9 m;obtain⟨n,o,rfl,p⟩:=tU g (f w d) e this;exact .inl ⟨n,o,rfl,.inl (by rw[p];exact c)⟩
end
end Go.Proofs.W
variable{T U:cw}
namespace Go.Proofs.W
open Go.Conc Go.cP Go.cP.Cr Go.cP.Wg Go.RowKit Go.Conc.Lib Go.ConcR.Gen
open Go.ConcN Go.ConcN.Gen
open Go.ConcR (KK wgBlock WgAt stA smA mk DC0)
abbrev Sp:=Option (List Int×Int×Int)
def lS(x y:Sp):Bool:=match x,y with
 |none,_=>false
 |some _,none=>true
 |some (_,m,k),some (_,a,b)=>if m≠a then decide (m<a)else decide (k<b)
def oA:List Sp->Sp
 |[]=>none
 |x::b=>b.foldl (λa y=>if lS y a then y else a) x
def fP(l:gC)(c:Nat):dU:=(l.map (Value.int .i64)++List.replicate (c-l.length) (Value.int .i64 0)).toArray
def LV(b:Nat×Nat):Prop:=∀a,¬Cz b a
def dp(o:cN)(w:cn)(s:Sp)(y:SV):Prop:=match s with
 |none=>y=⟨none,0,0,0,0,false⟩
 |some (l,m,k)=>y.m=m/\y.k=k/\y.b=true/\y.sl=l.length/\((l=[]/\y.sa=none/\y.sc=0)\/
  (l≠[]/\∃a,o a/\y.sa=some ⟨a,0,none⟩/\l.length<=y.sc/\y.sc<2^63/\∃c,LV c/\w.heap[a]? =some (.cells (fP l y.sc) 3 c)))
def dp.better{s a:Sp}{x y:SV}(h:dp A w s x)(k:dp B t a y):gX x y=lS s a:=by
 cases s with
 |none=>
  have:x=⟨none,0,0,0,0,false⟩:=h;subst this;cases a with
  |none=>rfl
  |some a=>rfl
 |some s=>
  obtain⟨l,m,n⟩:=s;obtain⟨c,d,b,_⟩:=h;cases a with
  |none=>
   have:y=⟨none,0,0,0,0,false⟩:=k;subst this;simp[gX,lS,b]
  |some a=>
   obtain⟨i,j,o⟩:=a;obtain⟨e,f,g,_⟩:=k;simp[gX,lS,c,d,b,e,f,g]
theorem vO:∀(b:List SV) (c:List Sp) (x:SV) (s:Sp),dp A w s x->b.length=c.length->(∀j (h:j<b.length) (k:j<c.length),dp A w c[j] b[j])->
 dp A w (c.foldl (λa y=>if lS y a then y else a) s) (b.foldl (λa y=>if gX y a then y else a) x)
 |[],[],x,s,h,_,_=>h
 |y::b,t::c,x,s,h,d,g=>by simp only[qa];have e:=g 0 (by simp) (by simp);simp only[oN]at e;rw[e.better h];refine vO b c _ _ ?_ (by simpa using d) λj i f=>g (j+1) (by simpa using i) (by simpa using f);split;exact e;exact h
 |[],_::_,_,_,_,d,_=>by simp at d
 |_::_,[],_,_,_,d,_=>by simp at d
def Dm(b:List SV)(a:List Sp)(c:b.length=a.length)(e:∀j (h:j<b.length) (g:j<a.length),dp A w a[j] b[j]):dp A w (oA a) (di b):=by
 cases b with
 |nil=>cases a with
  |nil=>rfl
  |cons _ _=>simp at c
 |cons y b=>cases a with
  |nil=>simp at c
  |cons s a=>
   exact vO b a y s (e 0 (by simp) (by simp)) (by simpa using c) λj f d=>e (j+1) (by simpa using f) (by simpa using d)
def Wy.QB{S:gW}(h:Wy P T m D A S B Z w):Wy P T m D A (λo Z c=>S o Z c/\∀b,B b->o b) B Z w:=by
 obtain⟨t,h⟩:=h
 have g:∀i:cN,(∀b,i b->B b)->Wy P T m D A (λo Z c=>S o Z c/\∀b,i b->o b) B Z w:=by
  intro i k;induction h with
  |here h=>exact nZ λd f=>⟨h d f,k⟩
  |step p q u r=>
   refine kT p λd f=>?_;obtain⟨l,c,n,a,e,j⟩:=q d f;exact⟨l,c,n,a,e,j,r d l c n a f e j λb s=>(j.owns b).2 (.inl (k b s))⟩
 exact g B λ_ h=>h
end Go.Proofs.W
namespace Go.Proofs.W
open Go.RowKit
def V.vH:V.prog.underlying 27=some (.slice 3):=by rw[V.sB,Tryz.underlying27]
def tV:Tryz.t3.bytes=8:=by kernel_rfl
def I6(w:cn):Calls V.prog 128 #[.slice none 0 0] w λe a=>e=.returned (.slice none 0 0)/\a=w:=by have b:=λ(w:cn)=>Go.Lib.run_eql_slice_nil (P:=jD) w 27 3 none 0 0 0 0 V.vH;go_enter V.func128,Tryz.ntmps128;go_wp2;go_ret;exact⟨rfl,rfl⟩
def vP(w:cn)(a b:Nat):Nat:=(Question.appendCap a b 3).cut (w.tape w.drawn (.appendCap a b 3))
def LW(w:cn)(a b:Nat):a<=vP w a b:=by simp[vP,Question.cut]
def LX(w:cn)(a b:Nat)(h:a<=65536):vP w a b<2^63:=by
 have:0<2^63-a:=by omega
 have:=Nat.mod_lt (w.tape w.drawn (.appendCap a b 3)) this;simp only[vP,Question.cut];omega
def zS(n:Nat):Builtin.zeroCells #[.int .i64 0] n=(List.replicate n (Value.int .i64 0)).toArray:=by apply A9;simp[Builtin.zeroCells];exact List.ext_getElem (by simp) λi a b=>by simp[Nat.mod_one]
def Bx(l:gC)(c:Nat):(l.map (Value.int .i64)).toArray++Builtin.zeroCells #[.int .i64 0] (c-l.length)=fP l c:=by rw[zS];simp[fP]
def Gi(b c:Nat)(l:gC)(w:cn)(g:0<l.length)(m:l.length<=65536)(n:b<w.heap.size)(d:∀k (h:k<l.length),w.cell? ⟨b,k,none⟩=some (.int .i64 l[k])):
 Calls V.prog 128 #[.slice (some ⟨b,0,none⟩) l.length c] w λe w'=>e=.returned (.slice (some ⟨w.heap.size+1,0,none⟩) l.length (vP w l.length 0))/\
  w'=((w.alloc (.cells #[] 3)).alloc (.cells (fP l (vP w l.length 0)) 3)).drew:=by
 have s:=λ(w:cn)=>Go.Lib.run_eql_slice_nil (P:=V.prog) w 27 3 (Bb b 0) l.length c 0 0 V.vH;have o:Sem.run V.prog (loadCellsFrom (cY b 0) 0 l.length #[]) (w.alloc (.cells #[] 3)).drew=.ok (l.map (Value.int .i64)).toArray (w.alloc (.cells #[] 3)).drew:=by
  have:=run_loadCellsFrom (P:=V.prog) (w.alloc (.cells #[] 3)).drew (cY b 0) (λj=>i64 (l.getD j 0)) l.length 0 #[] λj f=>by
   have h:=d j f;have e:(w.alloc (.cells #[] 3)).drew.cell? (cY b j)=w.cell? (cY b j):=gA (w:=w) (w':=(w.alloc (.cells #[] 3)).drew) (ad:=(cY b j)) (alloc_old w _ n);have p:((cY b 0):Addr).add j=(cY b j):=by unfold Addr.add;split;rename_i h;subst h;rfl;simp
   simp only[cG];rw[p,e,h,jG,eV f];rfl
  rw[this];congr 1;apply A9;simp;exact List.ext_getElem (by simp) λi a q=>by simp at a;simp[a]
 have a:¬(9223372036854775807<(l.length:Int)/\Tryz.t3.bytes=0):=by rw[tV];omega
 have q:¬(281474976710656<Builtin.nextslicecap l.length 0*Tryz.t3.bytes):=by rw[tV,nextslicecap_zero g];omega
 have t:¬l.length=0:=by omega
 have r:=Go.Lib.hid (Bx l (vP w l.length 0));clear d m;go_enter V.func128,Tryz.ntmps128;go_wp2;go_ret;exact⟨rfl,by rw[<-r.out];rfl⟩
def qi(x d:Nat):Nat:=x|||(1<<<d)
def qS(x d:Nat):Nat:=x-(x&&&(1<<<d))
theorem O1:∀x:Nat,x<32->∀d:Nat,d<5->bits .or .u8 (x:Int) ((2:Int)^d%256)=(qi x d:Int):=by decide+kernel
def Dn:∀x:Nat,x<32->∀d:Nat,d<5->bits .andNot .u8 (x:Int) ((2:Int)^d%256)=(qS x d:Int):=by decide+kernel
def Gj:∀x,x<32->∀d,d<5->qi x d<32:=by decide+kernel
def O2:∀x,x<32->∀d,d<5->qS x d<32:=by decide+kernel
theorem Do(x d:Nat)(w:World)(hx:x<32)(hd:d<5):Calls V.prog 164 #[.int .u8 x,.int .i64 d] w λe w'=>e=.returned (.int .u8 (qi x d))/\w'=w:=by have h:=Go.Lib.hid (O1 x hx d hd);go_enter V.func164,Tryz.ntmps164;go_wp2;go_ret;exact⟨by rw[h.out];rfl,rfl⟩
def Dp(x d:Nat)(w:cn)(a:x<32)(b:d<5):Calls V.prog 228 #[.int .u8 x,.int .i64 d] w λe c=>e=.returned (.int .u8 (qS x d))/\c=w:=by have h:=Go.Lib.hid (Dn x a d b);go_enter V.func228,Tryz.ntmps228;go_wp2;go_ret;exact⟨by rw[h.out];rfl,rfl⟩
def jk{d:Type}(e:cN)(E:cn->cq->d->Prop)(z:cq)(t:cw)(w:cn)(v:cq)(l:List d):Prop:=
 (l=[]/\v=.slice none 0 0)\/∃b c a f,e b/\v=.slice (some ⟨b,0,none⟩) l.length c/\w.heap[b]? =some (.cells a t f)/\a.size=c/\l.length<=c/\(∀k (h:k<l.length),∃u,a[k]? =some u/\E w u l[k])/\∀k,l.length<=k->k<c->a[k]? =some z
def To(_:cn)(u:cq)(n:Nat):Prop:=u=.int .i64 n
abbrev uZ(a:Nat->Prop):=jk a To (.int .i64 0) 3
abbrev xX(a:Nat->Prop):=jk a (uZ a) (.slice none 0 0) 27
abbrev tW(a:Nat->Prop):=jk a (xX a) (.slice none 0 0) 66
def jk.same{a:Type}{E:cn->cq->a->Prop}{w w':cn}{l:List a}(f:∀b,A b->w'.heap[b]? =w.heap[b]?)(g:∀u d,E w u d->E w' u d)(h:jk A E z T w x l):jk A E z T w' x l:=by rcases h with h|⟨b,c,i,j,e,m,n,o,p,q,r⟩;exact .inl h;refine .inr ⟨b,c,i,j,e,m,(f b e).trans n,o,p,λk s=>?_,r⟩;obtain⟨u,t,v⟩:=q k s;exact⟨u,t,g _ _ v⟩
def UX(b:cq):Prop:=b=undef\/∃a,b=.pointer (some a)
structure ep where
 opn:List Nat
 lists:List (List (List Nat))
 counts:List Int
structure ep.Ok(D:ep):Prop where
 len:D.lists.length=D.opn.length
 five:D.opn.length<=5
 nodup:D.opn.Nodup
 door:∀d∈D.opn,d<5
 many:∀ls∈D.lists,ls.length<=65536
 long:∀ls∈D.lists,∀l∈ls,l.length<=65536
 shift:∀ls∈D.lists,∀l∈ls,∀s∈l,s<6
 cnt:D.counts.length=32
 cval:∀c∈D.counts,-1<=c/\c<=5
 zero:D.counts.getD 0 0=0
def dt(b c d:cq)(a:gC):dU:=([b,c,d]++a.map (Value.int .i64)).toArray
structure fg(n0:Nat->Prop)(pb:Nat)(D:ep)(w:cn):Prop where
 ok:D.Ok
 lt:n0 pb
 at_:∃wk u1 u2 fz,UX wk/\w.heap[pb]? =some (.cells (dt wk u1 u2 D.counts) 207 fz)/\uZ n0 w u1 D.opn/\tW n0 w u2 D.lists
theorem fg.same{D:ep}{w w':cn}(a:∀b,A b->w'.heap[b]? =w.heap[b]?)(h:fg A m D w):fg A m D w':=by obtain⟨c,d,e,f,g,i,j,k⟩:=h.at_;refine⟨h.ok,h.lt,c,d,e,f,g,(a _ h.lt).trans i,j.same a λ_ _ h=>h,k.same a λ_ _ h=>h.same a λ_ _ h=>h.same a λ_ _ h=>h⟩
def HZ(T:Nat)(w:cn)(e:ek)(b:Nat)(a:cz):Prop:=(e=none/\a=[]/\b=0)\/∃c d,e=some ⟨c,0,none⟩/\T<c/\w.heap[c]? =some (.cells d 3)/\d.size=b/\a.length<=b/\∀k (h:k<a.length),d[k]? =some (.int .i64 a[k])
def Aw(L:Nat->Nat):cz:=[L 0,L 1,L 2,L 3,L 4,L 5]
def LY(L:Nat->Nat):cq:=.agg #[.int .u8 (L 0),.int .u8 (L 1),.int .u8 (L 2),.int .u8 (L 3),.int .u8 (L 4),.int .u8 (L 5)]
def gY(D:ep)(L:Nat->Nat):gC:=(Aw L).map λx=>D.counts.getD x 0
def eB(D:ep)(L:Nat->Nat)(a:cz):Sp:=if(gY D L).any (·<0)then none else some (a.map Int.ofNat,(gY D L).foldl max 0,(gY D L).sum)
def vQ(a:Nat)(w:cn)(s:Sp)(y:SV):Prop:=∀l m k,s=some (l,m,k)->l≠[]->∃j,a<=j/\y.sc=(Question.appendCap l.length 0 3).cut (w.tape j (.appendCap l.length 0 3))
def Gk{D:ep}(h:fg A m D w)(x:Nat)(i:x<32):w.cell? ⟨m,3+x,none⟩=some (.int .i64 (D.counts.getD x 0)):=by
 obtain⟨b,c,d,j,_,f,_,_⟩:=h.at_;have k:=h.ok.cnt;have e:(dt b c d D.counts)[3+x]? =some (i64 (D.counts.getD x 0)):=by
  have a:x<D.counts.length:=by omega
  have g:(dt b c d D.counts)[3+x]? =(b::c::d::D.counts.map (Value.int .i64))[3+x]? :=by simp[dt]
  rw[g,show 3+x=x+1+1+1 by omega,Ad,Ad,Ad,so,eV a,jG,eV a];rfl
 simp only[World.cell?,f];exact e
def Gl(D:ep)(L:Nat->Nat):(gY D L).length=6:=rfl
def xY(D:ep)(L:Nat->Nat)(k:Nat)(h:k<(gY D L).length):(gY D L)[k]=D.counts.getD (L k) 0:=by
 have a:k<6:=h;have:k=0\/k=1\/k=2\/k=3\/k=4\/k=5:=by omega
 rcases this with rfl|rfl|rfl|rfl|rfl|rfl<;>rfl
theorem LZ:∀(l:gC),(∀c∈l,c<=5)->l.any (·<0)=false->0<=l.sum/\l.sum<=5*l.length
 |[],_,_=>by simp
 |x::l,h,a=>by simp only[List.any_cons,Bool.or_eq_false_iff,decide_eq_false_iff_not]at a;have:=LZ l (λc b=>h c (iw _ b)) a.2;have d:=h x (iP ..);simp only[List.sum_cons,eI];omega
theorem L1:∀(l:gC) (a:Int),(∀c∈l,c<=5)->0<=a->a<=5->0<=l.foldl max a/\l.foldl max a<=5
 |[],a,_,b,d=>⟨b,d⟩
 |x::l,a,h,b,d=>by have f:=h x (iP ..);exact L1 l (max a x) (λc e=>h c (iw _ e)) (by omega) (by omega)
def Ax{D:ep}(h:D.Ok)(x:Nat)(b:x<32): -1<=D.counts.getD x 0/\D.counts.getD x 0<=5:=by
 have a:x<D.counts.length:=by rw[h.cnt];exact b
 rw[jG,eV a];exact h.cval _ (ef a)
def H0{D:ep}(h:D.Ok){L:Nat->Nat}(b:∀s,s<6->L s<32):∀c∈gY D L,c<=5:=by
 intro c d;obtain⟨x,a,rfl⟩:=mq.1 d;have:x<32:=by simp only[Aw,eO,mu,jW]at a;rcases a with rfl|rfl|rfl|rfl|rfl|rfl<;>exact b _ (by omega)
 exact(Ax h x this).2
def Dq(a b c d e f:cq)(w:cn):(Instr.index 204 (.agg #[a,b,c,d,e,f]) (.int .i64 0)).run V.prog w=.ok a w:=by kernel_rfl
def Ds(b a c d e f:cq)(w:cn):(Instr.index 204 (.agg #[b,a,c,d,e,f]) (.int .i64 1)).run V.prog w=.ok a w:=by kernel_rfl
def Dt(b c a d e f:cq)(w:cn):(Instr.index 204 (.agg #[b,c,a,d,e,f]) (.int .i64 2)).run V.prog w=.ok a w:=by kernel_rfl
def Dv(b c d a e f:cq)(w:cn):(Instr.index 204 (.agg #[b,c,d,a,e,f]) (.int .i64 3)).run V.prog w=.ok a w:=by kernel_rfl
def Dw(b c d e a f:cq)(w:cn):(Instr.index 204 (.agg #[b,c,d,e,a,f]) (.int .i64 4)).run V.prog w=.ok a w:=by kernel_rfl
def Dx(b c d e f a:cq)(w:cn):(Instr.index 204 (.agg #[b,c,d,e,f,a]) (.int .i64 5)).run V.prog w=.ok a w:=by kernel_rfl
def I7(w:cn):(Instr.build 199 #[(3,.bool true)]).run V.prog w=.ok (.agg #[.slice none 0 0,.int .i64 0,.int .i64 0,.bool true]) w:=by kernel_rfl
def Gm(w:cn):(Instr.build 199 #[]).run V.prog w=.ok (.agg #[.slice none 0 0,.int .i64 0,.int .i64 0,.bool false]) w:=by kernel_rfl
def H1(D:ep)(L:Nat->Nat)(c:cz)(d:Nat)(w:cn)(e:Ending)(a:cn):Prop:=
 ∃y:SV,e=.returned y.val/\dp (λb=>w.heap.size<=b) a (eB D L c) y/\vQ d a (eB D L c) y/\Below w.heap.size w a/\w.drawn<=a.drawn
theorem Gn(n0:Nat->Prop)(pb T:Nat)(D:ep)(L:Nat->Nat)(ps:List Nat)(pa:Option Addr)(pc j0:Nat)(w:World)(hP:fg n0 pb D w)(Xj:∀b,n0 b->b<w.heap.size)(hL:∀s,s<6->L s<32)(QA:HZ T w pa pc ps)(OH:ps=[]->pa=none)(eH:ps.length<=65536)(hj:j0<=w.drawn):Calls V.prog 229 #[.pointer (some ⟨pb,0,none⟩),.slice pa ps.length pc,LY L] w (H1 D L ps j0 w):=by
 have Ue:=I7;have De:=Gm;have Xk:pb<w.heap.size:=Xj _ hP.lt;unfold LY;go_enter V.func229,Tryz.ntmps229;go_wp2
 go_loopw [13] (λi wr=>∃k:Nat,k<=6/\i=.int .i64 k/\Below w.heap.size w wr/\w.heap.size+3<=wr.heap.size/\wr.heap[w.heap.size+1+1]? =some (eh ⟨none,0,0,((gY D L).take k).foldl max 0,((gY D L).take k).sum,true⟩)/\
  wr.heap[w.heap.size+1]? =some (eh (di []))/\((gY D L).take k).any (·<0)=false/\wr.drawn=w.drawn) (λi _=>6-(intOf i).toNat)
 case atStart=>
  refine⟨0,by omega,rfl,(((Below.refl _ _).alloc (Nat.le_refl _) _).alloc (by simp) _).alloc (by simp;omega) _,by simp,?_,?_,rfl,rfl⟩
  ·have:=fp ((w.alloc (.cells #[.int .u8 (L 0),.int .u8 (L 1),.int .u8 (L 2),.int .u8 (L 3),.int .u8 (L 4),.int .u8 (L 5)] 204)).alloc (eh (di []))) (eh ⟨none,0,0,0,0,true⟩);rw[World.size_alloc,World.size_alloc]at this;exact this
  ·have h2:=fp (w.alloc (.cells #[.int .u8 (L 0),.int .u8 (L 1),.int .u8 (L 2),.int .u8 (L 3),.int .u8 (L 4),.int .u8 (L 5)] 204)) (eh (di []));rw[World.size_alloc]at h2;have h3:=alloc_old ((w.alloc (.cells #[.int .u8 (L 0),.int .u8 (L 1),.int .u8 (L 2),.int .u8 (L 3),.int .u8 (L 4),.int .u8 (L 5)] 204)).alloc (eh (di []))) (eh ⟨none,0,0,0,0,true⟩) (b:=w.heap.size+1) (by simp);exact h3.trans h2
 case round=>
  obtain⟨k,hk,rfl,hb,Wb,ho,hr,Ry,Wd⟩:=hrel;have We:=L1 ((gY D L).take k) 0 (λc hc=>H0 hP.ok hL c (List.mem_of_mem_take hc)) (by omega) (by omega);have Uf:=LZ ((gY D L).take k) (λc hc=>H0 hP.ok hL c (List.mem_of_mem_take hc)) Ry;rw[List.length_take,Gl]at Uf;obtain⟨mx,Ug⟩:∃mx,mx=((gY D L).take k).foldl max 0:=⟨_,rfl⟩;obtain⟨sm,Uh⟩:∃sm,sm=((gY D L).take k).sum:=⟨_,rfl⟩;rw[<-Ug,<-Uh]at ho;rw[<-Ug]at We;rw[<-Uh]at Uf;obtain⟨o1,o2,o3,o4,f1,f2,f3,f4⟩:=dY ho;obtain⟨r1,r2,r3,r4,g1,g2,g3,g4⟩:=dY hr;have HO:=Go.Lib.hid ho;have HR:=Go.Lib.hid hr;have HA:=Go.Lib.hid Ry;have HD:=Go.Lib.hid Wd;have HM:=Go.Lib.hid Ug;have HS:=Go.Lib.hid Uh;clear ho hr Ry Wd Ug Uh;obtain⟨m0,m5⟩:=We;obtain⟨s0,s5⟩:=Uf;have XV:sm<=30:=by omega
  clear s5;by_cases HJ:k<6
  ·have hx:=hL k HJ;have Wh:=Ax hP.ok (L k) hx;have Tr:wr.cell? ⟨pb,3+L k,none⟩=some (.int .i64 (D.counts.getD (L k) 0)):=((Aq hb).1 _ _ Xk).trans (Gk hP _ hx);obtain⟨cv,UY⟩:∃cv,cv=D.counts.getD (L k) 0:=⟨_,rfl⟩;rw[<-UY]at Tr Wh;obtain⟨c0,c5⟩:=Wh;have Xl:∀w,(Instr.index 204 (.agg #[.int .u8 (L 0),.int .u8 (L 1),.int .u8 (L 2),.int .u8 (L 3),.int .u8 (L 4),.int .u8 (L 5)]) (.int .i64 k)).run V.prog w=.ok (.int .u8 (L k)) w:=by
    intro w;have:k=0\/k=1\/k=2\/k=3\/k=4\/k=5:=by omega
    rcases this with rfl|rfl|rfl|rfl|rfl|rfl
    ·exact Dq ..
    ·exact Ds ..
    ·exact Dt ..
    ·exact Dv ..
    ·exact Dw ..
    ·exact Dx ..
   have HC:=Go.Lib.hid UY;clear UY hP QA;by_cases Ts:cv<0
   ·go_wp2;have hp:=kK (s:=di []) HR.out;have hB:Below w.heap.size w (jd wr (w.heap.size+1) (di [])):=kL hb (Nat.le_succ _);obtain⟨q1,q2,q3,q4,_⟩:=dY hp;simp only[jd,di]at q1 q2 q3 q4;have vR:eB D L ps=none:=by
     have UZ:cv∈gY D L:=by have h:=xY D L k HJ;rw[<-HC.out]at h;exact h▸List.getElem_mem HJ
     unfold eB;rw[if_pos (List.any_eq_true.2 ⟨cv,UZ,by simpa using Ts⟩)]
    refine bodyPost_ret (v:=(di []).val) (by simp[results,Tryz.results229,go_sem,q1,q2,q3,q4,SV.val,di]) rfl ?_;refine(show H1 D L ps j0 w (.returned (di []).val) (jd wr (w.heap.size+1) (di []))from⟨di [],rfl,?_,?_,hB,?_⟩)
    ·rw[vR];rfl
    ·rw[vR];intro l m k h;cases h
    ·show w.drawn<=wr.drawn;rw[HD.out];exact Nat.le_refl _
   ·go_wp2;go_roundw;case rel=>
     have U0:(if mx<cv then cv else mx)=max mx cv:=by
      by_cases h:mx<cv
      ·rw[if_pos h];omega
      ·rw[if_neg h];omega
     have hp:((wr.setCell ⟨w.heap.size+1+1,1,none⟩ (.int .i64 (if mx<cv then cv else mx))).setCell ⟨w.heap.size+1+1,2,none⟩ (.int .i64 (sm+cv))).heap[w.heap.size+1+1]? =some (eh ⟨none,0,0,if mx<cv then cv else mx,sm+cv,true⟩):=by have:=HO.out;simp[World.setCell,Array.getElem?_modify,this,eh]
     have Wi:(gY D L).take (k+1)=(gY D L).take k++[cv]:=by have h:=xY D L k HJ;rw[lH _ _ HJ,h,HC.out]
     refine⟨k+1,by omega,by go_num,(hb.setCell (Nat.le_succ_of_le (Nat.le_succ _)) _).setCell (Nat.le_succ_of_le (Nat.le_succ _)) _,by simpa[World.setCell]using Wb,hp.trans ?_,?_,?_,HD.out⟩
     ·rw[Wi,List.foldl_append,List.sum_append,<-HM.out,<-HS.out,U0];simp
     ·rw[cP.Cr.eA _ _ _ _ (by simp),cP.Cr.eA _ _ _ _ (by simp)];exact HR.out
     ·rw[Wi,List.any_append,HA.out];simpa using Ts
    case measure=>simp[intOf];omega
  ·obtain rfl:k=6:=by omega
   rcases QA with⟨rfl,rfl,rfl⟩|⟨PB,cs,rfl,XW,U1,Xm,hle,Tt⟩
   ·go_wp2_with (go_at_call 128;refine(I6 _).mono ?_;rintro e w' ⟨rfl,rfl⟩);have h6:(gY D L).take 6=gY D L:=List.take_of_length_le (Nat.le_refl _);have Ui:(w'.setCell ⟨w.heap.size+1+1,0,none⟩ (.slice none 0 0)).heap[w.heap.size+1]? =some (eh (di [])):=(cP.Cr.eA _ _ _ _ (by simp)).trans HR.out;have hp:=kK (s:=⟨none,0,0,mx,sm,true⟩) Ui;have hB:Below w.heap.size w (jd (w'.setCell ⟨w.heap.size+1+1,0,none⟩ (.slice none 0 0)) (w.heap.size+1) ⟨none,0,0,mx,sm,true⟩):=kL (hb.setCell (Nat.le_succ_of_le (Nat.le_succ _)) _) (Nat.le_succ _);obtain⟨q1,q2,q3,q4,_⟩:=dY hp;simp only[jd]at q1 q2 q3 q4;have vR:eB D L []=some ([],mx,sm):=by
     have ha:=HA.out;have hm:=HM.out;have hs:=HS.out;rw[h6]at ha hm hs;unfold eB;rw[if_neg (by rw[ha];simp),<-hm,<-hs];rfl
    refine bodyPost_ret (v:=(SV.mk none 0 0 mx sm true).val) (by simp[results,Tryz.results229,go_sem,q1,q2,q3,q4,SV.val]) rfl ?_;refine(show H1 D L [] j0 w (.returned (SV.mk none 0 0 mx sm true).val) (jd (w'.setCell ⟨w.heap.size+1+1,0,none⟩ (.slice none 0 0)) (w.heap.size+1) ⟨none,0,0,mx,sm,true⟩)from⟨_,rfl,?_,?_,hB,?_⟩)
    ·rw[vR];exact⟨rfl,rfl,rfl,rfl,.inl ⟨rfl,rfl,rfl⟩⟩
    ·rw[vR];intro l m k h hl;cases h;exact absurd rfl hl
    ·show w.drawn<=w'.drawn;rw[HD.out];exact Nat.le_refl _
   ·have OM:0<ps.length:=by
     cases ps with
     |nil=>have:=OH rfl;cases this
     |cons=>simp
    obtain⟨l,hl⟩:∃l,l=ps.map Int.ofNat:=⟨_,rfl⟩;have U2:l.length=ps.length:=by rw[hl];simp
    have Xn:PB<w.heap.size:=cP.lt_of_heap U1;have U3:PB<wr.heap.size:=by omega
    have Om:∀k (h:k<l.length),wr.cell? ⟨PB,k,none⟩=some (.int .i64 l[k]):=λk h=>by
     have h':k<ps.length:=by omega
     have e:wr.heap[PB]? =some (.cells cs 3):=(hb.block PB Xn).trans U1;simp only[World.cell?,e];have:=Tt k h';simp only[hl,List.getElem_map];exact this
    have HL:=Go.Lib.hid hl;have Xo:=Go.Lib.hid Om;clear hl Om Tt U1;have sC:=Gi PB pc l wr (by omega) (by omega) U3 Xo.out;have Rz:=LW wr l.length 0;obtain⟨cp,U4⟩:∃cp,cp=vP wr l.length 0:=⟨_,rfl⟩;rw[<-U4]at sC Rz;rw[U2]at sC Rz;have Wj:=Go.Lib.hid U4;have Uj:=Go.Lib.hid U2;clear U4 U2;have Wk:∀w',w'=((wr.alloc (.cells #[] 3)).alloc (.cells (fP l cp) 3)).drew->(w'.heap[w.heap.size+1+1]? =some (eh ⟨none,0,0,mx,sm,true⟩)/\w'.heap[w.heap.size+1]? =some (eh (di []))/\
     Below w.heap.size w w'/\w'.heap[wr.heap.size+1]? =some (.cells (fP l cp) 3)/\w'.drawn=wr.drawn+1/\w'.tape=wr.tape):=by
     rintro w' rfl;refine⟨(alloc_old _ _ (by simp;omega)).trans ((alloc_old _ _ (by omega)).trans HO.out),(alloc_old _ _ (by simp;omega)).trans ((alloc_old _ _ (by omega)).trans HR.out),((hb.alloc (by omega) _).alloc (by simp;omega) _).drew,?_,rfl,rfl⟩;have:=fp (wr.alloc (.cells #[] 3)) (.cells (fP l cp) 3);rw[World.size_alloc]at this;exact this
    go_wp2_with (go_at_call 128;refine sC.mono ?_;clear sC;rintro e w' ⟨rfl,T7⟩;obtain⟨Xp,Ui,Ud,U5,U6,U7⟩:=Wk w' T7;clear Wk T7;obtain⟨Uk,Ul,XX,XY,XZ,X0,X3,X4⟩:=dY Xp;obtain⟨X6,X7,X8,X9,Ya,Yb,Yc,Yd⟩:=dY Ui);have Um:(w'.setCell ⟨w.heap.size+1+1,0,none⟩ (.slice (some ⟨wr.heap.size+1,0,none⟩) ps.length cp)).heap[w.heap.size+1]? =some (eh (di [])):=(cP.Cr.eA _ _ _ _ (by simp)).trans Ui;have hp:=kK (s:=⟨some ⟨wr.heap.size+1,0,none⟩,ps.length,cp,mx,sm,true⟩) Um;have hB:Below w.heap.size w (jd (w'.setCell ⟨w.heap.size+1+1,0,none⟩ (.slice (some ⟨wr.heap.size+1,0,none⟩) ps.length cp)) (w.heap.size+1) ⟨some ⟨wr.heap.size+1,0,none⟩,ps.length,cp,mx,sm,true⟩):=kL (Ud.setCell (Nat.le_succ_of_le (Nat.le_succ _)) _) (Nat.le_succ _);have Xq:(jd (w'.setCell ⟨w.heap.size+1+1,0,none⟩ (.slice (some ⟨wr.heap.size+1,0,none⟩) ps.length cp)) (w.heap.size+1) ⟨some ⟨wr.heap.size+1,0,none⟩,ps.length,cp,mx,sm,true⟩).heap[wr.heap.size+1]? =some (.cells (fP l cp) 3):=
     (oV _ _ _ (by omega)).trans ((cP.Cr.eA _ _ _ _ (by simp;omega)).trans U5)
    obtain⟨q1,q2,q3,q4,_⟩:=dY hp;simp only[jd]at q1 q2 q3 q4;have Tu:l≠[]:=by intro h;have:=Uj.out;rw[h]at this;simp at this;omega
    have vR:eB D L ps=some (l,mx,sm):=by have h6:(gY D L).take 6=gY D L:=List.take_of_length_le (Nat.le_refl _);have ha:=HA.out;have hm:=HM.out;have hs:=HS.out;rw[h6]at ha hm hs;unfold eB;rw[if_neg (by rw[ha];simp),<-hm,<-hs,HL.out]
    have U8:cp<2^63:=by rw[Wj.out];exact LX wr _ _ (by rw[Uj.out];exact eH)
    refine bodyPost_ret (v:=(SV.mk (some ⟨wr.heap.size+1,0,none⟩) ps.length cp mx sm true).val) (by simp[results,Tryz.results229,go_sem,q1,q2,q3,q4,SV.val]) rfl ?_;refine(show H1 D L ps j0 w (.returned (SV.mk (some ⟨wr.heap.size+1,0,none⟩) ps.length cp mx sm true).val) (jd (w'.setCell ⟨w.heap.size+1+1,0,none⟩ (.slice (some ⟨wr.heap.size+1,0,none⟩) ps.length cp)) (w.heap.size+1) ⟨some ⟨wr.heap.size+1,0,none⟩,ps.length,cp,mx,sm,true⟩)from⟨_,rfl,?_,?_,hB,?_⟩)
    ·rw[vR];exact⟨rfl,rfl,rfl,Uj.out.symm,.inr ⟨Tu,wr.heap.size+1,by omega,rfl,Uj.out▸Rz,U8,(0,0),λoff h=>absurd h.2 (Nat.not_lt_zero _),Xq⟩⟩
    ·rw[vR];intro l' m' k' h hl;cases h;refine⟨wr.drawn,by rw[HD.out];exact hj,?_⟩;show cp=_;have U9:(jd (w'.setCell ⟨w.heap.size+1+1,0,none⟩ (.slice (some ⟨wr.heap.size+1,0,none⟩) ps.length cp)) (w.heap.size+1) ⟨some ⟨wr.heap.size+1,0,none⟩,ps.length,cp,mx,sm,true⟩).tape=wr.tape:=U7;rw[U9,Wj.out];rfl
    ·show w.drawn<=w'.drawn;rw[U6,HD.out];exact Nat.le_succ _
def oX(T:Nat)(w:cn)(e:ek)(a:Nat)(b:cz):Prop:=(e=none/\b=[]/\a=0)\/∃c d,e=some ⟨c,0,none⟩/\T<c/\w.heap[c]? =some (.cells d 3)/\d.size=a/\b.length<=a/\a<2^63/\(∀k (h:k<b.length),d[k]? =some (.int .i64 b[k]))
def oX.Tv(h:oX m w a k l):HZ m w a k l:=by rcases h with h|⟨b,c,d,e,f,g,i,_,j⟩;exact .inl h;exact .inr ⟨b,c,d,e,f,g,i,j⟩
structure By(T:Nat)(w:cn)(ps:List Nat)(i:Nat)(pa:Option Addr)(pc:Nat)(v:cq)(w':cn):Prop where
 val:∃O3 Tw,v=.slice O3 (ps.length+1) Tw/\oX T w' O3 Tw (ps++[i])/\(O3=pa\/∃b,w.heap.size<=b/\O3=some ⟨b,0,none⟩)
 os:w'.os=w.os
 tape:w'.tape=w.tape
 output:w'.output=w.output
 size:w.heap.size<=w'.heap.size
 block:∀b,b<w.heap.size->pa≠some ⟨b,0,none⟩->w'.heap[b]? =w.heap[b]?
 drawn:w.drawn<=w'.drawn
 old:oX T w' pa pc ps
 stay:∀b,pa=some ⟨b,0,none⟩->w.cell? ⟨b,ps.length,none⟩=some (.int .i64 i)->w'.heap[b]? =w.heap[b]?
def V.L3:V.prog.info? 3=some Tryz.t3:=by kernel_rfl
def H2:Tryz.t3.zero=some (.int .i64 0):=by kernel_rfl
def rQ:Tryz.t3.size=1:=by kernel_rfl
def Dy(T:Nat)(w:cn)(a:cz)(i:Nat)(F:ek)(q:Nat)(E:cw)(B:Nat)(K:oX T w F q a)(I:T<w.heap.size)(L:w.cell? ⟨B,0,none⟩=some (.int .i64 i))(S:a.length<65536):∃v J,(Builtin.append_ #[27,27] E #[.slice F a.length q,.slice (some ⟨B,0,none⟩) 1 1]).run V.prog w=.ok v J/\By T w a i F q v J:=by
 have d:∀j v,[Value.int .i64 i][j]? =some v->w.cell? (((cY B 0):Addr).add j)=some v:=by
  intro j v h;cases j with
  |zero=>cases h;exact L
  |succ j=>simp at h
 rcases K with⟨rfl,rfl,rfl⟩|⟨g,o,rfl,r,c,s,C,t,f⟩;have A:=run_append_nil (P:=V.prog) w 27 E 3 _ _ V.vH V.L3 H2 (cY B 0) 1 1 [i64 i] (by rw[rQ];rfl) d (by decide) (by decide) (by rw[tV];decide);refine⟨_,_,A,⟨_,_,rfl,.inr ⟨w.heap.size,_,rfl,I,fp w.drew _,?_,grownCap_ge ..,?_,?_⟩,.inr ⟨_,cJ _,rfl⟩⟩,rfl,rfl,rfl,?_,?_,?_,?_,?_⟩;have:=grownCap_ge w 1 0 3;simp[size_zeroCells,Value.cells];omega;have:=grownCap_le_maxLen w 1 0 3 (by decide);simp only[maxLen]at this;omega;intro k u;obtain rfl:k=0:=by simpa using u
 rw[wz (by simp)];rfl;rw[World.size_alloc];exact tH _;intro b p _;exact alloc_old w.drew _ p;exact tH _;exact .inl ⟨rfl,rfl,rfl⟩;intro b p;cases p;have D:=cP.lt_of_heap c;by_cases l:a.length+1<=q;have x:∀j,j<[Value.int .i64 i].length->sd w g o 3/\j=0:=λj y=>⟨c,by simpa using y⟩
 have A:=run_append_room_cells (P:=V.prog) w 27 E 3 _ V.vH V.L3 g 0 a.length q (cY B 0) 1 1 [i64 i] (by rw[rQ];rfl) d (by simp[Value.oneCell']) l
  (λj y=>by
   obtain⟨_,rfl⟩:=x j y;have:a.length<o.size:=by omega
   simp[World.cell?,c,rQ,this])
  (λj y=>by simp[World.frozen?,c])
 have M:w.setCells g (0+a.length*Tryz.t3.size) [i64 i]=w.setCell (cY g a.length) (i64 i):=by rw[rQ];simp[World.setCells]
 rw[M]at A;refine⟨_,_,A,⟨_,_,rfl,.inr ⟨g,o.set! a.length (i64 i),rfl,r,?_,?_,?_,t,?_⟩,.inl rfl⟩,rfl,rfl,rfl,?_,?_,cJ _,?_,?_⟩;simp[World.setCell,mR,c];simpa using s;simpa using l;intro k u;have:a.length<o.size:=by omega
 by_cases h:k<a.length;have G:=f k h;have m:a.length≠k:=by omega
 simp only[Array.set!_eq_setIfInBounds];rw[eo m,G,nU h];obtain rfl:k=a.length:=by simp at u;omega
 simp[this];simp[World.setCell];intro b p m;exact cP.Cr.eA _ _ _ _ (by rintro rfl;exact m rfl);refine .inr ⟨g,o.set! a.length (i64 i),rfl,r,?_,by simpa using s,C,t,λk u=>?_⟩;simp[World.setCell,mR,c];have m:a.length≠k:=by omega
 simp only[Array.set!_eq_setIfInBounds];rw[eo m];exact f k u;intro b p N;obtain rfl:g=b:=cT Addr.block (cO p);have H:a.length<o.size:=by omega
 have O:o[a.length]? =some (i64 i):=by simpa[World.cell?,c]using N
 have Q:o.setIfInBounds a.length (i64 i)=o:=KM λj=>by by_cases e:a.length=j;subst e;rw[kI H,O];rw[eo e]
 simp[World.setCell,mR,c,Q]
 have z:∀j v,(a.map λn=>Value.int .i64 (n:Nat))[j]? =some v->w.cell? (((cY g 0):Addr).add j)=some v:=by
  intro j v h;have y:j<a.length:=by have:=(iI.1 h).1;simpa using this
  have G:=f j y;rw[so,eV y]at h;rw[Addr.add_lit];simp only[World.cell?,c,cG];rw[G];exact h
 have A:=run_append_grow (P:=V.prog) w 27 E 3 _ _ V.vH V.L3 H2 (cY g 0) a.length q (a.map λn=>Value.int .i64 (n:Nat)) (by rw[rQ];simp) z (cY B 0) 1 1 [i64 i] (by rw[rQ];rfl) d (by omega) (by omega) (growslice_fits (by omega) (by rw[tV];omega));refine⟨_,_,A,⟨_,_,rfl,.inr ⟨w.heap.size,_,rfl,I,fp w.drew _,?_,?_,?_,?_⟩,.inr ⟨_,cJ _,rfl⟩⟩,rfl,rfl,rfl,?_,?_,?_,?_,?_⟩;have:=grownCap_ge w (a.length+1) q 3;simp[size_zeroCells,Value.cells];omega;have:=grownCap_ge w (a.length+1) q 3;simpa using this;have:=grownCap_le_maxLen w (a.length+1) q 3 (by simp only[maxLen];omega);simp only[maxLen]at this;omega;intro k u;have R:k<a.length+1:=by simpa using u
 by_cases h:k<a.length;rw[wz (by simp;omega),wz (by simpa using h)];simp[h];obtain rfl:k=a.length:=by omega
 rw[wz (by simp),zO (by simp)];simp;rw[World.size_alloc];exact tH _;intro b p _;exact alloc_old w.drew _ p;exact tH _;exact .inr ⟨g,o,rfl,r,(alloc_old w.drew _ D).trans c,s,C,t,f⟩;intro b p _;obtain rfl:g=b:=cT Addr.block (cO p);exact alloc_old w.drew _ D
structure cW(F:Nat->Prop)(w w':cn):Prop where
 os:w'.os=w.os
 tape:w'.tape=w.tape
 output:w'.output=w.output
 size:w.heap.size<=w'.heap.size
 drawn:w.drawn<=w'.drawn
 block:∀b,b<w.heap.size->¬F b->w'.heap[b]? =w.heap[b]?
def cW.refl(F:cN)(w:cn):cW F w w:=⟨rfl,rfl,rfl,cJ _,cJ _,λ_ _ _=>rfl⟩
theorem cW.trans{F G H:cN}(h:cW F w t)(k:cW G t e)(c:∀x,x<w.heap.size->F x->H x)(d:∀x,x<w.heap.size->G x->H x):cW H w e:=
 ⟨k.os.trans h.os,k.tape.trans h.tape,k.output.trans h.output,cZ h.size k.size,cZ h.drawn k.drawn,λx a b=>(k.block x (dE a h.size) λg=>b (d x a g)).trans (h.block x a λf=>b (c x a f))⟩
theorem cW.alloc(h:cW A w t)(o:Obj):cW A w (t.alloc o):=
 ⟨h.os,h.tape,h.output,by rw[World.size_alloc];exact SK h.size,h.drawn,λx a b=>(alloc_old t o (dE a h.size)).trans (h.block x a b)⟩
theorem cW.setCell(h:cW A w t)(a:Addr)(v:cq)(d:a.block<w.heap.size->A a.block):cW A w (t.setCell a v):=
 ⟨h.os,h.tape,h.output,by simpa[World.setCell]using h.size,h.drawn,λx b c=>(cP.Cr.eA _ _ _ _ (by rintro rfl;exact c (d b))).trans (h.block x b c)⟩
def By.keep(h:By m w l i a k x t):cW (λb=>a=some ⟨b,0,none⟩) w t:=
 ⟨h.os,h.tape,h.output,h.size,h.drawn,h.block⟩
def cW.cell(h:cW A w t){x o:Nat}(a:x<w.heap.size)(b:¬A x):t.cell? ⟨x,o,none⟩=w.cell? ⟨x,o,none⟩:=by simp only[World.cell?,h.block x a b]
def jk.len{d:Type}{E:cn->cq->d->Prop}{l:List d}(h:jk A E z T w x l):∃a c,x=.slice a l.length c:=by rcases h with⟨rfl,rfl⟩|⟨b,c,f,g,i,e,j,k,m,n,o⟩;exact⟨_,_,rfl⟩;exact⟨_,_,e⟩
def jk.at_{a:Type}{E:cn->cq->a->Prop}{l:List a}(h:jk A E z T w x l)(k:Nat)(d:k<l.length):∃b c u,x=.slice (some ⟨b,0,none⟩) l.length c/\A b/\w.cell? ⟨b,k,none⟩=some u/\E w u l[k]:=by rcases h with⟨rfl,rfl⟩|⟨b,c,n,o,e,f,g,p,q,i,r⟩;cases d;obtain⟨u,j,m⟩:=i k d;exact⟨b,c,u,f,e,by simp only[World.cell?,g];exact j,m⟩
def eC(a:Nat)(c:ek)(d e:Nat)(L:Nat->Nat)(y:SV):Obj:=
 .cells #[.pointer (some ⟨a,0,none⟩),.slice c d e,.int .u8 (L 0),.int .u8 (L 1),.int .u8 (L 2),.int .u8 (L 3),.int .u8 (L 4),.int .u8 (L 5),.slice y.sa y.sl y.sc,.int .i64 y.m,.int .i64 y.k,.bool y.b] 245
def iz{L:Nat->Nat}{y:SV}(h:w.heap[m]? =some (eC k a i j L y)):w.cell? ⟨m,0,none⟩=some (.pointer (some ⟨k,0,none⟩))/\w.cell? ⟨m,1,none⟩=some (.slice a i j)/\(∀s,s<6->w.cell? ⟨m,2+s,none⟩=some (.int .u8 (L s)))/\wE w m 8 y/\∀o,w.frozen? ⟨m,o,none⟩=false:=by
 refine⟨by simp[World.cell?,h,eC],by simp[World.cell?,h,eC],?_,?_,λo=>by simp[World.frozen?,h,eC]⟩;intro s b;have:s=0\/s=1\/s=2\/s=3\/s=4\/s=5:=by omega
 rcases this with rfl|rfl|rfl|rfl|rfl|rfl<;>simp[World.cell?,h,eC];simp[wE,World.cell?,h,eC]
def Gp(L:Nat->Nat)(s v:Nat):Nat->Nat:=λx=>if x=s then v else L x
def jU(d:Nat)(l:cz)(L:Nat->Nat):Nat->Nat:=λs=>if s∈l then qi (L s) d else L s
def O4:∀x,x<32->∀d,d<5->qi (qi x d) d=qi x d:=by decide+kernel
def Bz{L:Nat->Nat}(c:d<5)(a:∀s,s<6->L s<32):∀s,s<6->jU d l L s<32:=by intro s b;unfold jU;split;exact Gj _ (a s b) _ c;exact a s b
def Ay{L:Nat->Nat}(c:d<5)(e:∀s,s<6->L s<32)(k:Nat)(f:k<l.length)(g:l[k]<6):Gp (jU d (l.take k) L) l[k] (qi (jU d (l.take k) L l[k]) d)=jU d (l.take (k+1)) L:=by
 funext s;have a:∀s,s∈l.take (k+1)↔s∈l.take k\/s=l[k]:=λs=>by rw[lH _ _ f];exact List.mem_append.trans (or_congr mS iJ)
 unfold Gp jU;by_cases b:s=l[k];subst b;rw[cB rfl,cB ((a _).2 (.inr rfl))];split;exact O4 _ (e _ g) _ c;rfl;rw[cy b];by_cases h:s∈l.take k;rw[cB h,cB ((a _).2 (.inl h))];rw[cy h,cy λi=>((a _).1 i).elim h b]
structure Ext(w w':cn):Prop where
 os:w'.os=w.os
 tape:w'.tape=w.tape
 output:w'.output=w.output
 size:w.heap.size<=w'.heap.size
 drawn:w.drawn<=w'.drawn
 block:∀b,b<w.heap.size->w'.heap[b]? =w.heap[b]?
def Ext.refl(w:cn):Ext w w:=⟨rfl,rfl,rfl,cJ _,cJ _,λ_ _=>rfl⟩
def qm{v:cq}{w:cn}:v=v/\Ext w w:=⟨rfl,Ext.refl _⟩
theorem Ext.trans{a b c:cn}(h:Ext a b)(k:Ext b c):Ext a c:=
 ⟨k.os.trans h.os,k.tape.trans h.tape,k.output.trans h.output,cZ h.size k.size,cZ h.drawn k.drawn,λx d=>(k.block x (dE d h.size)).trans (h.block x d)⟩
theorem Ext.drew(w:cn):Ext w w.drew:=⟨rfl,rfl,rfl,cJ _,tH _,λ_ _=>rfl⟩
theorem Ext.alloc(w:cn)(o:Obj):Ext w (w.alloc o):=⟨rfl,rfl,rfl,by rw[World.size_alloc];exact tH _,cJ _,λx a=>alloc_old w o a⟩
def Ext.keep{w a:cn}(h:Ext w a)(F:cN):cW F w a:=⟨h.os,h.tape,h.output,h.size,h.drawn,λb c _=>h.block b c⟩
def cW.ext{w a:cn}{F:cN}(h:cW F w a)(d:∀b,b<w.heap.size->¬F b):Ext w a:=⟨h.os,h.tape,h.output,h.size,h.drawn,λb c=>h.block b c (d b c)⟩
def Ext.cell{w c:cn}(e:Ext w c){v:cq}(d:w.cell? h=some v):c.cell? h=some v:=by
 have a:h.block<w.me:=by refine xr λb=>?_;have:w.heap[h.block]? =none:=lT b;simp[World.cell?,this]at d
 exact(Go.Proofs.W.gA (e.block _ a)).trans d
def Ext.at_{w a:cn}(h:Ext w a){b:Nat}(c:w.heap[b]? =some O):a.heap[b]? =some O:=(h.block b (cP.lt_of_heap c)).trans c
def kg(a:Act)(j:Nat):a.eval (.tmp j)=(a.tmps[j]?).getD undef:=by show a.tmps.getD j fR=_;simp[wx]
def Dz(a:Act)(d j:Nat)(v:cq)(h:d≠j):(a.put (some d) v).eval (.tmp j)=a.eval (.tmp j):=by rw[kg,kg];simp only[Act.put];rw[eo h]
def zT(a:Act)(d:Nat)(v:cq)(h:d<a.tmps.size):(a.put (some d) v).eval (.tmp d)=v:=by rw[kg];simp only[Act.put];rw[kI h];rfl
def qT(a:Act)(d:Option Nat)(j:Nat)(v:cq)(h:d≠some j):(a.put d v).eval (.tmp j)=a.eval (.tmp j):=by
 cases d with
 |none=>rfl
 |some d=>exact Dz a d j v (λe=>h (by rw[e]))
def u4(a:Act)(d:Nat)(v:cq)(h:d<a.tmps.size):(a.put (some d) v).eval (.tmp d)=v:=zT a d v h
def mE(a:Act)(d:Option Nat)(v:cq):(a.put d v).tmps.size=a.tmps.size:=by cases d<;>simp[Act.put]
def tX(a:Act)(d:Option Nat)(v:cq):(a.put d v).defers=a.defers:=by cases d<;>rfl
def waits(ops:Array Oper)(k j:Nat):Bool:=match ops[k]? with
 |some o=>o.after.any λe=>e.on==j&&Region.binds .any e
 |none=>false
def wrote(ops:Array Oper)(j:Nat):Bool:=ops.any λo=>o.dst==some j
structure fJ(E:cn->cn->Prop):Prop where
 refl:∀w,E w w
 trans:∀a b c,E a b->E b c->E a c
 drew:∀w,E w w.drew
def cV:fJ Ext:=⟨Ext.refl,λ_ _ _=>Ext.trans,Ext.drew⟩
def iF(F:cN):fJ (cW F):=⟨cW.refl F,λ_ _ _ h k=>h.trans k (λ_ _ h=>h) λ_ _ h=>h,λw=>(Ext.drew w).keep F⟩
section
variable{P:cA}{ops:Array Oper}{Q:Exit->Act->cn->Prop}{a0:Act}{w0:cn}{N m:Nat}{wF:Nat->cq->cn->Prop}{E:cn->cn->Prop}
def gZ(L:Array Bool)(i j:Nat)(h:i<L.size):(L.setIfInBounds i true).getD j false=if i=j then true else L.getD j false:=by by_cases e:i=j;subst e;simp[h];simp[wx,eo e,e]
def xZ{i:Nat}{o:Oper}{a:Act}{w:cn}{K:Act->cU}(f:dH)(b:dU)(g:ops[i]? =some o)(j:o.guard=none)(k:(execOp a.eval o).run P w=.ok (.enter f b) w)
 (l:Calls P f b w λe d=>(∃v,e=.returned v/\K (a.put o.dst v) d)\/∃c,e=.panicked c/\Q (.panic c) a d):wpOp P ops Q i K a w:=by
 have m:Region.wanted o (yielded ops a.tmps)=true:=by simp[Region.wanted,j]
 unfold wpOp;rw[g];simp only[m,dF];refine .inl ?_;unfold Oper.wp;rw[k];refine l.mono ?_;rintro e d (⟨v,rfl,h⟩|⟨c,rfl,h⟩);exact h;exact h
end
def O5(E:cn->cU)(p:nd):Prop:=∀v w a,p v w->E w a->p v a
def infoAt(ops:Array Oper)(i:Nat):Option (Op×Option (Nat×Bool)):=(ops[i]?).map λo=>(o.op,o.guard)
def I8{ops:Array Oper}{i:Nat}{o:Oper}{a:Op}{g:Option (Nat×Bool)}(b:ops[i]? =some o)(h:infoAt ops i=some (a,g)):o.op=a/\o.guard=g:=by unfold infoAt at h;rw[b]at h;simp only[jJ,fO,Prod.mk.injEq]at h;exact h
def x6{ops:Array Oper}{i:Nat}{o:Oper}{d:Option Tmp}(a:ops[i]? =some o)(h:((ops[i]?).map (·.dst))=some d):o.dst=d:=by rw[a]at h;simpa using h
def u5{ops:Array Oper}{n:Nat}(i:Nat)(h:ops.size=n)(a:i<n):∃o,ops[i]? =some o:=⟨_,iY (by omega)⟩
def boxed(n:Nat)(b:dU)(t:cw):nd:=λv w=>∃a,v=.pointer (some ⟨a,0,none⟩)/\n<=a/\w.heap[a]? =some (.cells b t)
def Gq(n:Nat)(a:dU)(t:cw):O5 Ext (boxed n a t):=λ_ _ _ ⟨b,c,d,e⟩ f=>⟨b,c,d,f.at_ e⟩
def cW.eP{F:cN}{w c:cn}(e:cW F w c){v:cq}(d:w.cell? h=some v)(f:¬F h.block):c.cell? h=some v:=by
 have a:h.block<w.me:=by refine xr λb=>?_;have:w.heap[h.block]? =none:=lT b;simp[World.cell?,this]at d
 exact(Go.Proofs.W.gA (e.block _ a f)).trans d
def cW.fe{F:cN}{w a:cn}(h:cW F w a){b:Nat}(c:w.heap[b]? =some O)(d:¬F b):a.heap[b]? =some O:=(h.block b (cP.lt_of_heap c) d).trans c
end Go.Proofs.W
variable{K:dH}
namespace Go.Proofs.W
open Go.RowKit
section
variable{P:cA}{Q:Exit->Act->cn->Prop}{a:Act}{w:cn}
def DC{p:cN}(h:∃k,p k):∃k,p k/\∀j,p j->k<=j:=by
 obtain⟨k,d⟩:=h;induction k using Nat.strongRecOn with
 |_ k e=>
  by_cases c:∃j,p j/\j<k;obtain⟨j,b,a⟩:=c;exact e j a b;exact⟨k,d,λj b=>Nat.le_of_not_lt λa=>c ⟨j,b,a⟩⟩
def mF{c:Code}(I:Nat->Act->cU)(n:Nat)(o:I n a w)
 (b:∀k a w,I k a w->c.wp P (Exit.then (λl m=>∃f,f<k/\I f l m) Q) a w):(Code.loop c).wp P Q a w:=by
 let g:Act->cn->Nat:=λa w=>by classical exact if h:∃k,I k a w then Classical.choose (DC h)else 0
 have i:∀a w,(∃k,I k a w)->I (g a w) a w/\∀j,I j a w->g a w<=j:=by intro a w h;have:=iN (DC h);simp only[g,h,dif_pos];exact this
 refine wp_loop (λa w=>∃k,I k a w) g ⟨n,o⟩ λa w p=>?_;obtain⟨q,s⟩:=i a w p;refine kz (b (g a w) a w q) λe l m h=>?_;cases e with
 |normal=>
  obtain⟨f,r,d⟩:=h;exact⟨⟨f,d⟩,Nat.lt_of_le_of_lt ((i l m ⟨f,d⟩).2 f d) r⟩
 |_=>exact h
end
noncomputable def Az(a:dU)(n:Nat):Act:=⟨a++Array.replicate (n-a.size) undef,[]⟩
def te(a:dU)(n:Nat)(h:a.size<=n):(Az a n).tmps.size=n:=by simp[Az];omega
def yd(a:dU)(n i:Nat)(v:cq)(h:a[i]? =some v):(Az a n).eval (.tmp i)=v:=by have b:i<a.size:=(eU.1 h).1;rw[kg];show((a++Array.replicate (n-a.size) fR)[i]?).getD fR=v;rw[wz b,h];rfl
def L4{P:cA}{b:Func}{c:Code}{w:cn}{R:Ending->cU}(n:Nat) (e:P.funcs[K]? =some b)(f:b.body=some c)(g:b.ntmps=n)(h:∀a:Act,a.tmps.size=n->a.defers=[]->(∀i v,W[i]? =some v->a.eval (.tmp i)=v)->c.wp P (bodyPost P b R) a w)(d:W.size<=n):Calls P K W w R:=by refine calls_of_wp e f ?_;rw[g];exact h (Az W n) (te _ _ d) rfl λi v j=>yd _ _ _ _ j
def wG{P:cA}{b:Func}{c:Code}{w:cn}{R:Ending->cU}(n:Nat) (e:P.funcs[K]? =some b)(f:b.body=some c)(g:b.ntmps=n)(h:∀a:Act,a.tmps.size=n->a.defers=[]->(∀i v,W[i]? =some v->a.eval (.tmp i)=v)->c.wp P (bodyPostD P b R) a w)(d:W.size<=n):Calls P K W w R:=by refine calls_of_wp_defers e f ?_;rw[g];exact h (Az W n) (te _ _ d) rfl λi v j=>yd _ _ _ _ j
def lV(b x:Sp):Sp:=if lS x b then x else b
def kV(l c:gC)(m k a b:Int):lS (some (l,m,k)) (some (c,a,b))=decide (m<a\/m=a/\k<b):=by simp only[lS];by_cases h:m=a;subst h;simp;simp[h]
def ny(x:Sp):lV none x=x:=by cases x<;>simp[lV,lS]
def DD(a b c:Sp):lV (lV a b) c=lV a (lV b c):=by
 rcases a with _|⟨l,m,k⟩;simp only[ny];rcases b with _|⟨o,f,i⟩;have:lV (some (l,m,k)) none=some (l,m,k):=rfl;rw[this,ny];rcases c with _|⟨n,d,e⟩;rfl;simp only[lV,kV,iQ];by_cases h:f<m\/f=m/\i<k;by_cases g:d<f\/d=f/\e<i;have j:d<m\/d=m/\e<k:=by omega
 simp[h,g,j,kV];simp[h,g,kV];by_cases g:d<f\/d=f/\e<i;simp[h,g,kV];have j:¬(d<m\/d=m/\e<k):=by omega
 simp[h,g,j,kV]
def I9(l:List Sp):oA l=l.foldl lV none:=by
 cases l with
 |nil=>rfl
 |cons x a=>
  rw[qa,ny];rfl
theorem tf{c:Type}(f:Sp->c->Sp)(a:∀b i,f b i=lV b (f none i)):∀(l:List c) (b:Sp),l.foldl f b=lV b (l.foldl f none)
 |[],b=>by cases b<;>rfl
 |i::l,b=>by rw[qa,qa,tf f a l (f b i),tf f a l (f none i),a b i,DD]
def fu(D:ep)(k:Nat):Nat:=D.opn.getD k 0
def dN(D:ep)(k:Nat):List cz:=D.lists.getD k []
def er(D:ep):Nat->cz->(Nat->Nat)->Sp->Sp
 |0,c,L,a=>lV a (eB D L c)
 |n+1,c,L,a=>(List.range (dN D c.length).length).foldl (λb i=>er D n (c++[i]) (jU (fu D c.length) ((dN D c.length).getD i []) L) b) a
theorem sD(D:ep):∀(n:Nat) (a:cz) (L:Nat->Nat) (b:Sp),er D n a L b=lV b (er D n a L none)
 |0,a,L,b=>by simp only[er,ny]
 |n+1,a,L,b=>by simp only[er];exact tf (λb i=>er D n (a++[i]) (jU (fu D a.kq) ((dN D a.kq).getD i []) L) b) (λb i=>sD D n _ _ b) _ b
def L0:Nat->Nat:=λ_=>0
def gN(D:ep):Sp:=er D D.opn.length [] L0 none
def DF(D:ep)(i:Nat):Sp:=er D (D.opn.length-1) [i] (jU (fu D 0) ((dN D 0).getD i []) L0) none
def Gr(D:ep)(h:0<D.opn.length):gN D=oA ((List.range (dN D 0).length).map (DF D)):=by rw[I9,List.foldl_map];unfold gN;obtain⟨m,a⟩:∃m,D.opn.length=m+1:=⟨D.opn.length-1,by omega⟩;rw[a];simp only[er,fB];congr 1;funext b i;rw[sD];simp only[DF,a,Nat.add_sub_cancel,sr]
def nz(d:Nat)(l:cz)(L:Nat->Nat):Nat->Nat:=λs=>if s∈l then qS (L s) d else L s
def Ja:∀x,x<32->∀d,d<5->qS (qS x d) d=qS x d:=by decide+kernel
def L5:∀x,x<32->∀d,d<5->qS x d=x->qS (qi x d) d=x:=by decide+kernel
def DG:∀x,x<32->∀d,d<5->∀a,a<5->d≠a->qS x a=x->qS (qi x d) a=qi x d:=by decide+kernel
def DI{L:Nat->Nat}(c:d<5)(a:∀s,s<6->L s<32):∀s,s<6->nz d l L s<32:=by intro s b;unfold nz;split;exact O2 _ (a s b) _ c;exact a s b
def Gs{L:Nat->Nat}(c:d<5)(e:∀s,s<6->L s<32)(k:Nat)(f:k<l.length)(g:l[k]<6):Gp (nz d (l.take k) L) l[k] (qS (nz d (l.take k) L l[k]) d)=nz d (l.take (k+1)) L:=by
 funext s;have a:∀s,s∈l.take (k+1)↔s∈l.take k\/s=l[k]:=λs=>by rw[lH _ _ f];exact List.mem_append.trans (or_congr mS iJ)
 unfold Gp nz;by_cases b:s=l[k];subst b;rw[cB rfl,cB ((a _).2 (.inr rfl))];split;exact Ja _ (e _ g) _ c;rfl;rw[cy b];by_cases h:s∈l.take k;rw[cB h,cB ((a _).2 (.inl h))];rw[cy h,cy λi=>((a _).1 i).elim h b]
def DJ{L:Nat->Nat}(b:d<5)(c:∀s,s<6->L s<32)(e:∀s,s<6->qS (L s) d=L s):∀s,s<6->nz d l (jU d l L) s=L s:=by intro s a;unfold nz jU;split;exact L5 _ (c s a) _ b (e s a);rfl
structure wV(N:Nat->Prop)(pb T:Nat)(D:ep)(w:cn)(ps:List Nat)(pa:Option Addr)(pc:Nat)(L:Nat->Nat)(y:SV):Prop where
 plan:fg N pb D w
 sep:∀b,N b->b<w.heap.size/\b≠T/\pa≠some ⟨b,0,none⟩
 at_:w.heap[T]? =some (eC pb pa ps.length pc L y)
 own:oX T w pa pc ps
 lt:∀s,s<6->L s<32
 free:∀s,s<6->∀j,ps.length<=j->j<D.opn.length->qS (L s) (fu D j)=L s
 len:ps.length<=D.opn.length
 bare:D.opn.length=0->pa=none
structure iu(N:Nat->Prop)(pb T:Nat)(D:ep)(m0 j0:Nat)(w:cn)(ps:List Nat)(pa:Option Addr)(pc:Nat)(L:Nat->Nat)(y:SV)(s:Sp):Prop where
 t:wV N pb T D w ps pa pc L y
 sched:dp (λb=>m0<=b/\b≠T/\pa≠some ⟨b,0,none⟩) w s y
 cap:vQ j0 w s y
 size:m0<=w.heap.size
 drawn:j0<=w.drawn
def DK(N:cN)(h T:Nat)(D:ep)(i j:Nat)(w:cn)(k:cz)(d:ek)(L:Nat->Nat)(s:Sp)(e:Ending)(f:cn):Prop:=
 e=.returned undef/\∃a c g l,iu N h T D i j f k a c g l s/\(∀s,s<6->g s=L s)/\cW (λb=>b=T\/d=some ⟨b,0,none⟩) w f/\(a=d\/∃b,w.heap.size<=b/\a=some ⟨b,0,none⟩)
def O6:SV:=⟨none,0,0,0,0,false⟩
def DL:Prop:=∀(N:cN) (b T:Nat) (D:ep) (c d:Nat) (w:cn) (a:cz) (e:ek) (f:Nat) (L:Nat->Nat) (y:SV) (s:Sp) (i:Nat),iu N b T D c d w a e f L y s->a.length<D.opn.length->i<(dN D a.length).length->Calls V.prog 190 #[.pointer (some ⟨T,0,none⟩),.int .i64 i] w (DK N b T D c d w a e L (er D (D.opn.length-a.length-1) (a++[i]) (jU (fu D a.length) ((dN D a.length).getD i []) L) s))
def L6:Prop:=∀(N:cN) (b T:Nat) (D:ep) (c d:Nat) (w:cn) (a:cz) (e:ek) (f:Nat) (L:Nat->Nat) (y:SV) (s:Sp),iu N b T D c d w a e f L y s->Calls V.prog 216 #[.pointer (some ⟨T,0,none⟩)] w (DK N b T D c d w a e L (er D (D.opn.length-a.length) a L s))
def tg{a:Addr}(h:w.cell? a=some x):a.block<w.heap.size:=by refine xr λb=>?_;have:w.heap[a.block]? =none:=lT b;simp[World.cell?,this]at h
structure O7(T:Nat)(ps:List Nat)(i:Nat)(pa:Option Addr)(pc:Nat)(w w':cn):Prop where
 keep:cW (λb=>pa=some ⟨b,0,none⟩) w w'
 own:oX T w pa pc ps->oX T w' pa pc ps
 stay:∀b,pa=some ⟨b,0,none⟩->w.cell? ⟨b,ps.length,none⟩=some (.int .i64 i)->w'.heap[b]? =w.heap[b]?
section
variable{T:Nat}{ps:List Nat}{i:Nat}{pa:Option Addr}{pc:Nat}
def oX.ext(h:oX T w pa pc ps)(e:∀b,b<w.heap.size->pa=some ⟨b,0,none⟩->t.heap[b]? =w.heap[b]?):oX T t pa pc ps:=by rcases h with h|⟨a,f,c,g,d,i⟩;exact .inl h;exact .inr ⟨a,f,c,g,(e a (cP.lt_of_heap d) c).trans d,i⟩
def ye(h:Ext w t):O7 T ps i pa pc w t:=⟨h.keep _,λa=>a.ext λb c _=>h.block b c,λb _ d=>h.block b (tg d)⟩
def O8:fJ (O7 T ps i pa pc):=by refine⟨λw=>ye (Ext.refl w),λa b c h k=>⟨h.keep.trans k.keep (λ_ _ h=>h) (λ_ _ h=>h),λg=>k.own (h.own g),λx d e=>?_⟩,λw=>ye (Ext.drew w)⟩;have f:=h.stay x d e;exact(k.stay x d ((Go.Proofs.W.gA (ad:=(cY x ps.kq)) f).trans e)).trans f
def picked(i:Nat)(w:cn)(v:cq)(a:cn):Prop:=∃B,v=.slice (some ⟨B,0,none⟩) 1 1/\w.heap.size<=B/\a.heap[B]? =some (.cells #[.int .i64 i] 3)
def DM(a:∀b,pa=some ⟨b,0,none⟩->b<w.heap.size):O5 (O7 T ps i pa pc) (picked i w):=λv h j ⟨B,c,d,e⟩ f=>
 ⟨B,c,d,f.keep.fe e λg=>by have:=a B g;omega⟩
def yf(T:Nat)(ps:cz)(i:Nat)(pa:ek)(w:cn)(v:cq)(d:cn):Prop:=
 ∃a c,v=.slice a (ps.length+1) c/\oX T d a c (ps++[i])/\(a=pa\/∃b,w.heap.size<=b/\a=some ⟨b,0,none⟩)
def zU(a:∀b,pa=some ⟨b,0,none⟩->b<w.heap.size):O5 (O7 T ps i pa pc) (yf T ps i pa w):=by rintro v t u ⟨c,d,m,e,j⟩ k;refine⟨c,d,m,?_,j⟩;rcases e with⟨_,e,_⟩|⟨f,n,g,o,h,p,q,r,l⟩;simp at e;refine .inr ⟨f,n,g,o,?_,p,q,r,l⟩;rcases j with rfl|⟨b,x,rfl⟩;refine(k.stay f g ?_).trans h;have:=l ps.kq (by simp);simp only[World.cell?,h];rw[this];simp;obtain rfl:b=f:=cT Addr.block (cO g);exact k.keep.fe h λs=>by have:=a b s;omega
end
def dp.grow{w w1:cn}{s:Sp}{y:SV}(q:∀b g a,A b->w.heap[b]? =some (.cells g 3 a)->w1.heap[b]? =some (.cells g 3 a))(h:dp A w s y):dp A w1 s y:=by
 cases s with
 |none=>exact h
 |some s=>
  obtain⟨l,m,k⟩:=s;obtain⟨i,j,n,o,c|⟨c,d,p,r,t,u,a,e,f⟩⟩:=h;exact⟨i,j,n,o,.inl c⟩;exact⟨i,j,n,o,.inr ⟨c,d,p,r,t,u,a,e,q _ _ _ p f⟩⟩
def dp.imp{o o':cN}{s:Sp}{y:SV}(p:∀b q c,o b->w.heap[b]? =some (.cells q 3 c)->o' b)(h:dp o w s y):dp o' w s y:=by
 cases s with
 |none=>exact h
 |some s=>
  obtain⟨l,m,k⟩:=s;obtain⟨g,i,j,n,d|⟨d,e,r,t,u,v,c,f,a⟩⟩:=h;exact⟨g,i,j,n,.inl d⟩;exact⟨g,i,j,n,.inr ⟨d,e,p _ _ _ r a,t,u,v,c,f,a⟩⟩
def dp.move{o o':cN}{w w1:cn}{s:Sp}{y:SV}(i:∀b a c,o b->w.heap[b]? =some (.cells a 3 c)->o' b/\w1.heap[b]? =some (.cells a 3 c))(h:dp o w s y):dp o' w1 s y:=
 ((h.imp (o':=λb=>∃a c,o b/\w.heap[b]? =some (.cells a 3 c)) λb a c d e=>⟨a,c,d,e⟩).grow (w1:=w1) λb a c ⟨_,_,d,_⟩ e=>(i b a c d e).2).imp λb a c ⟨f,g,d,e⟩ _=>(i b f g d e).1
def dp.ext{s:Sp}{y:SV}(a:Ext w t)(h:dp A w s y):dp A t s y:=h.grow λ_ _ _ _ h=>a.at_ h
theorem vQ.tape{s:Sp}{y:SV}(a:t.tape=w.tape)(h:vQ m w s y):vQ m t s y:=λl b k c d=>by obtain⟨j,f,e⟩:=h l b k c d;exact⟨j,f,by rw[a];exact e⟩
def BA(D:ep)(L:Nat->Nat)(a:cz)(d:Nat)(w:cn)(v:cq)(c:cn):Prop:=∃y:SV,v=y.val/\dp (λb=>w.heap.size<=b) c (eB D L a) y/\vQ d c (eB D L a) y
def DN{D:ep}{L:Nat->Nat}:O5 Ext (BA D L l m w):=λ_ _ _ ⟨y,b,c,d⟩ a=>⟨y,b,c.ext a,d.tape a.tape⟩
end Go.Proofs.W
variable{M Y:List cq}
namespace Go.Proofs.W
open Go.RowKit
theorem qU:∀(a:dr) (w:cn) (b o:Nat) (e:dU) (t:cw) (g:Nat×Nat),w.heap[b]? =some (.cells e t g)->o+a.length<=e.size->(w.setCells b o a).os=w.os/\(w.setCells b o a).tape=w.tape/\(w.setCells b o a).output=w.output/\(w.setCells b o a).drawn=w.drawn/\(w.setCells b o a).heap.size=w.heap.size/\(∀c,c≠b->(w.setCells b o a).heap[c]? =w.heap[c]?)/\∃d,(w.setCells b o a).heap[b]? =some (.cells d t g)/\d.size=e.size/\(∀j,j<o->d[j]? =e[j]?)/\(∀j,j<a.length->d[o+j]? =a[j]?)/\∀j,o+a.length<=j->d[j]? =e[j]?
 |[],w,b,o,e,t,g,h,n=>⟨rfl,rfl,rfl,rfl,rfl,λ_ _=>rfl,e,h,rfl,λ_ _=>rfl,λj f=>by simp at f,λ_ _=>rfl⟩
 |v::a,w,b,o,e,t,g,h,n=>by
  have i:o+1+a.length<=e.size:=by simp at n;omega
  have r:(w.setCell (cY b o) v).heap[b]? =some (.cells (e.setIfInBounds o v) t g):=by simp[World.setCell,mR,h]
  obtain⟨s,u,x,y,z,A,d,B,C,p,k,l⟩:=qU a (w.setCell (cY b o) v) b (o+1) (e.setIfInBounds o v) t g r (by simpa using i);have m:o<e.size:=by omega
  refine⟨s,u,x,y,by rw[show(w.setCells b o (v::a))=(w.setCell (cY b o) v).setCells b (o+1) a from rfl,z];simp[World.setCell],λc q=>?_,d,B,by simpa using C,λj f=>?_,λj f=>?_,λj f=>?_⟩;exact(A c q).trans (cP.Cr.eA _ _ _ _ q);rw[p j (by omega),eo (by omega)];cases j with
  |zero=>rw[p (o+0) (by omega)];simp[m]
  |succ j=>
   have:=k j (by simp at f;omega);rw[show o+(j+1)=o+1+j by omega,this];simp
  rw[l j (by simp at f;omega),eo (by simp at f;omega)]
def cR(g:Nat)(t:cw)(e:dr)(w:cn)(v:cq)(a:Nat)(f:dr):Prop:=
 f.length=a*e.length/\((a=0/\v=.slice none 0 0)\/∃b c d,g<=b/\v=.slice (some ⟨b,0,none⟩) a c/\w.heap[b]? =some (.cells d t)/\d.size=c*e.length/\a<=c/\c<2^63/\(∀j,j<f.length->d[j]? =f[j]?)/\∀j,f.length<=j->j<d.size->d[j]? =e[j%e.length]?)
def cH(v:cq)(b:Nat):Prop:=∃l c,v=.slice (some ⟨b,0,none⟩) l c
def cR.keep(h:cR m T M w x k Y)(e:cW A w t)(f:∀b,cH x b->¬A b):cR m T M t x k Y:=by obtain⟨a,h|⟨b,c,g,i,d,j,l⟩⟩:=h;exact⟨a,.inl h⟩;exact⟨a,.inr ⟨b,c,g,i,d,e.fe j (f b ⟨_,_,d⟩),l⟩⟩
def cR.ext(h:cR m T M w x k Y)(a:Ext w t):cR m T M t x k Y:=h.keep (a.keep λ_=>False) λ_ _ h=>h
def cR.nil(a:Nat)(t:cw)(b:dr)(w:cn):cR a t b w (.slice none 0 0) 0 []:=⟨by simp,.inl ⟨rfl,rfl⟩⟩
def cR.blk(h:cR m T M w x k Y)(a:cH x i):m<=i/\i<w.heap.size:=by obtain⟨l,j,e⟩:=a;obtain⟨n,⟨_,h⟩|⟨b,c,o,d,f,g,p⟩⟩:=h;rw[h]at e;cases e;rw[f]at e;injection e with e;obtain rfl:b=i:=cT Addr.block (cO e);exact⟨d,cP.lt_of_heap g⟩
theorem cR.len(h:cR m T M w x k Y):∃a c,x=.slice a k c/\k<=c/\c<2^63:=by obtain⟨g,⟨b,h⟩|⟨i,c,j,b,d,l,n,e,f,_⟩⟩:=h;exact⟨none,0,by rw[h,b],by omega,by omega⟩;exact⟨_,c,d,e,f⟩
def cR.cell(h:cR m T M w x k Y)(l:0<k):∃b c,x=.slice (some ⟨b,0,none⟩) k c/\m<=b/\∀j u,Y[j]? =some u->w.cell? ⟨b,j,none⟩=some u:=by obtain⟨n,⟨a,h⟩|⟨e,c,o,a,f,g,p,q,r,i,s⟩⟩:=h;omega;refine⟨e,c,f,a,λj u d=>?_⟩;simp only[World.cell?,g];rw[i j (iI.1 d).1,d];rfl
def sE(z:dU)(n j:Nat)(b:0<z.size)(c:j<n*z.size):(Builtin.zeroCells z n)[j]? =z[j%z.size]? :=by have a:j%z.size<z.size:=Nat.mod_lt _ b;simp[Builtin.zeroCells,c,a]
def Gt{F ty e:cw}{i:TypeInfo}(O:P.underlying F=some (.slice e))(Q:P.info? e=some i)(hz:i.zero=some z)(B:z.cells=M.toArray)(v:i.size=M.length)(H:i.bytes<=256)(aa:0<M.length) (ab:cR m e M w x k Y)(I:m<=w.heap.size){f c:Nat}{a:dr}(q:a.length=f*M.length)(hm:0<f)(o:∀j u,a[j]? =some u->w.cell? (h.add j)=some u)(h1:∀u∈a,u.oneCell'=true)(J:k+f<=1000000):∃R S,(Builtin.append_ #[F,F] ty #[x,.slice (some h) f c]).run P w=.ok R S/\cR m e M S R (k+f) (Y++a)/\cW (cH x) w S/\∀b,cH R b->cH x b\/w.heap.size<=b:=by
 have g:z.cells.size=M.length:=by rw[B];simp
 have C:a.length=f*i.size:=by rw[v];exact q
 obtain⟨r,⟨rfl,rfl⟩|⟨b,y,T,g1,rfl,N,g4,g5,g6,g7,g8⟩⟩:=ab;obtain rfl:Y=[]:=by simpa using r
 have G:=run_append_nil (P:=P) w F ty e i z O Q hz h f c a C o hm (by omega) (cZ (Nat.mul_le_mul (show f<=1000000 by omega) H) (by decide));have K:=grownCap_ge w f 0 e;refine⟨_,_,G,⟨by simp[q],.inr ⟨w.heap.size,grownCap w f 0 e,a.toArray++Builtin.zeroCells z.cells (grownCap w f 0 e-f),I,by simp,fp w.drew _,?_,by omega,?_,?_,?_⟩⟩,?_,?_⟩;simp only[Ac,gK,size_zeroCells,g,q,<-Nat.add_mul];congr 1;omega;have:=grownCap_le_maxLen w f 0 e (by simp only[maxLen];omega);simp only[maxLen]at this;omega;intro j n;rw[wz (by simpa using n)];simp;intro j n A;simp only[sr]at n;rw[zO (by simpa using n)];simp only[Ac,gK,size_zeroCells,g]at A;simp only[gK];rw[sE _ _ _ (by omega) (by rw[g];omega),g,B,q];have s:(j-f*M.length)%M.length=j%M.length:=by obtain⟨d,rfl⟩:∃d,j=f*M.length+d:=⟨j-f*M.length,by omega⟩;rw[Nat.add_sub_cancel_left,Nat.add_comm,Nat.add_mul_mod_self_right]
 rw[s];simp;exact((Ext.drew w).trans (Ext.alloc _ _)).keep _;rintro b ⟨l,c',t⟩;injection t with t;have:w.heap.size=b:=cT Addr.block (cO t);exact .inr (by omega);by_cases p:k+f<=y;have U:Y.length+a.length<=T.size:=by rw[r,q,g4,<-Nat.add_mul];exact qy _ p
 have G:=run_append_room_cells (P:=P) w F ty e i O Q b 0 k y h f c a C o h1 p
  (λj n=>by
   have:Y.length+j<T.size:=by omega
   rw[v,cG,<-r];simp[World.cell?,N,this])
  (λj n=>by simp[World.frozen?,N])
 rw[v,cG,<-r]at G;obtain⟨e1,e2,e3,e4,e5,e6,V,e7,e8,e9,W,X⟩:=qU a w b Y.length T e (0,0) N U;refine⟨_,_,G,⟨by rw[jA,r,q,Nat.add_mul],.inr ⟨b,y,V,g1,rfl,e7,by rw[e8,g4],p,g6,?_,?_⟩⟩,⟨e1,e2,e3,by rw[e5];exact cJ _,by rw[e4];exact cJ _,λL _ Z=>e6 L λe=>Z ⟨k,y,by rw[e]⟩⟩,λL Z=>.inl ?_⟩;intro j n;by_cases D:j<Y.length;rw[e9 j D,g7 j D,nT D];obtain⟨d,rfl⟩:∃d,j=Y.length+d:=⟨j-Y.length,by omega⟩;rw[W d (by simp at n;omega),oM (by omega)];simp;intro j n A;rw[jA]at n;rw[X j n];exact g8 j (by omega) (by omega);obtain⟨l,c',t⟩:=Z;injection t with t;obtain rfl:b=L:=cT Addr.block (cO t);exact⟨k,y,rfl⟩;have E:∀j u,Y[j]? =some u->w.cell? (((cY b 0):Addr).add j)=some u:=by intro j u hu;rw[Addr.add_lit];simp only[World.cell?,N,cG];rw[g7 j (iI.1 hu).1,hu];rfl
 have G:=run_append_grow (P:=P) w F ty e i z O Q hz (cY b 0) k y Y (by rw[v];exact r) E h f c a C o (by omega) (by omega) (growslice_fits (by omega) (cZ (Nat.mul_le_mul J H) (by decide)));have K:=grownCap_ge w (k+f) y e;refine⟨_,_,G,⟨by rw[jA,r,q,Nat.add_mul],.inr ⟨w.heap.size,grownCap w (k+f) y e,_,I,rfl,fp w.drew _,?_,K,?_,?_,?_⟩⟩,?_,?_⟩;simp only[Ac,gK,size_zeroCells,g,r,q,<-Nat.add_mul];congr 1;omega;have:=grownCap_le_maxLen w (k+f) y e (by simp only[maxLen];omega);simp only[maxLen]at this;omega;intro j n;rw[wz (by simpa using n)];simp;intro j n A;simp only[jA]at n;rw[zO (by simpa using n)];simp only[Ac,gK,size_zeroCells,g,r,q]at A;simp only[Ac,gK,r,q];rw[r,q]at n;rw[sE _ _ _ (by omega) (by rw[g];omega),g,B];have s:(j-(k*M.length+f*M.length))%M.length=j%M.length:=by obtain⟨d,rfl⟩:∃d,j=(k*M.length+f*M.length)+d:=⟨j-(k*M.length+f*M.length),by omega⟩;rw[Nat.add_sub_cancel_left,<-Nat.add_mul,Nat.add_comm,Nat.add_mul_mod_self_right]
 rw[s];simp;exact((Ext.drew w).trans (Ext.alloc _ _)).keep _;rintro L ⟨l,c',t⟩;injection t with t;have:w.heap.size=L:=cT Addr.block (cO t);exact .inr (by omega)
section
variable{P:cA}{ops:Array Oper}{Q:Exit->Act->cn->Prop}{a:Act}{w w':cn}{i m:Nat}
end
def cr{w:cn}{b o:Nat}{a:dU}{v:cq}(h:w.heap[b]? =some (.cells a T))(c:a[o]? =some v):w.cell? ⟨b,o,none⟩=some v:=by simp only[World.cell?,h];exact c
def Ext.cC{a w w':cn}{b:Nat}(h:Ext a w)(k:cW (λx=>x=b) w w')(d:a.heap.size<=b):Ext a w':=
 ⟨k.os.trans h.os,k.tape.trans h.tape,k.output.trans h.output,cZ h.size k.size,cZ h.drawn k.drawn,λx c=>(k.block x (dE c h.size) (by omega)).trans (h.block x c)⟩
section
variable{P:cA}{ρ:dw->cq}{w:cn}{v:cq}
end
end Go.Proofs.W
