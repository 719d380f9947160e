/- Laws that the proof needs, part 2. Conditions: none. -/
import Derived.Conc.WgGenN3
import Derived.Test.YteeagjkaflglpaaGreatRows
import Derived.Conc.DeferLaws
import Derived.Conc.CompanyDraw
import Derived.Conc.TokenWalk
import Derived.Laws.MakeOwn
import Derived.Conc.AppendWalk
import Derived.Below
import Derived.Outline
import Derived.Lib.Hide
import Derived.Conc.SmallLaws
import Derived.ArgAppend
import Derived.Defers
import Derived.Test.YteeagjkaflglpaaGreatX01
set_option maxRecDepth 100000
set_option maxHeartbeats 8000000
set_option linter.all false
variable{m k i j o p s d:Nat}{w t e:er}{x y z:eu}{A B C:Nat->Prop}{R:Go.eV.fj}{l f:List Nat}{T U:eD}{a:Option Go.Addr}{W X:Array eu}{M Y:List eu}{I J:Int}{h:Go.Addr}{D E:Bool}{F:Go.Frame}{O Q:Go.Obj}{K:fG}{Z:eA}{S:er->Prop}{P:eE}
namespace Go.eV.Wg
open Go.Conc Go.ConcN Go.RowKit Go.Conc.Lib Go.ConcR.Gen Go.ConcN.Gen Go.eV
open Go.ConcR (KK wgBlock WgAt stA smA mk Payload DC0)
variable{L:WgLink}
def iP{b:Frame}{a:Act}{k:List Item}{cs:List Frame}{n d:Nat}{c:Array Oper}{i:Nat}{e:ew}{o:Oper}(f:QuitsD P n d (G (b.at (a.put o.dst x) (.inRegion c e::k)) cs))(g:c[i]? =some o:=by rfl)(h:Region.wanted o (yielded c a.tmps)=true:=by rfl)(j:b.kind≠ .early:=by k_ne)(l:∀w,(execOp a.eval o).run P w=.ok (.value x) w:=by intro _;go_simp;(try(first|omega|(w_num;omega)|w_num|decide));rfl)(m:∀w,(execOp a.eval o).events P w #[]=#[]:=by intro _;simp[go_sem, *]):QuitsD P (n+1) d (G (b.at a (.inRegion c (i::e)::k)) cs):=QuitsD.value x g h j l m f
theorem n4:∀{n a d:Nat} {g:eA},n<=a->QuitsD P n d g->QuitsD P a d g
 |0,0,_,_,_,h=>h
 |0,_+1,_,_,_,h=>.inl h
 |n+1,0,_,_,b,_=>absurd b (by omega)
 |n+1,a+1,_,_,b,h=>h.imp id λ⟨c,e,f,i,j,k⟩=>⟨c,e,f,i,j,n4 (by omega) k⟩
section
variable{Wg:Nat}{b₀:Frame}{a₀:Act}{ops₀:Array Oper}{i₀:Nat}{rest₀:List Nat}{k₀:List Item}{cs:List Frame}{qt:Nat}
def Q0{P:eE}(H:WgLib P L)(s:QuitsD P qt 0 (G (b₀.at (a₀.put ((ops₀[i₀]?).bind (·.dst)) (.tuple #[])) (.inRegion ops₀ rest₀::k₀)) cs))(w:er)(a:True/\WgLive L.tWg Wg w):
 Goes P false (gd Cr.eS Cr.eS (Cr.Lv L.tWg Wg)) DC0 (Cr.R0 P L.tWg Wg) 40 (G ((base L.add).at ⟨#[.pointer (some ⟨Wg,0,none⟩),.int .i64 (-1)]++Array.replicate ((addFn L).ntmps-2) undef,[]⟩ [.code (body_add L)]) (b₀.at a₀ (.inRegion ops₀ (i₀::rest₀)::k₀)::cs)) w:=by
 have b:∀{w f:er},True/\WgLive L.tWg Wg w->gd Cr.eS Cr.eS (Cr.Lv L.tWg Wg) w f->True/\WgLive L.tWg Wg f:=λh r=>⟨trivial,r.live h.2⟩;lib_facts;simp only[body_add,addFn,lT,Nat.reduceSub,Array.replicate,List.replicate];u_c eM b a;u_cond true b a;iterate 2 u_c eM b a
 u_reg b a;iterate 2 u_op b a
 u_c eI b a;u_cond true b a;u_reg b a;u_op b a;u_conv H.underlying_tWgP H.room_tWg (WgLive.cell0 a.2).choose_spec b a;refine kR (λf g=>?_);replace a:=b a g;clear g;refine⟨rfl,_,stepG_markAt .releaseMerge (by simp) rfl rfl (by k_ne) rfl H.f_relMerge (x_relMerge_n L) (x_relMerge_b L) (x_relMerge_x L) (x_relMerge_f L) (by simp[Act.eval,stA]),20,?_⟩;walk_nrm;u_c eI b a;u_c eM b a;u_reg b a;refine kR (λu i=>?_);replace a:=b a i;clear i;refine⟨rfl,_,stepG_mark0 .disable (by simp) rfl rfl (by k_ne) rfl H.f_disable (x_disable_n L) (x_disable_b L) (x_disable_x L) (x_disable_f L),80,?_⟩;walk_nrm;u_c eI b a;u_reg b a;u_defer b a;u_c eI b a;u_c eM b a;u_reg b a;u_op b a;u_c eI b a;iterate 2 u_c eM b a
 u_reg b a;u_bub b a;u_c eI b a;u_cond false b a;u_c gX b a;u_c eM b a;u_reg b a;iterate 6 u_op b a
 u_call H.f_uAdd (nm_uAdd L) uAddFn b a;u_c eM b a;u_reg b a;u_op b a;u_c eI b a;u_c eM b a;u_reg b a;iterate 4 u_op b a
 refine kR (λe k=>?_);clear k a;refine⟨rfl,λv x A Q c=>?_⟩;have B:IntKind.u64.wrap (KK+18446744069414584320)=0:=by decide
 have C:IntKind.u64.wrap (KK+1+18446744069414584320)=1:=by decide
 obtain rfl|D:=ri v<;>(obtain rfl|rfl:x=0\/x=1:=by omega)
 ·
  replace c:WgAt L.tWg Wg e KK 0:=by simpa using c
  have z:((0:Nat):Int)*KK+((0:Nat):Int)=0:=by simp
  rw[z];refine⟨_,(stepG_add_atomic rfl rfl (by k_ne) rfl H.f_addU64 (x_addU64_n L) (x_addU64_b L) (x_addU64_x L) .u64 (x_addU64_f L) rfl rfl c.cellSt (c.thaw 0)).trans (by rw[B];rfl),λj=>absurd j.2 (by decide),λ_=>⟨qt+90,?_⟩⟩;clear c;walk_nrm;(refine iP ?_;walk_nrm);q_c eI;q_c stepG_ret';q_leave1 H.f_uAdd;(refine iP ?_;walk_nrm);q_c eI;iterate 2 q_c eM
  q_reg;iterate 4 (refine iP ?_;walk_nrm)
  iterate 2 q_skip
  (refine iP ?_;walk_nrm);q_c eI;q_cond false;q_c gX;q_c eM;q_reg;iterate 4 (refine iP ?_;walk_nrm)
  q_c eI;q_c eM;q_reg;iterate 4 (refine iP ?_;walk_nrm)
  q_c eI;iterate 2 q_c eM
  q_reg;iterate 5 (refine iP ?_;walk_nrm)
  iterate 4 q_skip
  (refine iP ?_;walk_nrm);q_c eI;q_cond false;q_c gX;iterate 2 q_c eM
  q_reg;iterate 2 (refine iP ?_;walk_nrm)
  q_c eI;q_cond false;q_c gX;iterate 2 q_c eM
  q_reg;iterate 3 (refine iP ?_;walk_nrm)
  iterate 2 q_skip
  iterate 2 (refine iP ?_;walk_nrm)
  iterate 4 q_skip
  (refine iP ?_;walk_nrm);q_c eI;q_cond false;q_c gX;iterate 2 q_c eM
  q_reg;iterate 6 (refine iP ?_;walk_nrm)
  q_c eI;q_cond true;q_c stepG_ret';q_enable;q_leave0 H.f_add;exact n4 (by omega) s
 ·
  replace c:WgAt L.tWg Wg e (KK+1) 0:=by simpa using c
  have z:((0:Nat):Int)*KK+((1:Nat):Int)=1:=by simp
  rw[z];refine⟨_,(stepG_add_atomic rfl rfl (by k_ne) rfl H.f_addU64 (x_addU64_n L) (x_addU64_b L) (x_addU64_x L) .u64 (x_addU64_f L) rfl rfl c.cellSt (c.thaw 0)).trans (by rw[C];rfl),λ_=>⟨150,?_⟩,λj=>absurd ⟨rfl,rfl⟩ j⟩;have a:True/\WgLive L.tWg Wg (e.setCell (stA Wg) (.int .u64 1)):=⟨trivial,_,_,c.setSt 1⟩;clear c;walk_nrm;u_op b a;u_c eI b a;u_c stepG_ret' b a;u_leave1 H.f_uAdd b a;u_op b a;u_c eI b a;iterate 2 u_c eM b a
  u_reg b a;iterate 4 u_op b a
  iterate 2 u_skip b a
  u_op b a;u_c eI b a;u_cond false b a;u_c gX b a;u_c eM b a;u_reg b a;iterate 4 u_op b a
  u_c eI b a;u_c eM b a;u_reg b a;iterate 4 u_op b a
  u_c eI b a;iterate 2 u_c eM b a
  u_reg b a;iterate 5 u_op b a
  iterate 4 u_skip b a
  u_op b a;u_c eI b a;u_cond false b a;u_c gX b a;iterate 2 u_c eM b a
  u_reg b a;iterate 2 u_op b a
  u_c eI b a;u_cond false b a;u_c gX b a;iterate 2 u_c eM b a
  u_reg b a;iterate 7 u_op b a
  iterate 4 u_skip b a
  u_op b a;u_c eI b a;u_cond false b a;u_c gX b a;iterate 2 u_c eM b a
  u_reg b a;iterate 6 u_op b a
  u_c eI b a;u_cond false b a;u_c gX b a;iterate 2 u_c eM b a
  u_reg b a;iterate 3 u_op b a
  u_call H.f_uLoad (nm_uLoad L) uLoadFn b a;u_c eM b a;u_reg b a;u_op b a;u_c eI b a;u_c eM b a;u_reg b a;iterate 3 u_op b a
  refine kR (λl m=>?_);clear m a;refine⟨rfl,λc=>⟨_,stepG_load_atomic rfl rfl (by k_ne) rfl H.f_loadU64 (x_loadU64_n L) (x_loadU64_b L) (x_loadU64_x L) .u64 (x_loadU64_f L) rfl c.cellSt,60,?_⟩⟩;have a:True/\WgLive L.tWg Wg l:=⟨trivial,_,_,c⟩;clear c;walk_nrm;u_op b a;u_c eI b a;u_c stepG_ret' b a;u_leave1 H.f_uLoad b a;iterate 2 u_op b a
  u_c eI b a;u_cond false b a;u_c gX b a;u_c eM b a;u_reg b a;iterate 3 u_op b a
  u_call H.f_uStore (nm_uStore L) uStoreFn b a;u_reg b a;iterate 4 u_op b a
  refine kR (λn o=>?_);clear o a;refine⟨rfl,λc=>⟨_,stepG_store_atomic rfl rfl (by k_ne) rfl H.f_storeU64 (x_storeU64_n L) (x_storeU64_b L) (x_storeU64_x L) (x_storeU64_f L) rfl rfl c.cellSt (c.thaw 0),60,?_⟩⟩;have a:True/\WgLive L.tWg Wg (n.setCell (stA Wg) (.int .u64 0)):=⟨trivial,_,_,c.setSt 0⟩;clear c;walk_nrm;u_c eI b a;u_c stepG_end b a;u_leave0 H.f_uStore b a;u_c eI b a;iterate 2 u_c eM b a
  u_reg b a;u_op b a;u_c eI b a;u_cond false b a;u_c gX b a;u_c tw b a;u_c stepG_loop b a;iterate 2 u_c eM b a
  u_reg b a;iterate 2 u_op b a
  u_c eI b a;u_cond true b a;u_c gX b a;u_c eM b a;u_c tw b a;u_reg b a;iterate 3 u_op b a
  refine kR (λy p=>?_);clear p a;refine⟨rfl,mayWake_entry rfl rfl H.f_semrelease (x_semrelease_b L),λc=>⟨_,(stepG_semrelease rfl rfl (by k_ne) rfl H.f_semrelease (x_semrelease_n L) (x_semrelease_b L) (x_semrelease_x L) (x_semrelease_f L) (by simp[Act.eval,smA]) c.cellSm (c.thaw 1)).trans (by rfl),qt+40,?_⟩⟩;clear c;walk_nrm;q_c eI;q_c stepG_inBlock;q_reg;iterate 3 (refine iP ?_;walk_nrm)
  q_c eI;q_c stepG_inLoop;iterate 2 q_c eM
  q_reg;iterate 2 (refine iP ?_;walk_nrm)
  q_c eI;q_cond false;q_exit;q_c stepG_end;q_enable;q_leave0 H.f_add;exact n4 (by omega) s
 ·
  replace c:WgAt L.tWg Wg e (((v:Nat)+1)*KK+0) 0:=by simpa using c
  have z:((v:Nat):Int)*KK+((0:Nat):Int)=(v:Int)*KK+0:=by simp
  rw[z];have t:0<v:=by omega
  have q:IntKind.u64.wrap (((v:Nat)+1)*KK+0+18446744069414584320)=(v:Int)*KK+0:=by rw[IntKind.wrap_u64];simp only[KK];omega
  obtain⟨S,d⟩:∃S:Int,S=(v:Int)*KK+0:=⟨_,rfl⟩;rw[<-d]at q⊢;have E:S/4294967296=(v:Int):=by rw[d];simp only[KK];omega
  have F:bits .and .u64 S 2147483648=0:=by rw[d];have:=st_flag v 0 (by omega) (by omega);simpa[KK]using this
  have I:bits .and .u64 S 2147483647=0:=by rw[d];have:=st_waiters v 0 (by omega) (by omega);simpa[KK]using this
  have J:IntKind.i32.wrap (v:Int)=(v:Int):=by rw[IntKind.wrap_i32];omega
  have K:decide ((v:Int)<0)=false:=jj (by omega);have M:decide (0<(v:Int))=true:=decide_eq_true (by omega);have N:((v:Int)==0)=false:=by simp;omega
  have O:decide ((v:Int)=0)=false:=jj (by omega);clear d z;refine⟨_,(stepG_add_atomic rfl rfl (by k_ne) rfl H.f_addU64 (x_addU64_n L) (x_addU64_b L) (x_addU64_x L) .u64 (x_addU64_f L) rfl rfl c.cellSt (c.thaw 0)).trans (by rw[q];rfl),λj=>absurd j.1 (by omega),λ_=>⟨qt+90,?_⟩⟩;clear c;walk_nrm;(refine iP ?_;walk_nrm);q_c eI;q_c stepG_ret';q_leave1 H.f_uAdd;(refine iP ?_;walk_nrm);q_c eI;iterate 2 q_c eM
  q_reg;iterate 4 (refine iP ?_;walk_nrm)
  iterate 2 q_skip
  (refine iP ?_;walk_nrm);q_c eI;q_cond false;q_c gX;q_c eM;q_reg;iterate 4 (refine iP ?_;walk_nrm)
  q_c eI;q_c eM;q_reg;iterate 4 (refine iP ?_;walk_nrm)
  q_c eI;iterate 2 q_c eM
  q_reg;iterate 5 (refine iP ?_;walk_nrm)
  iterate 4 q_skip
  (refine iP ?_;walk_nrm);q_c eI;q_cond false;q_c gX;iterate 2 q_c eM
  q_reg;iterate 2 (refine iP ?_;walk_nrm)
  q_c eI;q_cond false;q_c gX;iterate 2 q_c eM
  q_reg;iterate 3 (refine iP ?_;walk_nrm)
  iterate 2 q_skip
  iterate 2 (refine iP ?_;walk_nrm)
  iterate 4 q_skip
  (refine iP ?_;walk_nrm);q_c eI;q_cond false;q_c gX;iterate 2 q_c eM
  q_reg;iterate 3 (refine iP ?_;walk_nrm)
  iterate 2 q_skip
  (refine iP ?_;walk_nrm);q_c eI;q_cond true;q_c stepG_ret';q_enable;q_leave0 H.f_add;exact n4 (by omega) s
 ·
  replace c:WgAt L.tWg Wg e (((v:Nat)+1)*KK+1) 0:=by simpa using c
  have z:((v:Nat):Int)*KK+((1:Nat):Int)=(v:Int)*KK+1:=by simp
  rw[z];have t:0<v:=by omega
  have q:IntKind.u64.wrap (((v:Nat)+1)*KK+1+18446744069414584320)=(v:Int)*KK+1:=by rw[IntKind.wrap_u64];simp only[KK];omega
  obtain⟨S,d⟩:∃S:Int,S=(v:Int)*KK+1:=⟨_,rfl⟩;rw[<-d]at q⊢;have E:S/4294967296=(v:Int):=by rw[d];simp only[KK];omega
  have F:bits .and .u64 S 2147483648=0:=by rw[d];have:=st_flag v 1 (by omega) (by omega);simpa[KK]using this
  have I:bits .and .u64 S 2147483647=1:=by rw[d];have:=st_waiters v 1 (by omega) (by omega);simpa[KK]using this
  have J:IntKind.i32.wrap (v:Int)=(v:Int):=by rw[IntKind.wrap_i32];omega
  have K:decide ((v:Int)<0)=false:=jj (by omega);have M:decide (0<(v:Int))=true:=decide_eq_true (by omega);have N:((v:Int)==0)=false:=by simp;omega
  have O:decide ((v:Int)=0)=false:=jj (by omega);clear d z;refine⟨_,(stepG_add_atomic rfl rfl (by k_ne) rfl H.f_addU64 (x_addU64_n L) (x_addU64_b L) (x_addU64_x L) .u64 (x_addU64_f L) rfl rfl c.cellSt (c.thaw 0)).trans (by rw[q];rfl),λj=>absurd j.1 (by omega),λ_=>⟨qt+90,?_⟩⟩;clear c;walk_nrm;(refine iP ?_;walk_nrm);q_c eI;q_c stepG_ret';q_leave1 H.f_uAdd;(refine iP ?_;walk_nrm);q_c eI;iterate 2 q_c eM
  q_reg;iterate 4 (refine iP ?_;walk_nrm)
  iterate 2 q_skip
  (refine iP ?_;walk_nrm);q_c eI;q_cond false;q_c gX;q_c eM;q_reg;iterate 4 (refine iP ?_;walk_nrm)
  q_c eI;q_c eM;q_reg;iterate 4 (refine iP ?_;walk_nrm)
  q_c eI;iterate 2 q_c eM
  q_reg;iterate 5 (refine iP ?_;walk_nrm)
  iterate 4 q_skip
  (refine iP ?_;walk_nrm);q_c eI;q_cond false;q_c gX;iterate 2 q_c eM
  q_reg;iterate 2 (refine iP ?_;walk_nrm)
  q_c eI;q_cond false;q_c gX;iterate 2 q_c eM
  q_reg;iterate 7 (refine iP ?_;walk_nrm)
  iterate 4 q_skip
  (refine iP ?_;walk_nrm);q_c eI;q_cond false;q_c gX;iterate 2 q_c eM
  q_reg;iterate 3 (refine iP ?_;walk_nrm)
  iterate 2 q_skip
  (refine iP ?_;walk_nrm);q_c eI;q_cond true;q_c stepG_ret';q_enable;q_leave0 H.f_add;exact n4 (by omega) s
end
end Go.eV.Wg
namespace Go.eV.Cr
open Go.Conc Go.eV Go.eV.Kn Go.eV.Wg
open Go.ConcR (KK wgBlock WgAt stA smA mk DC0)
section
variable{P:eE}{main:Bool}{own rd:Nat->Prop}{ty:eD}{Wg:Nat}{S:jV}{g g':eA}{w:er} {b:Frame}{a:Act}{k:List Item}{cs:List Frame}{ops:Array Oper}{i:Nat}{rest:List Nat}{o:Oper}{v:eu}
def nH(f:g.status=.running)(h:∀b,gd own rd (Lv ty Wg) w b->∃g' c d a,stepG P main g b=.go g' c d/\Np own rd b c d a/\Wy P ty Wg main rd S a g' c):Wy P ty Wg main rd S own g w:=by refine Way.mk f λb i=>?_;obtain⟨g',c,d,a,e,j,k,l⟩:=h b i;exact⟨g',c,d,a,k,e,j,l⟩
def N5(b:g.status=.running)(h:∀w,stepG P main g w=.go g' w #[])(c:∀a,gd own rd (Lv ty Wg) w a->Wy P ty Wg main rd S own g' a):Wy P ty Wg main rd S own g w:=
 nH b λa d=>⟨g',a,#[],own,h a,Al λe f=>by simp at f,c a d⟩
def N6(d:ops[i]? =some o)(e:Region.wanted o (yielded ops a.tmps)=true)(f:b.kind≠ .early)(g:∀w,(execOp a.eval o).run P w=.ok (.value v) w)(h:∀w,(execOp a.eval o).events P w #[]=#[]) (j:∀c,gd own rd (Lv ty Wg) w c->Wy P ty Wg main rd S own (G (b.at (a.put o.dst v) (.inRegion ops rest::k)) cs) c):Wy P ty Wg main rd S own (G (b.at a (.inRegion ops (i::rest)::k)) cs) w:=
 N5 rfl (λw=>by rw[stepG_value d e f (g w)];unfold listed;rw[h w,seen_none]) j
def Q1(d:ops[i]? =some o)(f:Region.wanted o (yielded ops a.tmps)=true)(g:b.kind≠ .early) (h:∀c,gd own rd (Lv ty Wg) w c->(execOp a.eval o).run P c=.ok (.value v) c/\(∀e∈listed P b.fn a o c,EvW own rd c.heap.size c.heap.size e)/\Wy P ty Wg main rd S own (G (b.at (a.put o.dst v) (.inRegion ops rest::k)) cs) c):Wy P ty Wg main rd S own (G (b.at a (.inRegion ops (i::rest)::k)) cs) w:=
 nH rfl λc j=>by obtain⟨l,m,n⟩:=h c j;exact⟨_,c,_,own,stepG_value d f g l,Al m,n⟩
def TS{ob:Obj}(g:ops[i]? =some o)(j:Region.wanted o (yielded ops a.tmps)=true)(l:b.kind≠ .early) (h:∀c,gd own rd (Lv ty Wg) w c->∃v d,(execOp a.eval o).run P c=.ok (.value v) d/\d.tape=c.tape/\d.os=c.os/\d.output=c.output/\d.heap=c.heap.push ob/\(∀e∈listed P b.fn a o c,EvW own rd c.heap.size d.heap.size e)/\
  Wy P ty Wg main rd S (λx=>own x\/x=c.heap.size) (G (b.at (a.put o.dst v) (.inRegion ops rest::k)) cs) d):Wy P ty Wg main rd S own (G (b.at a (.inRegion ops (i::rest)::k)) cs) w:=
 nH rfl λc m=>by obtain⟨v,d,n,p,q,r,f,s,t⟩:=h c m;refine⟨_,d,_,_,stepG_value g j l n,⟨p,q,r,by rw[f];simp,λx=>?_,λx u _=>?_,s⟩,t⟩;rw[f,Array.size_push];constructor;rintro(h|h);exact .inl h;exact .inr (by omega);rintro(h|h);exact .inl h;exact .inr (by omega);rw[f,pA];split;rename_i e;omega;rfl
def FH{ad:Addr}{x:eu}(m:ops[i]? =some o)(n:Region.wanted o (yielded ops a.tmps)=true)(p:b.kind≠ .early)(g:own ad.block) (h:∀d,gd own rd (Lv ty Wg) w d->∃f,(execOp a.eval o).run P d=.ok .skip f/\f.tape=d.tape/\f.os=d.os/\f.output=d.output/\f.heap.size=d.heap.size/\(∀c,c≠ad.block->f.heap[c]? =d.heap[c]?)/\(∀e∈listed P b.fn a o d,EvW own rd d.heap.size d.heap.size e)/\Wy P ty Wg main rd S own (G (b.at (a.put o.dst undef) (.inRegion ops rest::k)) cs) f):Wy P ty Wg main rd S own (G (b.at a (.inRegion ops (i::rest)::k)) cs) w:=
 nH rfl λd q=>by obtain⟨f,r,s,t,u,j,v,z,A⟩:=h d q;refine⟨_,f,_,_,stepG_none m n p r,⟨s,t,u,by rw[j];exact eF _,λy=>?_,λy B l=>v y (λe=>l (e▸g)),by rw[j];exact z⟩,A⟩;rw[j];exact⟨.inl,λh=>h.elim id λh=>by omega⟩
def _root_.Go.eV.gd.cell{L:fa}{d:er}(f:gd own rd L w d)(g:own h.block\/rd h.block)(a:w.cell? h=some v):d.cell? h=some v:=by
 have b:h.block<w.mN:=by refine yF λc=>?_;have:w.heap[h.block]? =none:=ou c;simp[World.cell?,this]at a
 have e:=f.heap h.block b g;unfold World.cell? at a⊢;rw[e];exact a
def _root_.Go.eV.gd.obj{L:fa}{a:er}(h:gd own rd L w a){c:Nat}(d:own c\/rd c)(b:w.heap[c]? =some O):a.heap[c]? =some O:=by rw[h.heap c (lt_of_heap b) d];exact b
end
end Go.eV.Cr
namespace Go.Proofs.W
open Go.Conc Go.eV Go.eV.Cr Go.eV.Wg Go.RowKit Go.Conc.Lib Go.ConcR.Gen
open Go.ConcR (KK wgBlock WgAt stA smA mk DC0)
open Go.Proofs (Tryz.prog)
noncomputable abbrev PR:eE:=Tryz.prog
noncomputable def FI:Frame:=baseD 188
noncomputable def DV:Code:=Tryz.f188.body.getD .skip
noncomputable def FJ(a b c d:Nat):fZ:=#[.pointer (some ⟨d,0,none⟩),.pointer (some ⟨a,0,none⟩),.pointer (some ⟨b,0,none⟩),.pointer (some ⟨c,0,none⟩)]
noncomputable def call188(a b c d:Nat):Deferred:={target:=.fn (.func 188) (FJ a b c d),args:=#[]}
noncomputable def bot:Frame:={(default:Frame)with fn:=PR.funcs.size,defers:=[],mode:=.panicking [goexitEntry]}
def LG(a b c d:Nat)(w:er):stepG PR false (born PR (call188 a b c d)) w=.go (G (FI.at ⟨FJ a b c d++Array.replicate 14 undef,[]⟩ [.code DV]) [bot]) w #[]:=by simp[born,call188,FJ,stepG,unwind,callDeferred,invoke,callFunc,Tryz.func188,Tryz.f188,seen,GStep.after,G,Frame.enter,Frame.at,FI,baseD,bot,DV]
end Go.Proofs.W
namespace Go.eV.Cr
open Go.Conc Go.eV Go.eV.Kn Go.eV.Wg
open Go.ConcR (KK wgBlock WgAt stA smA mk DC0)
section
variable{P:eE}{main:Bool}{own rd:Nat->Prop}{ty:eD}{Wg:Nat}{S:jV}{K:er->Prop}{g g':eA} {b:Frame}{a:Act}{k:List Item}{cs:List Frame}{ops:Array Oper}{i:Nat}{rest:List Nat}{o:Oper}{v:eu}
def WK(P:eE)(ty:eD)(Wg:Nat)(main:Bool)(rd:eN)(S:jV)(own:eN)(K:fa)(g:eA):Prop:=∀w,K w->Wy P ty Wg main rd S own g w
def qi(own rd:eN)(L:fa)(K:fa):Prop:=∀w a,gd own rd L w a->K w->K a
def WK.step(b:qi own rd (Lv ty Wg) K)(f:g.status=.running)(h:∀w,K w->∃g' c d a,stepG P main g w=.go g' c d/\Np own rd w c d a/\Wy P ty Wg main rd S a g' c):WK P ty Wg main rd S own K g:=
 λw i=>nH f λe j=>h e (b w e j i)
def WK.ctl(a:qi own rd (Lv ty Wg) K)(c:g.status=.running)(h:∀w,stepG P main g w=.go g' w #[])(d:WK P ty Wg main rd S own K g'):WK P ty Wg main rd S own K g:=
 λw e=>N5 c h λb f=>d b (a w b f e)
def WK.val(c:qi own rd (Lv ty Wg) K)(e:ops[i]? =some o)(f:Region.wanted o (yielded ops a.tmps)=true)(g:b.kind≠ .early)(h:∀w,(execOp a.eval o).run P w=.ok (.value v) w)(j:∀w,(execOp a.eval o).events P w #[]=#[]) (l:WK P ty Wg main rd S own K (G (b.at (a.put o.dst v) (.inRegion ops rest::k)) cs)):WK P ty Wg main rd S own K (G (b.at a (.inRegion ops (i::rest)::k)) cs):=
 λw m=>N6 e f g h j λd n=>l d (c w d n m)
def WK.load(c:qi own rd (Lv ty Wg) K)(h:ops[i]? =some o)(j:Region.wanted o (yielded ops a.tmps)=true)(l:b.kind≠ .early) (m:∀w,K w->(execOp a.eval o).run P w=.ok (.value v) w)(n:∀w,K w->∀e∈(execOp a.eval o).events P w #[],EvW own rd w.heap.size w.heap.size e) (p:WK P ty Wg main rd S own K (G (b.at (a.put o.dst v) (.inRegion ops rest::k)) cs)):WK P ty Wg main rd S own K (G (b.at a (.inRegion ops (i::rest)::k)) cs):=
 λw f=>Q1 h j l λd g=>⟨m d (c w d g f),λe q=>n d (c w d g f) e (mem_listed q),p d (c w d g f)⟩
def WK.new{ob:Obj}{f:Nat->eu}(j:qi own rd (Lv ty Wg) K)(l:ops[i]? =some o)(m:Region.wanted o (yielded ops a.tmps)=true)(n:b.kind≠ .early) (p:∀w,K w->(execOp a.eval o).run P w=.ok (.value (f w.heap.size)) {w with heap:=w.heap.push ob})
 (q:∀w,K w->∀e∈(execOp a.eval o).events P w #[],EvW own rd w.heap.size (w.heap.size+1) e) (r:∀c,WK P ty Wg main rd S (λx=>own x\/x=c) (λw=>∃h,K h/\c=h.heap.size/\gd (λx=>own x\/x=c) rd (Lv ty Wg) {h with heap:=h.heap.push ob} w) (G (b.at (a.put o.dst (f c)) (.inRegion ops rest::k)) cs)):
 WK P ty Wg main rd S own K (G (b.at a (.inRegion ops (i::rest)::k)) cs):=
 λw s=>TS (ob:=ob) l m n λg t=>by have d:=j w g t s;exact⟨_,_,p g d,rfl,rfl,rfl,rfl,λe u=>by have:=q g d e (mem_listed u);simpa using this,r g.mN _ ⟨g,d,rfl,.refl _ _ _ _⟩⟩
def gE(w:er)(a:Addr)(u:eu)(k:Nat)(h:k≠a.block):(w.setCell a u).heap[k]? =w.heap[k]? :=by simp only[World.setCell,oP];rw[ez (by omega)]
def WK.store{ad:Addr}{x:eu}(h:qi own rd (Lv ty Wg) K)(l:ops[i]? =some o)(m:Region.wanted o (yielded ops a.tmps)=true)(n:b.kind≠ .early)(f:own ad.block) (p:∀w,K w->(execOp a.eval o).run P w=.ok .skip (w.setCell ad x))(q:∀w,K w->∀e∈(execOp a.eval o).events P w #[],EvW own rd w.heap.size w.heap.size e)
 (r:WK P ty Wg main rd S own (λw=>∃j,K j/\gd own rd (Lv ty Wg) (j.setCell ad x) w) (G (b.at (a.put o.dst undef) (.inRegion ops rest::k)) cs)):
 WK P ty Wg main rd S own K (G (b.at a (.inRegion ops (i::rest)::k)) cs):=
 λw s=>FH l m n f (x:=x) λg t=>by have d:=h w g t s;exact⟨_,p g d,by simp[World.setCell],by simp[World.setCell],by simp[World.setCell],by simp[World.setCell],λc u=>gE g ad x c u,λe v=>q g d e (mem_listed v),r _ ⟨g,d,.refl _ _ _ _⟩⟩
def WK.write{W:er->fa}{bl:Nat}(l:qi own rd (Lv ty Wg) K)(p:ops[i]? =some o)(q:Region.wanted o (yielded ops a.tmps)=true)(r:b.kind≠ .early)(h:own bl) (s:∀w,K w->∃d,(execOp a.eval o).run P w=.ok .skip d/\d.tape=w.tape/\d.os=w.os/\d.output=w.output/\d.heap.size=w.heap.size/\(∀c,c≠bl->d.heap[c]? =w.heap[c]?)/\W w d) (t:∀w,K w->∀e∈(execOp a.eval o).events P w #[],EvW own rd w.heap.size w.heap.size e)
 (u:WK P ty Wg main rd S own (λw=>∃j f,K j/\W j f/\f.heap.size=j.heap.size/\(∀c,c≠bl->f.heap[c]? =j.heap[c]?)/\gd own rd (Lv ty Wg) f w) (G (b.at (a.put o.dst undef) (.inRegion ops rest::k)) cs)):
 WK P ty Wg main rd S own K (G (b.at a (.inRegion ops (i::rest)::k)) cs):=
 λw v=>FH p q r (ad:=(eQ bl 0)) (x:=jg) h λf y=>by have g:=l w f y v;obtain⟨d,z,A,B,C,m,n,D⟩:=s f g;exact⟨d,z,A,B,C,m,n,λe E=>t f g e (mem_listed E),u _ ⟨f,d,g,D,m,n,.refl _ _ _ _⟩⟩
def WK.mono{K':fa}(h:WK P ty Wg main rd S own K' g)(a:∀w,K w->K' w):WK P ty Wg main rd S own K g:=λw b=>h w (a w b)
def WK.stop(a:qi own rd (Lv ty Wg) K)(h:∀w,K w->S own g w):WK P ty Wg main rd S own K g:=λw c=>qx λb d=>h b (a w b d c)
def Q2{L:fa}{c:Nat}(a:own c\/rd c):qi own rd L λw=>w.heap[c]? =some O:=λ_ _ b h=>b.obj a h
def J6{L:fa}{a:fa}(h:qi own rd L K)(e:qi own rd L a):qi own rd L λw=>K w/\a w:=λw b c d=>⟨h w b c d.1,e w b c d.2⟩
end
section
variable{P:eE}{main:Bool}{own rd:Nat->Prop}{ty:eD}{Wg:Nat}{S:jV}{K:er->Prop}{g g':eA} {b:Frame}{a:Act}{k:List Item}{cs:List Frame}{ops:Array Oper}{i:Nat}{rest:List Nat}{o:Oper}{v:eu}
theorem WK.enter{f:fG}{fn:Func}{c:Code}{args:Array fI}{j:Array eD}(l:qi own rd (Lv ty Wg) K) (n:ops[i]? =some o)(p:Region.wanted o (yielded ops a.tmps)=true)(q:b.kind≠ .early)(e:o.op=.call {callee:=.value (.func f),args:=args,argTypes:=j}) (m:P.funcs[f]? =some fn)(d:(fn.name== "runtime.NumGoroutine")=false)(r:fn.body=some c) (h:WK P ty Wg main rd S own K (G (Frame.enter P f (args.map a.eval) .normal) (b.at a (.inRegion ops (i::rest)::k)::cs))):WK P ty Wg main rd S own K (G (b.at a (.inRegion ops (i::rest)::k)) cs):=by
 refine WK.ctl l rfl (λw=>?_) h;have g:fn.body.isNone=false:=by rw[r];rfl
 rw[stepG_enter n p q (run_call_body e m d g)];have:listed P b.fn a o w=#[]:=by unfold listed;rw[events_call_body e m d g];exact seen_none P _
 rw[this]
def Out(U:eu->Prop)(R:oz)(rd:eN)(b:fj)(a:Frame)(cs:List Frame):jV:=λown g w=>
 ∃c x d v,g=G (a.finish d) cs/\R x v/\VR c x d/\fj.Le b c/\xJ c v w own rd/\U d
def DX{f:fG}{fn:Func}{U:eu->Prop}(hU:∀(ts:fZ) (Q:eE) (w:er) (x:eu) (u:er),(results fn ts).run Q w=.ok x u->U x){N:oz}{d:Frame}{w:er}(hR:∀x w T,N x w->N x (eU w T))(hG:Good P R)(O:P.funcs[f]? =some fn) (h:Fy P (Left P f N) rd (d::cs) R own g w):Wy (P.ki R.fs) ty Wg main rd (Out U N rd R d cs) own g w:=by
 obtain⟨c,V,p,l,i,z,hl,H⟩:=h;have A:=p;obtain⟨h1,I,x0,h3,h4,h5,h6,ae,h7,h8⟩:=A;rw[I,O]at h7;obtain rfl:=eP h7;obtain⟨n,af,ag,ah,ai⟩:=g;obtain⟨W,aj,e1,X,hX⟩:=l.callers;have e3:=l.st.2;have e4:=l.dy.2;have e5:=l.of.2;simp only at X e3 e4 e5 i;have J:c.cl=W++[floor]:=e1;rw[h1]at J;have Y:W=[]:=by
  cases W with
  |nil=>rfl
  |cons y ys=>simp at J
 subst Y;cases hX;simp only[sQ]at X;subst X e3 e4 e5;have m2:n.mode=.returning:=by have q:=i.mode;rw[h4]at q;generalize n.mode=m at q⊢;cases q;rfl
 have d2:n.defers=[]:=by have q:=i.defers;rw[h5]at q;generalize n.defers=m at q⊢;cases q;rfl
 have k2:n.kind=.normal:=i.kind▸h6;have f2:n.fn=f:=i.fn▸I;have Z:Good P V:=hG.mono z;have g2:(P.ki R.fs).funcs[f]? =some fn:=by obtain⟨ak,c2,j1,_,_,j4⟩:=Z.two.fn f (I▸i.fnS.1);rw[j4 (I▸i.fnS.2)]at O;rw[z.f];show V.fs[f]? =_;rw[j1,O]
 refine nH rfl λo hr=>?_;have s:=hl.rely hr;have hw:WR V (eU c.v (sX c.v o)) o:=WR.sX s.heap;obtain⟨_,_,x,k3,k4,k5,k6,al,k7,k8⟩:=Left.eU hR c (sX c.v o) H p;rw[I,O]at k7;obtain rfl:=eP k7;have aa:(results fn c.fr.tmps).run P (eU c.v (sX c.v o))=.ok x (eU c.v (sX c.v o)):=k8;have D:∀{r:Result eu} {K:Array Event},(results fn c.fr.tmps).runT P (eU c.v (sX c.v o)) #[]=(r,K)->r=.ok x (eU c.v (sX c.v o)):=λ{r K} e=>by rw[ml]at e;exact(eX Prod.fst e).symm.trans aa
 obtain⟨hh,v1,K,e,_⟩|⟨a,b,v1,S,E,K,L,e,F,M,m⟩|⟨a,b,v1,S,E,K,L,e,F,M,m⟩:=fK.run hw (SR.results (fn:=fn) i.tmps);cases D e;have:=D e;injection this with ea ev;subst ea ev;rw[<-z.f]at F;let B:eN:=λb=>own b\/(o.mN<=b/\b<S.mN);have ab:xJ E (eU c.v (sX c.v o)) S B rd:=by refine⟨m.rel.hr,λb c' j=>?_⟩;obtain h|⟨_,h⟩:=m.fresh b c' j;obtain h|⟨h,k⟩:=s.zone b c' h;exact .inl (.inl h);have t:zo (eU c.v (sX c.v o)) b:=k;exact .inr ⟨h,t.keep (m.ww b t)⟩;exact .inl (.inr ⟨h,m.rel.UA j⟩)
 refine⟨G (d.finish b) cs,S,seen (P.ki R.fs) f L,B,?_,⟨m.tape,m.os,m.output,m.usize,λb=>nR,λb hb ac=>m.same b hb λb0 j=>?_,λe he=>?_⟩,qx λw2 ad=>⟨E,a,b,_,rfl,k3,M,z.trans m.le,ab.rely ad,hU _ _ _ _ _ (by rw[ml]at F;exact(Prod.mk.inj F).1)⟩⟩;rw[ml]at F;obtain⟨r1,r2⟩:=Prod.mk.inj F;simp[stepG,unwind,doReturn,m2,d2,k2,f2,g2,r1,r2,G,GStep.after];obtain h|⟨_,h⟩:=s.zone b0 b j;exact absurd h ac;exact h;obtain⟨a,C,b,rfl,j,_,H⟩|⟨r,C,b,rfl,j,H⟩|⟨a,C,rfl,hn,q⟩|⟨r,C,rfl,hn,q⟩|rfl:=m.evs e (mQ he);refine .inl ⟨a,C,rfl,?_⟩;obtain h|⟨h,k⟩:=s.zone b a.block j;exact .inl h;cases C with
 |true=>exact absurd (show zo (eU c.v (sX c.v o)) b from k) (H rfl)
 |false=>exact .inr (.inl ⟨rfl,h⟩)
 refine .inr (.inl ⟨r,C,rfl,?_⟩);obtain h|⟨h,k⟩:=s.zone b r j;exact .inl h;exact absurd (show zo (eU c.v (sX c.v o)) b from k) H;exact .inl ⟨a,C,rfl,.inr (.inr ⟨hn,q⟩)⟩;exact .inr (.inl ⟨r,C,rfl,.inr ⟨hn,q⟩⟩);exact .inr (.inr rfl);cases D e
def tI{w v:er}{f:fG}{b a:fZ}(d:Good P R)(e:∀f,R.hole f=false)(g:R.S f=true)(c:iD R b a)(i:xJ R v w own rd):Inv P ⟨Frame.enter P f b .normal,[floor],v⟩:=by
 have h:Inv P ⟨Frame.enter P f b .normal,[floor],eU v (sX v w)⟩:=
  ⟨R,w,G (Frame.enter (P.ki R.fs) f a .normal) [],d,e,WR.sX i.heap,uJ d g c .normal (.inl rfl),⟨[],[],rfl,rfl,.nil⟩,⟨rfl,rfl⟩,⟨rfl,rfl⟩,⟨rfl,rfl⟩⟩
 exact h.eU v.tape
def Wy.keep{B:eN}{w:er}(c:∀b,B b->rd b/\¬own b/\b<w.heap.size)(h:Wy P ty Wg main rd S own g w):Wy P ty Wg main rd (λo g d=>S o g d/\∀b,B b->d.heap[b]? =w.heap[b]?) own g w:=by
 obtain⟨C,h⟩:=h
 have l:∀(m:Nat->Option Obj),(∀b,B b->rd b/\¬own b/\b<w.heap.size/\w.heap[b]? =m b)->Wy P ty Wg main rd (λo g d=>S o g d/\∀b,B b->d.heap[b]? =m b) own g w:=by
  intro m c;rename_i n;clear n;induction h with
  |here h=>exact qx λj i=>⟨h j i,λb a=>(i.heap b (c b a).2.2.1 (.inr (c b a).1)).trans (c b a).2.2.2⟩
  |step u v D y=>
   refine nH u λj i=>?_;obtain⟨g',d,p,f,e,k⟩:=v j i;refine⟨g',d,p,f,e,k,y j g' d p f i e k λb a=>?_⟩;obtain⟨q,r,s,z⟩:=c b a;have t:b<j.heap.size:=fN s i.size;refine⟨q,λA=>?_,fN t k.size,(k.same b t r).trans ((i.heap b s (.inr q)).trans z)⟩;obtain x|⟨x,_⟩:=(k.owns b).1 A;exact r x;omega
 exact l (λb=>w.heap[b]?) λb a=>⟨(c b a).1,(c b a).2.1,(c b a).2.2,rfl⟩
def Wy.UZ{w:er}(k:¬own Wg)(l:Lv ty Wg w)(h:Wy P ty Wg main rd S own g w):Wy P ty Wg main rd (λo g d=>S o g d/\Lv ty Wg d) own g w:=by
 obtain⟨v,h⟩:=h;induction h with
 |here h=>exact qx λb c=>⟨h b c,c.live l⟩
 |step q r y s=>
  refine nH q λb c=>?_;obtain⟨g',d,m,a,e,i⟩:=r b c;obtain⟨n,p,t⟩:=c.live l;have f:b.heap[Wg]? =some (wgBlock ty n p):=t;have j:Wg<b.heap.size:=lt_of_heap f;refine⟨g',d,m,a,e,i,s b g' d m a c e i (λu=>?_) ⟨n,p,(i.same Wg j k).trans f⟩⟩;obtain x|⟨x,_⟩:=(i.owns Wg).1 u;exact k x;omega
def J7{f:fG}{e:Func}{U:eu->Prop}(l:∀(m:fZ) (Q:eE) (w:er) (x:eu) (u:er),(results e m).run Q w=.ok x u->U x){R:oz}{ρ0:fj}{caller:Frame}{w v:er}{d a:fZ}(c:Good P ρ0)(i:∀f,ρ0.hole f=false)(j:ρ0.S f=true)(n:P.funcs[f]? =some e) (p:∀x w T,R x w->R x (eU w T))(b:iD ρ0 d a)(q:Reach P (Left P f R) ⟨Frame.enter P f d .normal,[floor],v⟩)(k:xJ ρ0 v w own rd):Wy (P.ki ρ0.fs) ty Wg main rd (Out U R rd ρ0 caller cs) own (G (Frame.enter (P.ki ρ0.fs) f a .normal) (caller::cs)) w:=by
 have r:sW P ρ0 (caller::cs) (G (Frame.enter P f d .normal) [floor]) (G (Frame.enter (P.ki ρ0.fs) f a .normal) (caller::cs)):=
  ⟨uJ c j b .normal (.inl rfl),⟨[],[],rfl,rfl,.nil⟩,⟨rfl,rfl⟩,⟨rfl,rfl⟩,⟨rfl,rfl⟩⟩
 have s:=TJ (main:=main) (L:=Lv ty Wg) (cs:=caller::cs) (ρ0:=ρ0) Left.callers _ q ρ0 own _ w (tI c i j b k) c (λf _=>i f) (.refl _) r k;exact Wy.bind s λo g w h=>DX l p c n h
end
end Go.eV.Cr
namespace Go.Proofs.W
open Go.Conc Go.eV Go.eV.Cr Go.eV.Wg Go.RowKit Go.Conc.Lib Go.ConcR.Gen
def N7(a:Addr)(w:er):(Instr.build 245 #[(0,.pointer (some a))]).run PR w=.ok (.agg #[.pointer (some a),.slice none 0 0,.int .u8 0,.int .u8 0,.int .u8 0,.int .u8 0,.int .u8 0,.int .u8 0,.slice none 0 0,.int .i64 0,.int .i64 0,.bool false]) w:=by kernel_rfl
def LH(a:Addr)(w:er):(Instr.build 245 #[(0,.pointer (some a))]).events PR w #[]=#[]:=by kernel_rfl
def N8(i m n:Int)(b:Bool)(a:fR)(l c:Nat)(w:er):(Instr.build 247 #[(0,.int .i64 i),(1,.agg #[.slice a l c,.int .i64 m,.int .i64 n,.bool b])]).run PR w=.ok (.agg #[.int .i64 i,.slice a l c,.int .i64 m,.int .i64 n,.bool b]) w:=by kernel_rfl
def LI(i m n:Int)(b:Bool)(a:fR)(l c:Nat)(w:er):(Instr.build 247 #[(0,.int .i64 i),(1,.agg #[.slice a l c,.int .i64 m,.int .i64 n,.bool b])]).events PR w #[]=#[]:=by kernel_rfl
end Go.Proofs.W
namespace Go.Proofs.W
open Go.Conc Go.eV Go.eV.Cr Go.eV.Wg Go.RowKit Go.Conc.Lib Go.ConcR.Gen
open Go.ConcR (KK wgBlock WgAt stA smA mk DC0)
def zr(c:eN)(Q:fa):Prop:=∀(w a:er),w.heap.size<=a.heap.size->(∀b,b<w.heap.size->c b->a.heap[b]? =w.heap[b]?)->Q w->Q a
def zr.rely{own rd:eN}{L:fa}{Q:fa}(h:zr rd Q)(c:gd own rd L w t)(d:Q w):Q t:=h w t c.size (λb e a=>c.heap b e (.inr a)) d
structure KW(pc ic oc Wg Ch:Nat)(pl:Addr)(i:Int)(Q:er->Prop)(w:er):Prop where
 p:w.cell? ⟨pc,0,none⟩=some (.pointer (some pl))
 i:w.cell? ⟨ic,0,none⟩=some (.int .i64 i)
 o:w.cell? ⟨oc,0,none⟩=some (.chan (some Ch))
 live:Lv 241 Wg w
 q:Q w
theorem KW.rely{Q:fa}{own rd:eN}(c:rd m)(d:rd k)(e:rd i)(f:zr rd Q):qi own rd (Lv 241 j) (KW m k i j o h I Q):=
 λ_ _ a b=>⟨a.cell (.inr c) b.p,a.cell (.inr d) b.i,a.cell (.inr e) b.o,a.live b.live,f.rely a b.q⟩
def mv(a:Addr):fZ:=#[.pointer (some a),.slice none 0 0,.int .u8 0,.int .u8 0,.int .u8 0,.int .u8 0,.int .u8 0,.int .u8 0,.slice none 0 0,.int .i64 0,.int .i64 0,.bool false]
noncomputable def FK:Array Oper:=(λ(x:Array Oper) (_:jh Tryz.f188 2=.region 2 x false)=>x) _ (by conv=>lhs;whnf)
noncomputable def ii:Array Oper:=(λ(x:Array Oper) (_:jh Tryz.f188 3=.region 3 x true)=>x) _ (by conv=>lhs;whnf)
noncomputable def lV(k l m i T:Nat)(j:Addr)(n o a b c d e f g h:eu):Act:=
 {tmps:=#[.pointer (some ⟨i,0,none⟩),.pointer (some ⟨k,0,none⟩),.pointer (some ⟨l,0,none⟩),.pointer (some ⟨m,0,none⟩),.pointer (some ⟨T,0,none⟩),.pointer (some j),.agg (mv j),.pointer (some ⟨T,0,none⟩),n,o,a,b,c,d,e,f,g,h],defers:=[dcall 189 #[.pointer (some ⟨i,0,none⟩)]]}
noncomputable def FL(a b c d T:Nat)(e:Addr)(i:Int):Frame:=
 FI.at (lV a b c d T e (.pointer (some ⟨T,0,none⟩)) (.int .i64 i) undef undef undef undef undef undef undef undef) [.inRegion FK [2],.code (.region 3 ii true)]
def SQ(e:eN)(f:Nat)(q:Addr)(i:Int)(Q:fa)(r:(eN)->er->eu->Prop):Prop:=
 ∀(d:eN) (w:er) (T:Nat) (c:Frame) (h:List Frame),Q w->(∀b,d b↔b=T)->w.heap[T]? =some (.cells (mv q) 245)->
  Wy PR 241 f false e (λo g j=>g=G (c.finish undef) h/\o T/\∃t u v x y z A B a l k m n s C,j.heap[T]? =some (.cells #[t,u,v,x,y,z,A,B,.slice a l k,.int .i64 m,.int .i64 n,.bool s] 245 C)/\
   ∀p,gd o e (Lv 241 f) j p->r o p (.agg #[.slice a l k,.int .i64 m,.int .i64 n,.bool s])) d (G (Frame.enter PR 190 #[.pointer (some ⟨T,0,none⟩),.int .i64 i] .normal) (c::h)) w
def uN(b:w.cell? h=some x):h.block<w.heap.size:=by refine yF λa=>?_;have:w.heap[h.block]? =none:=ou a;simp[World.cell?,this]at b
def xM(b:w.cell? h=some x):({w with heap:=w.heap.push O}:er).cell? h=w.cell? h:=by
 have c:h.block<w.heap.size:=by refine yF λa=>?_;have:w.heap[h.block]? =none:=ou a;simp[World.cell?,this]at b
 have:(w.heap.push O)[h.block]? =w.heap[h.block]? :=by rw[pA];split;omega;rfl
 simp only[World.cell?,this]
def uO(h:Lv m k w):Lv m k ({w with heap:=w.heap.push O}:er):=by obtain⟨a,b,h⟩:=h;refine⟨a,b,?_⟩;have c:w.heap[k]? =some (wgBlock m a b):=h;show(w.heap.push O)[k]? =_;rw[pA];split;have:=lt_of_heap c;omega;exact c
def Q3{y:jV}(z:A m)(B:A k)(E:A i)(C:zr A S)
 (F:∀T,WK PR 241 j false A y (λx=>eS x\/x=T) (λw=>KW m k i j o h I S w/\w.heap[T]? =some (.cells (mv h) 245)/\m<T/\k<T/\i<T/\j<T)
  (G (Frame.enter PR 190 #[.pointer (some ⟨T,0,none⟩),.int .i64 I] .normal) [FL m k i j T h I,bot])):
 WK PR 241 j false A y eS (KW m k i j o h I S) (born PR (call188 m k i j)):=by
 have c:∀s,qi s A (Lv 241 j) (KW m k i j o h I S):=λ_=>KW.rely z B E C;have t:=λw=>N7 h w;have u:=λw=>LH h w;refine WK.ctl (c _) rfl (LG m k i j) ?_;simp only[DV,Tryz.f188,lT,FJ,Array.replicate,List.replicate];refine WK.ctl (c _) rfl (λ_=>eM)<|WK.ctl (c _) rfl (λ_=>jp) ?_;simp only[jw,gf,il,Nat.reduceAdd,eJ,List.range,List.range.loop];refine WK.ctl (c _) rfl (λ_=>stepG_defer rfl rfl (by k_ne) rfl) ?_;walk_nrm;refine WK.ctl (c _) rfl (λ_=>eI)<|WK.ctl (c _) rfl (λ_=>eM)<|WK.ctl (c _) rfl (λ_=>jp) ?_;simp only[jw,gf,il,Nat.reduceAdd,eJ,List.range,List.range.loop];refine WK.load (v:=.pointer (some h)) (c _) rfl rfl (by k_ne) (λw a=>?_) (λw a e g=>?_) ?_;have l:=(λw a=>a.p) w a;go_simp;have l:=(λw a=>a.p) w a;simp[go_sem,l]at g;exact .inl ⟨_,_,g,.inr (.inl ⟨rfl,z⟩)⟩;walk_nrm;refine WK.val (v:=.agg (mv h)) (c _) rfl rfl (by k_ne) (λw=>?_) (λw=>?_) ?_;go_simp;first|rfl|simp only[t]|skip
 simp[go_sem,u];walk_nrm;refine WK.new (f:=λn=>fp n) (ob:=.cells (mv h) 245) (c _) rfl rfl (by k_ne) (λw a=>?_) (λw a e g=>?_) (λT=>?_);go_simp;first|rfl|skip
 simp[go_sem]at g;refine WK.mono (K':=λw=>KW m k i j o h I S w/\gY w T (mv h) 245/\m<T/\k<T/\i<T/\j<T) ?_ ?_;rotate_left;rintro w ⟨r,a,rfl,D⟩;have H:KW m k i j o h I S {r with heap:=r.heap.push (.cells (mv h) 245)}:=by exact⟨by rw[<-a.p];exact xM a.p,by rw[<-a.i];exact xM a.i,by rw[<-a.o];exact xM a.o,uO a.live,C r _ (by simp) (λb L _=>by show(r.heap.push _)[b]? =_;rw[pA];split;omega;rfl) a.q⟩
 obtain⟨M,N,J⟩:=a.live;exact⟨(c _) _ _ D H,D.obj (.inl (.inr rfl)) (by simp),uN a.p,uN a.i,uN a.o,lt_of_heap J⟩;have d:qi (λx=>eS x\/x=T) A (Lv 241 j) (λw=>KW m k i j o h I S w/\gY w T (mv h) 245/\m<T/\k<T/\i<T/\j<T):=J6 (c _) (J6 (Q2 (.inl (.inr rfl))) λ_ _ _ K=>K);walk_nrm;refine WK.val (v:=?_) d rfl rfl (by k_ne) (λw=>?_) (λw=>?_) ?_;rotate_left;go_simp;rfl;go_simp;walk_nrm;refine WK.ctl d rfl (λ_=>eI)<|WK.ctl d rfl (λ_=>eM)<|WK.ctl d rfl (λ_=>jp) ?_;simp only[jw,gf,il,Nat.reduceAdd,eJ,List.range,List.range.loop];refine WK.val (v:=?_) d rfl rfl (by k_ne) (λw=>?_) (λw=>?_) ?_;rotate_left;go_simp;rfl;go_simp;walk_nrm;refine WK.load (v:=i64 I) d rfl rfl (by k_ne) (λw a=>?_) (λw a e g=>?_) ?_;have l:=(λw a=>a.1.i) w a;go_simp;have l:=(λw a=>a.1.i) w a;simp[go_sem,l]at g;exact .inl ⟨_,_,g,.inr (.inl ⟨rfl,B⟩)⟩;walk_nrm;refine WK.enter d rfl rfl (by k_ne) rfl Tryz.func190 rfl rfl ?_;simp only[List.map_toArray,lK,rf];exact F T
def Cl(d e a b c f:Bool):Prop:=(a=true->e=true)/\(b=true->a=true)/\(c=true->b=true)/\(f=true->c=true/\d=true)
instance (b1 b2 b3 b4 b5 b6:Bool):Decidable (Cl b1 b2 b3 b4 b5 b6):=by unfold Cl;infer_instance
def IA:∀g a b c d e f:Bool,Cl a b c d e f->Region.ready .any ii #[g,a,b,c,d,e,f,false]≠[]:=by decide+kernel
def ct(b:Bool):Nat:=if b then 0 else 1
def Nx(f a b c d e g:Bool)(i:Nat):Prop:=(i=0/\f=false)\/(i=1/\a=false)\/(i=2/\b=false)\/(i=3/\c=false/\b=true)\/(i=4/\d=false/\c=true)\/(i=5/\e=false/\d=true)\/(i=6/\g=false/\e=true/\a=true)\/(i=7/\f=true/\a=true/\b=true/\c=true/\d=true/\e=true/\g=true)
instance (b0 b1 b2 b3 b4 b5 b6:Bool) (i:Nat):Decidable (Nx b0 b1 b2 b3 b4 b5 b6 i):=by unfold Nx;infer_instance
def FM:∀g a b c d e f:Bool,Cl a b c d e f->((Region.ready .any ii #[g,a,b,c,d,e,f,false]).all λi=>decide (Nx g a b c d e f i))=true:=by decide+kernel
def IB{a b c d e:Bool}(h:Cl E a b c d e)(i:Nat)(f:i∈Region.ready .any ii #[D,E,a,b,c,d,e,false]):Nx D E a b c d e i:=by have:=mO.1 (FM D E a b c d e h) i f;simpa using this
structure K2(pc ic oc Wg Ch T:Nat)(pl:Addr)(i:Int)(Q:er->Prop)(p0 p1 p2 p3 p4 p5 p6 p7 sa:eu)(m n:Int)(s:Bool)(Sc:er->eu->Prop)(w:er):Prop where
 kw:KW pc ic oc Wg Ch pl i Q w
 t:∃fz,w.heap[T]? =some (.cells #[p0,p1,p2,p3,p4,p5,p6,p7,sa,.int .i64 m,.int .i64 n,.bool s] 245 fz)
 sc:Sc w (.agg #[sa,.int .i64 m,.int .i64 n,.bool s])
noncomputable def tJ(c d e f g T:Nat)(h:Addr)(i:Int)(a b:eu)(j k l m n o p:Bool):Act:=
 lV c d e f T h (.pointer (some ⟨T,0,none⟩)) (.int .i64 i) undef (if j then .chan (some g)else undef) (if k then .int .i64 i else undef) (if l then .pointer (some ⟨T,0,none⟩)else undef)
  (if m then .pointer (some ⟨T,0,none⟩)else undef) (if n then .pointer (some ⟨T,8,none⟩)else undef) (if o then a else undef) (if p then b else undef)
def Am{a:Array Oper}{fuel t:Nat}{l:Array Bool}(c:Region.ready .any a l≠[]):∃i d,i∈Region.ready .any a l/\Region.linearise.go .any a (fuel+1) t l []=i::Region.linearise.go .any a fuel d (l.setIfInBounds i true) []:=by
 have b:t%(Region.ready .any a l).jK<(Region.ready .any a l).jK:=Nat.mod_lt _ (by cases h:Region.ready .any a l with|nil=>exact absurd h c|cons=>simp);refine⟨(Region.ready .any a l)[t%(Region.ready .any a l).jK],t/(Region.ready .any a l).jK,ft b,?_⟩;simp only[Region.linearise.go];change(match(Region.ready .any a l)[t%(Region.ready .any a l).jK]? with
  |some i=>Region.linearise.go .any a fuel (t/(Region.ready .any a l).jK) (l.setIfInBounds i true) [i]
  |none=>[].reverse)=_
 rw[gC b];simp only;rw[linearise_go_acc];simp
def Q4{ag:jV}{Q R T U V:eu}{n:Int}{W:er->eu->Prop}(h2:A k)(h3:A i)(hT:B p) (g:qi B A (Lv 241 j) (K2 m k i j o p h I S x y z Q R T U V (.slice a s d) J n D W)) (hn:WK PR 241 j false A ag B (K2 m k i j o p h I S x y z Q R T U V (.slice a s d) J n D W) (G (FI.at (tJ m k i j o p h I (.agg #[.slice a s d,.int .i64 J,.int .i64 n,.bool D]) (.agg #[.int .i64 I,.slice a s d,.int .i64 J,.int .i64 n,.bool D]) true true true true true true true) [.inRegion ii [7]]) [bot])):∀(fuel:Nat) (r u C E F H l:Bool) (t:Nat),Cl u C E F H l->fuel=1+ct r+ct u+ct C+ct E+ct F+ct H+ct l->WK PR 241 j false A ag B (K2 m k i j o p h I S x y z Q R T U V (.slice a s d) J n D W) (G (FI.at (tJ m k i j o p h I (.agg #[.slice a s d,.int .i64 J,.int .i64 n,.bool D]) (.agg #[.int .i64 I,.slice a s d,.int .i64 J,.int .i64 n,.bool D]) r u C E F H l) [.inRegion ii (Region.linearise.go .any ii fuel t #[r,u,C,E,F,H,l,false] [])]) [bot]):=by
 intro fuel;induction fuel with
 |zero=>intro r u C E F H l t b c;omega
 |succ fuel L=>
  intro r u C E F H l t b c;obtain⟨ah,M,hj,e⟩:=Am (fuel:=fuel) (t:=t) (IA r u C E F H l b);rw[e];obtain⟨rfl,q⟩|⟨rfl,q⟩|⟨rfl,q⟩|⟨rfl,q,N⟩|⟨rfl,q,N⟩|⟨rfl,q,N⟩|⟨rfl,q,N,X⟩|⟨rfl,Y,Z,aa,ab,ac,ad,ae⟩:=IB b ah hj;subst q;refine WK.load (v:=.chan (some o)) g rfl rfl (by k_ne) (λw K=>?_) (λw K e f=>?_) (L true u C E F H l M b (by simp only[ct]at c⊢;simp at c⊢;omega));have b:=K.kw.o;simp only[ii,tJ,lV];go_simp;have b:=K.kw.o;simp only[ii,tJ,lV]at f;simp[go_sem,b]at f;exact .inl ⟨_,_,f,.inr (.inl ⟨rfl,h3⟩)⟩;subst q;refine WK.load (v:=i64 I) g rfl rfl (by k_ne) (λw K=>?_) (λw K e f=>?_) (L r true C E F H l M ⟨b.1,b.2.1,b.2.2.1,λaf=>⟨(b.2.2.2 af).1,rfl⟩⟩ (by simp only[ct]at c⊢;simp at c⊢;omega));have b:=K.kw.i;simp only[ii,tJ,lV];go_simp;have b:=K.kw.i;simp only[ii,tJ,lV]at f;simp[go_sem,b]at f;exact .inl ⟨_,_,f,.inr (.inl ⟨rfl,h2⟩)⟩;subst q;refine WK.val (v:=fp p) g rfl rfl (by k_ne) (λw=>?_) (λw=>?_) (L r u true E F H l M ⟨λ_=>rfl,b.2.1,b.2.2⟩ (by simp only[ct]at c⊢;simp at c⊢;omega));simp only[ii,tJ,lV];go_simp;simp only[ii,tJ,lV];simp[go_sem];subst q N;refine WK.val (v:=fp p) g rfl rfl (by k_ne) (λw=>?_) (λw=>?_) (L r u true true F H l M ⟨λ_=>rfl,λ_=>rfl,b.2.2⟩ (by simp only[ct]at c⊢;simp at c⊢;omega));simp only[ii,tJ,lV];go_simp;simp only[ii,tJ,lV];simp[go_sem];subst q N;refine WK.val (v:=oJ p 8) g rfl rfl (by k_ne) (λw=>?_) (λw=>?_) (L r u C true true H l M ⟨b.1,λ_=>rfl,λ_=>rfl,b.2.2.2⟩ (by simp only[ct]at c⊢;simp at c⊢;omega));simp only[ii,tJ,lV];go_simp;simp only[ii,tJ,lV];simp[go_sem];subst q N;refine WK.load (v:=.agg #[.slice a s d,i64 J,i64 n,.bool D]) g rfl rfl (by k_ne) (λw K=>?_) (λw K e f=>?_) (L r u C E true true l M ⟨b.1,b.2.1,λ_=>rfl,λaf=>⟨rfl,(b.2.2.2 af).2⟩⟩ (by simp only[ct]at c⊢;simp at c⊢;omega));obtain⟨fz,b⟩:=K.t;have c8:w.cell? (eQ p 8)=some (.slice a s d):=by simp[World.cell?,b]
  have c9:w.cell? (eQ p 9)=some (i64 J):=by simp[World.cell?,b]
  have O:w.cell? (eQ p 10)=some (i64 n):=by simp[World.cell?,b]
  have P:w.cell? (eQ p 11)=some (.bool D):=by simp[World.cell?,b]
  simp only[ii,tJ,lV];go_simp;obtain⟨fz,b⟩:=K.t;have c8:w.cell? (eQ p 8)=some (.slice a s d):=by simp[World.cell?,b]
  have c9:w.cell? (eQ p 9)=some (i64 J):=by simp[World.cell?,b]
  have O:w.cell? (eQ p 10)=some (i64 n):=by simp[World.cell?,b]
  have P:w.cell? (eQ p 11)=some (.bool D):=by simp[World.cell?,b]
  simp only[ii,tJ,lV]at f;simp[go_sem,c8,c9,O,P]at f;obtain f|f|f|f:=f<;>exact .inl ⟨_,_,f,.inl hT⟩
  ·subst q N X;refine WK.val (v:=.agg #[i64 I,.slice a s d,i64 J,i64 n,.bool D]) g rfl rfl (by k_ne) (λw=>?_) (λw=>?_) (L r true C E F true true M ⟨b.1,b.2.1,b.2.2.1,λ_=>⟨rfl,rfl⟩⟩ (by simp only[ct]at c⊢;simp at c⊢;omega))
   ·simp only[ii,tJ,lV];first|(go_simp;done)|(go_simp;have:=N8 I J n D a s d w;rw[this];rfl)
   simp only[ii,tJ,lV];have:=LI I J n D a s d w;simp[go_sem,this]
  subst Y Z aa ab ac ad ae;have:fuel=0:=by simp only[ct]at c;simp at c;omega
  subst this;simpa[Region.linearise.go]using hn
end Go.Proofs.W
namespace Go.eV.Wg
open Go.Conc Go.ConcN Go.RowKit Go.Conc.Lib Go.ConcR.Gen Go.ConcN.Gen Go.eV
open Go.ConcR (KK wgBlock WgAt stA smA mk Payload DC0)
section
variable{L:WgLink}
def U0(H:WgLib P L){b qt:Nat}{f:List Frame}(d:F.mode=.returning)(i:QuitsD P qt 0 (G F f))(w:er)(c:True/\WgLive L.tWg b w):Goes P false (gd Cr.eS Cr.eS (Cr.Lv L.tWg b)) DC0 (Cr.R0 P L.tWg b) 43 (G ((baseD L.done).at ⟨#[.pointer (some ⟨b,0,none⟩),undef,undef,undef],[]⟩ [.code (body_done L)]) (F::f)) w:=by have e:∀{w a:er},True/\WgLive L.tWg b w->gd Cr.eS Cr.eS (Cr.Lv L.tWg b) w a->True/\WgLive L.tWg b a:=λh r=>⟨trivial,r.live h.2⟩;lib_facts;have g:=@Q0 L;simp only[body_done,body_add,doneFn,addFn,lT,Nat.reduceSub,Array.replicate,List.replicate,List.append_toArray,qp,sQ]at g⊢;u_reg e c;u_op e c;u_in e c;refine goes_call rfl rfl (by k_ne) rfl H.f_add (nm_add L) rfl ⟨⟨rfl,rfl⟩,?_⟩;walk_nrmf addFn;refine g H (qt:=qt+3) ?_ _ c;q_c eI;q_c stepG_end;exact QuitsD.leaveD rfl rfl H.f_done rfl d i
end
end Go.eV.Wg
namespace Go.Proofs.W
open Go.Conc Go.eV Go.eV.Cr Go.eV.Wg Go.RowKit Go.Conc.Lib Go.ConcR.Gen
open Go.ConcR (KK wgBlock WgAt stA smA mk DC0)
def N9{a:fI->eu}{o:Oper}{b y:fI}(c:o.op=.send b y)(d:a b=.chan (some m))(e:a y=x)(w:er):(execOp a o).run PR w=.ok (.comm #[scase m x undef] true .send) w:=by simp only[execOp,c,d,e];simp;rfl
def FN{Ch:Nat}{v:eu}{a:fI->eu}{o:Oper}{x y:fI}(b:o.op=.send x y)(c:a x=.chan (some Ch))(d:a y=v)(w:er):(execOp a o).events PR w #[]=#[]:=by simp only[execOp,b,c,d];simp
def An{R:er->fa}{S:eA->fa}{K:fa}(d:∀{w a:er},K w->R w a->K a){b:eA}(e:Z.status=.running)(f:∀w,stepG PR false Z w=.go b w #[]) (h:∀w,K w->Goes PR false R DC0 S m b w):∀w,K w->Goes PR false R DC0 S (m+1) Z w:=by intro w g;refine .inr ⟨e,λc i=>?_⟩;rw[f c];exact⟨⟨rfl,rfl⟩,h c (d g i)⟩
def Ao{b:Func}(f:fG)(c:PR.funcs[f]? =some b)(a:b.results=#[])(d:fZ)(e:List Item):QuitsD PR 2 0 (G {(baseD f).at ⟨d,[]⟩ e with mode:=.returning} [bot]):=by refine .inr ⟨rfl,G bot [],#[],by simp,λw=>?_,.inr ⟨rfl,{G bot []with status:=.finished},#[],by simp,λw=>?_,⟨rfl,rfl⟩⟩⟩;simp[G,stepG,unwind,doReturn,Frame.at,baseD,c,results,a,bot,goexitEntry,seen,GStep.after,ml];simp[G,stepG,unwind,bot,goexitEntry,Frame.catches];rfl
def IC:∀(w:er),Lv 241 j w->Goes PR false (gd eS eS (Lv 241 j)) DC0 (R0 PR 241 j) 46 (G (FI.at (tJ m k i j o p h I x y true true true true true true true) [.inRegion ii []]) [bot]) w:=by have b:∀{w a:er},Lv 241 j w->gd eS eS (Lv 241 j) w a->Lv 241 j a:=λc r=>r.live c;refine An (K:=Lv 241 j) b rfl (λ_=>eI)<|An (K:=Lv 241 j) b rfl (λ_=>stepG_end)<|An (K:=Lv 241 j) b rfl (λ_=>stepG_unwind_enter rfl Tryz.func189 rfl rfl) ?_;intro w d;exact U0 (L:=Tryz.link) Tryz.yG (qt:=2) rfl (Ao 188 Tryz.func188 rfl _ _) w ⟨trivial,d⟩
def Q5{i d f c Ch T u:Nat}{o p q r s:eu}{n:Int}{Sc:er->eu->Prop}{l:Nat->eu->(eN)->fa}(E:A d)(F:A f)(H:B T) (g:qi B A (Lv 241 c) (K2 i d f c Ch T h I S x y z o p q r s (.slice a m k) J n D Sc)) (K:∀w,K2 i d f c Ch T h I S x y z o p q r s (.slice a m k) J n D Sc w->l u (.agg #[.int .i64 I,.slice a m k,.int .i64 J,.int .i64 n,.bool D]) B w):WK PR 241 c false A (Sends PR 241 c Ch l u) B (K2 i d f c Ch T h I S x y z o p q r s (.slice a m k) J n D Sc) (G ((FL i d f c T h I).finish undef) [bot]):=by
 have e:(FL i d f c T h I).finish jg=FI.at (lV i d f c T h (fp T) (i64 I) jg jg jg jg jg jg jg jg) [.inRegion FK [],.code (.region 3 ii true)]:=by unfold FL;rw[Frame.finish_at];rfl
 rw[e];refine WK.ctl (g':=G (FI.at (lV i d f c T h (fp T) (i64 I) jg jg jg jg jg jg jg jg) [.code (.region 3 ii true)]) [bot]) g rfl (λ_=>eI) ?_;intro w L;refine nH rfl λC M=>⟨_,_,_,B,stepG_region_draw,⟨rfl,rfl,rfl,eF _,λb=>⟨.inl,λj=>j.elim id λj=>absurd j.2 (Nat.not_lt.2 j.1)⟩,λ_ _ _=>rfl,λe N=>by simp at N⟩,?_⟩;have t:K2 i d f c Ch T h I S x y z o p q r s (.slice a m k) J n D Sc {C with drawn:=C.drawn+1}:=(g w _ (M.trans ⟨rfl,rfl,rfl,eF _,λ_ _ _=>rfl,λj=>j⟩) L);have O:PR.follows .mixedOrders=true:=by kernel_rfl
 simp only[Region.schedule,O,Bool.true_or,fF];refine Q4 E F H g ?_ 8 false false false false false false false _ (by decide) rfl _ t;refine WK.stop g λw t=>⟨.agg #[i64 I,.slice a m k,i64 J,i64 n,.bool D],undef,rfl,λw=>?_,K w t,46,?_⟩;refine(stepG_comm rfl rfl (by k_ne) (N9 rfl rfl rfl w)).trans ?_;unfold listed;rw[FN (v:=.agg #[i64 I,.slice a m k,i64 J,i64 n,.bool D]) (Ch:=Ch) rfl rfl rfl w,seen_none];rfl;exact IC w t.kw.live
def jF{w w':er}{ad:Addr}(h:w'.heap[ad.block]? =w.heap[ad.block]?):w'.cell? ad=w.cell? ad:=by unfold World.cell?;rw[h]
def worker{Q:fa}{rd:eN}{Sc:(eN)->er->eu->Prop}{val:Nat->eu->(eN)->fa}(C:rd m)(r:rd i)(z:rd j)(M:zr rd Q)(N:SQ rd o h I Q Sc) (O:∀u w a l c D n s,Sc u w (.agg #[.slice a l c,.int .i64 D,.int .i64 n,.bool s])->val k (.agg #[.int .i64 I,.slice a l c,.int .i64 D,.int .i64 n,.bool s]) u w):WK PR 241 o false rd (Sends PR 241 o p val k) eS (KW m i j o p h I Q) (born PR (call188 m i j o)):=by refine Q3 C r z M λT=>?_;rintro w ⟨f,P,U,V,W,X⟩;have e:=N (λx=>eS x\/x=T) w T (FL m i j o T h I) [bot] f.q (λb=>⟨λd=>d.elim (λd=>d.elim) id,.inr⟩) P;have e:=Wy.keep (B:=λb=>b=m\/b=i\/b=j) (by rintro b (rfl|rfl|rfl);exact⟨C,λd=>d.elim (λd=>d.elim) (λd=>by omega),uN f.p⟩;exact⟨r,λd=>d.elim (λd=>d.elim) (λd=>by omega),uN f.i⟩;exact⟨z,λd=>d.elim (λd=>d.elim) (λd=>by omega),uN f.o⟩) e;have e:=Wy.UZ (λd=>d.elim (λd=>d.elim) (λd=>by omega)) f.live e;refine e.bind ?_;rintro u g K ⟨⟨⟨rfl,y,Y,Z,p2,p3,p4,p5,p6,p7,a,l,cc,D,n,s,L,E,F⟩,G⟩,R⟩;have H:KW m i j o p h I (λ_=>True) K:=⟨(jF (G m (.inl rfl))).trans f.p,(jF (G i (.inr (.inl rfl)))).trans f.i,(jF (G j (.inr (.inr rfl)))).trans f.o,R,trivial⟩;refine Q5 (T:=T) (Sc:=λw v=>∀A,gd u rd (Lv 241 o) w A->Sc u A v) r z y (λw A J d=>⟨KW.rely C r z (λ_ _ _ _ d=>d) w A J d.kw,d.t.imp λL d=>J.obj (.inl y) d,λS r=>d.sc S (J.trans r)⟩) (λw d=>O _ _ _ _ _ _ _ _ (d.sc w (.refl _ _ _ _))) K ⟨H,⟨L,E⟩,F⟩
end Go.Proofs.W
namespace Go.eV.Cr
open Go.Conc Go.eV Go.eV.Kn Go.eV.Wg
open Go.ConcR (KK wgBlock WgAt stA smA mk DC0)
section
variable{P:eE}{own:Nat->Prop}{ty:eD}{Wg Ch:Nat}{rc:Nat->Prop}{tE Fin:eA->er->Prop}
def Ap(q:∀g w,tE g w->∃k,Goes P false (gd own rc (Lv ty Wg)) DC0 (WL P false (gd own rc (Lv ty Wg)) Wg ty tE Fin) k g w)
 (r:∀g w,Fin g w->Wy P ty Wg false rc (UB P Ch) own g w):Anchor P ty Wg Ch rc λo g w=>o=own/\tE g w:=by
 have f:∀{k:Nat} {g:eA} {w:er},Goes P false (gd own rc (Lv ty Wg)) DC0 (V1 P false (gd own rc (Lv ty Wg)) Wg Fin) k g w->Wy P ty Wg false rc (VA P ty Wg Ch rc) own g w:=λh=>
  lB h λg w h=>rU (λh=>lB h λg w h=>rU (λh=>wK h r) h) h
 refine⟨λo g w ⟨s,j⟩=>?_⟩;subst s;obtain⟨k,a⟩:=q g w j;refine lB a λg w ⟨c,d⟩=>⟨c,λv t i=>?_⟩;obtain⟨b,e,j,u⟩:=d v t i;refine⟨b,e,λl=>?_,λl=>?_⟩;obtain⟨k,a⟩:=j l;exact f a;obtain⟨k,a⟩:=u l;refine lB a λg w ⟨c,d⟩=>⟨c,λx m n=>?_⟩;obtain⟨y,z⟩:=d x m n;refine⟨λe=>?_,λe=>?_⟩;obtain⟨b,p,k,a⟩:=y e;refine⟨b,p,lB a λg w h=>rU (λh=>lB h λg w ⟨c,d,A,B⟩=>⟨c,d,A,λi=>?_⟩) h⟩;obtain⟨b,e,k,a⟩:=B i;refine⟨b,e,lB a λg w ⟨c,d⟩=>⟨c,λi=>?_⟩⟩;obtain⟨b,e,k,a⟩:=d i;exact⟨b,e,f a⟩;obtain⟨b,p,k,a⟩:=z e;exact⟨b,p,lB a λg w h=>⟨rfl,h⟩⟩
def FO{m:Nat}{g:eA}{w:er}(h:Goes P false (gd own rc (Lv ty Wg)) DC0 (CB P false (gd own rc (Lv ty Wg)) .disable tE) m g w):
 Wy P ty Wg false rc (VB P ty Wg rc λo g w=>o=own/\tE g w) own g w:=
 lB h λg w h=>rU (λh=>lB h λg w h=>⟨rfl,h⟩) h
end
end Go.eV.Cr
namespace Go.Proofs.W
open Go.Conc Go.eV Go.eV.Cr Go.eV.Wg Go.RowKit Go.Conc.Lib Go.ConcR.Gen
open Go.ConcN Go.ConcN.Gen
open Go.ConcR (KK wgBlock WgAt stA smA mk DC0)
noncomputable def FP:Frame:=baseD 191
noncomputable def call191(a b:Nat):Deferred:={target:=.fn (.func 191) #[.pointer (some ⟨b,0,none⟩),.pointer (some ⟨a,0,none⟩)],args:=#[]}
noncomputable def DY:Code:=Tryz.f191.body.getD .skip
def Q6(a b:Nat)(w:er):stepG PR false (born PR (call191 a b)) w=.go (G (FP.at ⟨#[.pointer (some ⟨b,0,none⟩),.pointer (some ⟨a,0,none⟩),undef,undef],[]⟩ [.code DY]) [bot]) w #[]:=by simp[born,call191,stepG,unwind,callDeferred,invoke,callFunc,Tryz.func191,Tryz.f191,seen,GStep.after,G,Frame.enter,Frame.at,FP,baseD,bot,DY]
structure KC(oc Wg Ch:Nat)(w:er):Prop where
 o:w.cell? ⟨oc,0,none⟩=some (.chan (some Ch))
 live:Lv 241 Wg w
def KC.rely{own rd:eN}(b:rd m):qi own rd (Lv 241 k) (KC m k i):=λ_ _ a h=>⟨a.cell (.inr b) h.o,a.live h.live⟩
noncomputable def tK:Array Oper:=#[{dst:=some 2,op:=Op.call {callee:=Callee.value (Operand.func 192),args:=#[Operand.tmp 0],argTypes:=#[241]},type:=0,pos:= "plan.go:152",after:=#[],guard:=none}]
noncomputable def pK:Array Oper:=#[{dst:=some 3,op:=Op.load 232 (Operand.tmp 1),type:=232,pos:= "plan.go:153",after:=#[],guard:=none},{dst:=none,op:=Op.call {callee:=Callee.builtin Builtin.close,args:=#[Operand.tmp 3],argTypes:=#[232]},type:=0,pos:= "plan.go:153",after:=#[{on:=0,ground:=Ground.data}],guard:=none}]
noncomputable def pL(a b:Nat)(c d:eu):Act:=⟨#[.pointer (some ⟨b,0,none⟩),.pointer (some ⟨a,0,none⟩),c,d],[]⟩
def ID(f:A m):WK PR 241 k false A (UB PR i) eS (KC m k i) (G (FP.at (pL m k (.tuple #[]) undef) [.inRegion tK [],.code (.region 1 pK false)]) [bot]):=by have a:qi eS A (Lv 241 k) (KC m k i):=KC.rely f;refine WK.ctl a rfl (λ_=>eI)<|WK.ctl a rfl (λ_=>jp) ?_;simp only[jw,gf,il,Nat.reduceAdd,eJ,List.range,List.range.loop];simp only[pK,pL];refine WK.load (v:=.chan (some i)) a rfl rfl (by k_ne) (λw b=>?_) (λw b e g=>?_) ?_;have d:=(λw b=>b.o) w b;go_simp;have d:=(λw b=>b.o) w b;simp[go_sem,d]at g;exact .inl ⟨_,_,g,.inr (.inl ⟨rfl,f⟩)⟩;walk_nrm;refine WK.stop a λw b=>⟨rfl,?_,G (FP.at (pL m k (.tuple #[]) (.chan (some i))) [.inRegion pK []]) [bot],rfl,λs r d=>?_,5,?_⟩;rfl;rw[stepG_close (c:=i) rfl rfl (by k_ne) rfl rfl d (by kernel_rfl)];rfl;exact n4 (n:=4) (by omega)<| .ctl rfl (λ_=>eI)<| .ctl rfl (λ_=>stepG_end)<|Ao 191 Tryz.func191 rfl _ _
def closer{b Wg d:Nat}{rd:eN}(m:rd b)(n:b≠Wg)(w:er)(l:KC b Wg d w):NN PR 241 Wg d rd eS (born PR (call191 b Wg)) w:=by
 have i:qi eS rd (Lv 241 Wg) (KC b Wg d):=KC.rely m;have p:∀{w e:er},(w.cell? (eQ b 0)=some (.chan (some d)))/\WgLive Tryz.link.tWg Wg w->gd eS rd (Lv 241 Wg) w e->(e.cell? (eQ b 0)=some (.chan (some d)))/\WgLive Tryz.link.tWg Wg e:=λh r=>⟨r.cell (.inr m) h.1,r.live h.2⟩;have j:∀(w:er) (a:Addr) (x:eu),a.block=Wg->w.cell? (eQ b 0)=some (.chan (some d))->(w.setCell a x).cell? (eQ b 0)=some (.chan (some d)):=by intro w a x q h;rw[jF];exact h;exact Below.heap_setCell w a x b (by rw[q];exact n)
 have s:=λ(g:eA) (w:er)=>Iy (L:=Tryz.link) (main:=false) (R:=gd eS rd (Lv 241 Wg)) (Wg:=Wg) (F:=λw=>w.cell? (eQ b 0)=some (.chan (some d)))
  (b₀:=FP) (a₀:=pL b Wg jg jg) (ops₀:=tK) (i₀:=0) (rest₀:=[]) (k₀:=[.code (.region 1 pK false)]) (cs:=[bot]) Tryz.yG p (λw x h=>j w _ x rfl h) (λw x h=>j w _ x rfl h) rfl g w
 refine⟨_,Ap s ?_,?_⟩;rintro g w ⟨rfl,t,u⟩;exact ID m w ⟨t,u⟩;suffices h:WK PR 241 Wg false rd (VB PR 241 Wg rd λo g w=>o=eS/\AnchWN Tryz.link (λw=>w.cell? (eQ b 0)=some (.chan (some d))) Wg (FP.at (pL b Wg jg jg) [.inRegion tK [0],.code (.region 1 pK false)]) [bot] g w) eS (KC b Wg d) (born PR (call191 b Wg))from h w l;refine WK.ctl i rfl (Q6 b Wg) ?_;simp only[DY,Tryz.f191,lT];refine WK.ctl i rfl (λ_=>eM)<|WK.ctl i rfl (λ_=>jp) ?_;simp only[jw,gf,il,Nat.reduceAdd,eJ,List.range,List.range.loop];refine WK.enter (f:=Tryz.link.wait) (fn:=waitFn Tryz.link) (c:=body_wait Tryz.link) i rfl rfl (by k_ne) rfl Tryz.yG.f_wait (nm_wait Tryz.link) (by kernel_rfl) ?_;intro w l;rw[enter_at (fn:=waitFn Tryz.link) (c:=body_wait Tryz.link) _ Tryz.yG.f_wait (by kernel_rfl)]
 have v:=Ix (L:=Tryz.link) (main:=false) (R:=gd eS rd (Lv 241 Wg)) (Wg:=Wg) (F:=λw=>w.cell? (eQ b 0)=some (.chan (some d)))
  (b₀:=FP) (a₀:=pL b Wg jg jg) (ops₀:=tK) (i₀:=0) (rest₀:=[]) (k₀:=[.code (.region 1 pK false)]) (cs:=[bot]) Tryz.yG p w ⟨l.o,l.live⟩
 obtain⟨k,y⟩:=v;have z:=FO y;have A:Array.map (pL b Wg jg jg).eval #[Operand.tmp 0]=#[Value.pointer (qh Wg 0)]:=by simp[pL,Act.eval]
 change Wy PR 241 Wg false rd _ eS (G ((base Tryz.link.wait).at {tmps:=Array.map (pL b Wg jg jg).eval #[Operand.tmp 0]++Array.replicate ((waitFn Tryz.link).ntmps-(Array.map (pL b Wg jg jg).eval #[Operand.tmp 0]).size) jg,defers:=[]} [.code (body_wait Tryz.link)]) (FP.at (pL b Wg jg jg) [.inRegion tK [0],.code (.region 1 pK false)]::[bot])) w;rw[A];exact z
noncomputable def Aq:Array Oper:=(λ(x:Array Oper) (_:jh Tryz.f163 0=.region 0 x false)=>x) _ (by conv=>lhs;whnf)
noncomputable def Ar:Array Oper:=(λ(x:Array Oper) (_:jh Tryz.f163 1=.region 1 x false)=>x) _ (by conv=>lhs;whnf)
noncomputable def FQ:Array Oper:=(λ(x:Array Oper) (_:jh Tryz.f163 2=.region 2 x false)=>x) _ (by conv=>lhs;whnf)
noncomputable def FR:Array Oper:=(λ(x:Array Oper) (_:jh Tryz.f163 3=.region 3 x false)=>x) _ (by conv=>lhs;whnf)
noncomputable def FT:Array Oper:=(λ(x:Array Oper) (_:jh Tryz.f163 4=.region 4 x false)=>x) _ (by conv=>lhs;whnf)
noncomputable def FU:Array Oper:=(λ(x:Array Oper) (_:jh Tryz.f163 5=.region 5 x false)=>x) _ (by conv=>lhs;whnf)
noncomputable def As:Array Oper:=(λ(x:Array Oper) (_:jh Tryz.f163 6=.region 6 x false)=>x) _ (by conv=>lhs;whnf)
noncomputable def FV:Array Oper:=(λ(x:Array Oper) (_:jh Tryz.f163 7=.region 7 x false)=>x) _ (by conv=>lhs;whnf)
noncomputable def tM:Array Oper:=(λ(x:Array Oper) (_:jh Tryz.f163 8=.region 8 x false)=>x) _ (by conv=>lhs;whnf)
noncomputable def pM:Array Oper:=(λ(x:Array Oper) (_:jh Tryz.f163 9=.region 9 x false)=>x) _ (by conv=>lhs;whnf)
noncomputable def n5:Array Oper:=(λ(x:Array Oper) (_:jh Tryz.f163 10=.region 10 x false)=>x) _ (by conv=>lhs;whnf)
noncomputable def uP:Array Oper:=(λ(x:Array Oper) (_:jh Tryz.f163 11=.region 11 x false)=>x) _ (by conv=>lhs;whnf)
noncomputable def pr:Array Oper:=(λ(x:Array Oper) (_:jh Tryz.f163 12=.region 12 x false)=>x) _ (by conv=>lhs;whnf)
noncomputable def xN:Array Oper:=(λ(x:Array Oper) (_:jh Tryz.f163 13=.region 13 x false)=>x) _ (by conv=>lhs;whnf)
noncomputable def n6:Array Oper:=(λ(x:Array Oper) (_:jh Tryz.f163 14=.region 14 x false)=>x) _ (by conv=>lhs;whnf)
noncomputable def xO:Array Oper:=(λ(x:Array Oper) (_:jh Tryz.f163 15=.region 15 x false)=>x) _ (by conv=>lhs;whnf)
noncomputable def xP:Array Oper:=(λ(x:Array Oper) (_:jh Tryz.f163 16=.region 16 x false)=>x) _ (by conv=>lhs;whnf)
noncomputable def CC:Array Oper:=(λ(x:Array Oper) (_:jh Tryz.f163 17=.region 17 x false)=>x) _ (by conv=>lhs;whnf)
noncomputable def iU:Code:=(Go.Code.region 6 As false).seq ((Go.Code.cond (Go.Operand.tmp 24) Go.Code.skip (Go.Code.exit 0)).seq ((Go.Code.block 1 ((Go.Code.region 7 FV false).seq ((Go.Code.region 8 tM false).seq (Go.Code.region 9 pM false)))).seq (Go.Code.region 10 n5 false)))
noncomputable def qy:Code:=(Go.Code.region 14 n6 false).seq ((Go.Code.cond (Go.Operand.tmp 40) Go.Code.skip (Go.Code.exit 2)).seq (Go.Code.block 3 ((Go.Code.region 15 xO false).seq (Go.Code.region 16 xP false))))
noncomputable def nI:Code:=(Go.Code.region 17 CC false).seq Go.Code.ret
noncomputable def kO:Code:=(Go.Code.region 11 uP false).seq ((Go.Code.region 12 pr false).seq (((Go.Code.region 13 xN false).seq (Go.Code.block 2 qy.loop)).seq nI))
noncomputable def wL:Code:=(Go.Code.region 0 Aq false).seq (((Go.Code.region 1 Ar false).seq (Go.Code.cond (Go.Operand.tmp 13) ((Go.Code.region 2 FQ false).seq Go.Code.ret) Go.Code.skip)).seq ((Go.Code.region 3 FR false).seq ((Go.Code.region 4 FT false).seq (((Go.Code.region 5 FU false).seq (Go.Code.block 0 iU.loop)).seq kO))))
def Au:Tryz.f163.body=some wL:=by kernel_rfl
noncomputable def nc:Frame:=base 163
structure tO where
 (x0 x2 x8 x9 WM WN WO WP WQ WS WU WV WW WX WY WZ:eu)
noncomputable def o8(e:tO)(pc oc Wg n i:Nat)(g a b c d f:eu):Act:=
 ⟨#[e.x0,.pointer (some ⟨pc,0,none⟩),e.x2,.pointer (some ⟨oc,0,none⟩),.pointer (some ⟨Wg,0,none⟩),g,undef,undef,e.x8,e.x9,e.WM,e.WN,e.WO,e.WP,e.WQ,e.WS,e.WU,e.WV,e.WW,e.WX,e.WY,e.WZ,.int .i64 n,.int .i64 i,a,b,c,d,f,undef,undef,undef,undef,undef,undef,undef,undef,undef,undef,undef,undef,undef,undef,undef,undef,undef,undef,undef,undef,undef,undef,undef],[]⟩
structure Q7(pc oc Wg Ch:Nat)(pl:Addr)(rd:Nat->Prop)(Q:er->Prop)(w:er):Prop where
 p:w.cell? ⟨pc,0,none⟩=some (.pointer (some pl))
 o:w.cell? ⟨oc,0,none⟩=some (.chan (some Ch))
 r:∀b,rd b->b<w.heap.size
 q:Q w
def tP(rd:eN)(Q:fa):Prop:=∀w a:er,(∀b,rd b->a.heap[b]? =w.heap[b]?)->Q w->Q a
structure KS(pc oc Wg Ch:Nat)(pl:Addr)(rd:Nat->Prop)(Q:er->Prop)(w:er):Prop where
 k:Q7 pc oc Wg Ch pl rd Q w
 live:Lv 241 Wg w
section
variable{pc oc Wg Ch:Nat}{pl:Addr}{Q:er->Prop}{own rd:Nat->Prop}
def Q7.same{w w':er}(h:Q7 pc oc Wg Ch pl rd Q w)(c:rd pc)(d:rd oc)(e:tP rd Q)(f:w.heap.size<=w'.heap.size)(a:∀b,rd b->w'.heap[b]? =w.heap[b]?):Q7 pc oc Wg Ch pl rd Q w':=
 ⟨(jF (a pc c)).trans h.p,(jF (a oc d)).trans h.o,λb g=>fN (h.r b g) f,e w w' a h.q⟩
def Q7.rely{L:fa}(d:rd pc)(e:rd oc)(f:tP rd Q):qi own rd L (Q7 pc oc Wg Ch pl rd Q):=
 λ_ _ a h=>h.same d e f a.size λb c=>a.heap b (h.r b c) (.inr c)
theorem KS.rely(b:rd pc)(c:rd oc)(d:tP rd Q):qi own rd (Lv 241 Wg) (KS pc oc Wg Ch pl rd Q):=
 λw e a h=>⟨Q7.rely b c d w e a h.k,a.live h.live⟩
end
def IE{e:tO}{pc oc Wg Ch n:Nat}{pl:Addr}{Q:fa}{rd:eN}{S:jV}{f:List Frame}(g:rd pc)(h:rd oc)(i:tP rd Q){b c d:eu} (j:∀y,WK PR 241 Wg true rd S eS (KS pc oc Wg Ch pl rd Q) (G (nc.at (o8 e pc oc Wg n n x y z b c d) [.code kO]) f)):WK PR 241 Wg true rd S eS (KS pc oc Wg Ch pl rd Q) (G (nc.at (o8 e pc oc Wg n n x y z b c d) [.code iU,.inLoop iU,.inBlock 0,.code kO]) f):=by have a:qi eS rd (Lv 241 Wg) (KS pc oc Wg Ch pl rd Q):=KS.rely g h i;refine WK.ctl a rfl (λ_=>eM)<|WK.ctl a rfl (λ_=>jp) ?_;simp only[As,o8,jw,gf,il,Nat.reduceAdd,eJ,List.range,List.range.loop];refine WK.val (v:=.bool false) a rfl rfl (by k_ne) (λw=>?_) (λw=>?_) ?_;go_simp;simp[go_sem];walk_nrm;exact WK.ctl a rfl (λ_=>eI)<|WK.ctl a rfl (λ_=>eM)<|WK.ctl a rfl (λ_=>stepG_cond (t:=false) rfl)<|WK.ctl a rfl (λ_=>stepG_exit rfl)<|j (.bool false)
def vN{w:er}{a:Addr}{c Wg:Nat}(h:Wg≠a.block)(b:Lv c Wg w):Lv c Wg (w.setCell a x):=by obtain⟨d,e,b⟩:=b;exact⟨d,e,(gE w a x Wg h).trans b⟩
structure UE(pc oc Wg Ch ic:Nat)(pl:Addr)(rd:Nat->Prop)(Q:er->Prop)(v:Int)(w:er):Prop where
 s:Q7 pc oc Wg Ch pl rd Q w
 i:w.heap[ic]? =some (.cells #[.int .i64 v] 3)
 lr:∀b,rd b->b<ic
 lw:Wg<ic
structure KI(pc oc Wg Ch ic:Nat)(pl:Addr)(rd:Nat->Prop)(Q:er->Prop)(v:Int)(w:er):Prop where
 k:UE pc oc Wg Ch ic pl rd Q v w
 live:Lv 241 Wg w
section
variable{pc oc Wg Ch ic:Nat}{pl:Addr}{Q:er->Prop}{own rd:Nat->Prop}{v:Int}
theorem UE.rely{L:fa}(b:rd pc)(c:rd oc)(d:own ic)(e:tP rd Q):qi own rd L (UE pc oc Wg Ch ic pl rd Q v):=
 λw f a h=>⟨Q7.rely b c e w f a h.s,a.obj (.inl d) h.i,h.lr,h.lw⟩
theorem KI.rely(b:rd pc)(c:rd oc)(d:own ic)(e:tP rd Q):qi own rd (Lv 241 Wg) (KI pc oc Wg Ch ic pl rd Q v):=
 λw f a h=>⟨UE.rely b c d e w f a h.k,a.live h.live⟩
end
def DZ{a:fI->eu}{o:Oper}{x:fI}{f:fG}{cs:fZ}(b:o.op=.go {callee:=.value x,args:=#[],argTypes:=#[]})(c:a x=.func (.func f) #[] cs)(w:er):(execOp a o).run PR w=.ok (.spawn {target:=.fn (.func f) cs,args:=#[]}) w/\(execOp a o).events PR w #[]=#[]:=by constructor;simp[execOp,b,c,resolve,Deferred.ofValue];simp[execOp,b,c,resolve,Deferred.ofValue]
def IF{e:tO}{pc oc Wg Ch n i:Nat}{pl:Addr}{Q:fa}{rd:eN}{val:Nat->eu->(eN)->fa}{S:jV}{cs:List Frame}(I:i<n)(O:n<2^62)(l:rd pc)(u:rd oc)(J:¬rd Wg)(y:tP rd Q){x5 x24 x25 x26 x27 x28:eu}
 (z:∀ic w,KW pc ic oc Wg Ch pl i (λw=>Q w/\∀b,rd b->b<w.heap.size) w->Wy PR 241 Wg false (λb=>rd b\/b=ic) (Sends PR 241 Wg Ch val i) eS (born PR (call188 pc ic oc Wg)) w)
 (A:∀x5 x24 x25 x26 x27 x28,WK PR 241 Wg true rd S eS (KS pc oc Wg Ch pl rd Q) (G (nc.at (o8 e pc oc Wg n (i+1) x5 x24 x25 x26 x27 x28) [.code iU,.inLoop iU,.inBlock 0,.code kO]) cs)):WK PR 241 Wg true rd (UT PR 241 Wg Ch rd val i (Wy PR 241 Wg true rd S)) eS (KS pc oc Wg Ch pl rd Q) (G (nc.at (o8 e pc oc Wg n i x5 x24 x25 x26 x27 x28) [.code iU,.inLoop iU,.inBlock 0,.code kO]) cs):=by
 have a:qi eS rd (Lv 241 Wg) (KS pc oc Wg Ch pl rd Q):=KS.rely l u y;refine WK.ctl a rfl (λ_=>eM)<|WK.ctl a rfl (λ_=>jp) ?_;simp only[As,o8,jw,gf,il,Nat.reduceAdd,eJ,List.range,List.range.loop];refine WK.val (v:=.bool true) a rfl rfl (by k_ne) (λw=>?_) (λw=>?_) ?_
 ·go_simp;first|done|simp[I]
 simp[go_sem];walk_nrm;refine WK.ctl a rfl (λ_=>eI)<|WK.ctl a rfl (λ_=>eM)<|WK.ctl a rfl (λ_=>stepG_cond (t:=true) rfl) ?_;simp only[fF];refine WK.ctl a rfl (λ_=>gX)<|WK.ctl a rfl (λ_=>eM)<|WK.ctl a rfl (λ_=>tw)<|WK.ctl a rfl (λ_=>eM)<|WK.ctl a rfl (λ_=>jp) ?_;simp only[FV,jw,gf,il,Nat.reduceAdd,eJ,List.range,List.range.loop];refine WK.val (v:=?_) a rfl rfl (by k_ne) (λw=>?_) (λw=>?_) ?_;rotate_left;go_simp;rfl;go_simp;walk_nrm;refine WK.new (f:=λn=>fp n) (ob:=.cells #[i64 0] 3) a rfl rfl (by k_ne) (λw d=>?_) (λw d e C=>?_) (λic=>?_);go_simp;first|rfl|skip
 simp[go_sem]at C;refine WK.mono (K':=KI pc oc Wg Ch ic pl rd Q 0) ?_ ?_;rotate_left;rintro w ⟨D,d,rfl,K⟩;obtain⟨Z,sm,U⟩:=d.live;have M:KI pc oc Wg Ch D.mN pl rd Q 0 {D with heap:=D.heap.push (.cells #[i64 0] 3)}:=⟨⟨d.k.same l u y (by simp) λb B=>by have:=d.k.r b B;show(D.heap.push _)[b]? =_;rw[pA];split;omega;rfl,by simp,d.k.r,lt_of_heap U⟩,uO d.live⟩;exact KI.rely l u (.inr rfl) y _ _ K M;have E:qi (λx=>eS x\/x=ic) rd (Lv 241 Wg) (KI pc oc Wg Ch ic pl rd Q 0):=KI.rely l u (.inr rfl) y;walk_nrm;refine WK.store (ad:=(eQ ic 0)) (x:=i64 i) E rfl rfl (by k_ne) (.inr rfl) (λw d=>?_) (λw d e C=>?_) ?_;have H:w.cell? (eQ ic 0)=some (i64 0):=by simp[World.cell?,d.k.i]
 have P:w.frozen? (eQ ic 0)=false:=by simp[World.frozen?,d.k.i]
 go_simp;have H:w.cell? (eQ ic 0)=some (i64 0):=by simp[World.cell?,d.k.i]
 have P:w.frozen? (eQ ic 0)=false:=by simp[World.frozen?,d.k.i]
 simp[go_sem,H,P]at C;exact .inl ⟨_,_,C,.inl (.inr rfl)⟩;refine WK.mono (K':=KI pc oc Wg Ch ic pl rd Q i) ?_ ?_;rotate_left;rintro w ⟨D,d,K⟩
 have M:KI pc oc Wg Ch ic pl rd Q i (D.setCell (eQ ic 0) (i64 i)):=⟨⟨d.k.s.same l u y (by simp[World.setCell]) λb B=>gE _ _ _ _ (by have:=d.k.lr b B;simp;omega),
  by simp[World.setCell,oP,d.k.i],d.k.lr,d.k.lw⟩,vN (by have:=d.k.lw;simp;omega) d.live⟩
 exact KI.rely l u (.inr rfl) y _ _ K M;have j:qi (λx=>eS x\/x=ic) rd (Lv 241 Wg) (KI pc oc Wg Ch ic pl rd Q i):=KI.rely l u (.inr rfl) y;refine WK.ctl j rfl (λ_=>eI)<|WK.ctl j rfl (λ_=>eM)<|WK.ctl j rfl (λ_=>jp) ?_;simp only[tM,jw,gf,il,Nat.reduceAdd,eJ,List.range,List.range.loop];refine WK.enter (f:=Tryz.link.add) (fn:=addFn Tryz.link) (c:=body_add Tryz.link) j rfl rfl (by k_ne) rfl Tryz.yG.f_add (nm_add Tryz.link) (by kernel_rfl) ?_;intro w T;rw[enter_at (fn:=addFn Tryz.link) (c:=body_add Tryz.link) _ Tryz.yG.f_add (by kernel_rfl)]
 obtain⟨m,C⟩:=V0 (L:=Tryz.link) (main:=true) (R:=gd (λx=>eS x\/x=ic) rd (Lv 241 Wg)) (Wg:=Wg) (F:=UE pc oc Wg Ch ic pl rd Q i)
  (b₀:=nc) (a₀:=o8 e pc oc Wg n i (fp ic) (.bool true) (i64 i) x26 x27 x28) (ops₀:=tM) (i₀:=0) (rest₀:=[]) (k₀:=[.code (Go.Code.region 9 pM false),.inBlock 1,.code (Go.Code.region 10 n5 false),.inLoop iU,.inBlock 0,.code kO]) (cs:=cs) Tryz.yG (λh r=>⟨UE.rely l u (.inr rfl) y _ _ r h.1,r.live h.2⟩) (λw x h=>⟨h.s.same l u y (by simp[World.setCell]) λb B=>gE _ _ _ _ (λe=>J (by rw[show Wg=b from e.symm];exact B)),(gE _ _ _ _ (by have:=h.lw;simp[stA];omega)).trans h.i,h.lr,h.lw⟩) rfl w ⟨T.k,T.live⟩
 have H:=Iz (Ch:=Ch) (val:=val) (i:=i) (Next:=Wy PR 241 Wg true rd S) C ?_;have V:Array.map (o8 e pc oc Wg n i (fp ic) (.bool true) (i64 i) x26 x27 x28).eval #[Operand.tmp 4,Operand.const (Value.int IntKind.i64 1)]=#[Value.pointer (qh Wg 0),i64 1]:=by simp[o8,Act.eval]
 change Wy PR 241 Wg true rd _ (λx=>eS x\/x=ic) (G ((base Tryz.link.add).at {tmps:=Array.map (o8 e pc oc Wg n i (fp ic) (.bool true) (i64 i) x26 x27 x28).eval #[Operand.tmp 4,Operand.const (Value.int IntKind.i64 1)]++Array.replicate ((addFn Tryz.link).ntmps-(Array.map (o8 e pc oc Wg n i (fp ic) (.bool true) (i64 i) x26 x27 x28).eval #[Operand.tmp 4,Operand.const (Value.int IntKind.i64 1)]).size) jg,defers:=[]} [.code (body_add Tryz.link)])
  (nc.at (o8 e pc oc Wg n i (fp ic) (.bool true) (i64 i) x26 x27 x28) [.inRegion tM [0],.code (Go.Code.region 9 pM false),.inBlock 1,.code (Go.Code.region 10 n5 false),.inLoop iU,.inBlock 0,.code kO]::cs)) w
 rw[V];exact H
 ·rintro g w ⟨rfl,N,W⟩
  suffices h:WK PR 241 Wg true rd (VC PR 241 Wg Ch rd val i (Wy PR 241 Wg true rd S)) (λx=>eS x\/x=ic) (KI pc oc Wg Ch ic pl rd Q i)
   (G (nc.at (o8 e pc oc Wg n i (fp ic) (.bool true) (i64 i) (.tuple #[]) x27 x28) [.inRegion tM [],.code (Go.Code.region 9 pM false),.inBlock 1,.code (Go.Code.region 10 n5 false),.inLoop iU,.inBlock 0,.code kO]) cs)from h w ⟨N,W⟩
  refine WK.ctl j rfl (λ_=>eI)<|WK.ctl j rfl (λ_=>jp) ?_;simp only[pM,o8,jw,gf,il,Nat.reduceAdd,eJ,List.range,List.range.loop];refine WK.val (v:=?_) j rfl rfl (by k_ne) (λw=>?_) (λw=>?_) ?_;rotate_left;go_simp;rfl;rfl;walk_nrm;refine WK.stop j λw d=>⟨rfl,G (nc.at (o8 e pc oc Wg n i (fp ic) (.bool true) (i64 i) (.tuple #[]) (.func (.func 188) #[] (FJ pc ic oc Wg)) x28) [.inRegion pM [],.inBlock 1,.code (Go.Code.region 10 n5 false),.inLoop iU,.inBlock 0,.code kO]) cs,born PR (call188 pc ic oc Wg),λx=>x=ic,(stepG_spawn rfl rfl (by k_ne) (DZ (f:=188) (cs:=FJ pc ic oc Wg) rfl rfl w).1 rfl).trans ?_,rfl,λb B=>.inr B,?_,?_⟩;unfold listed;rw[(DZ (f:=188) (cs:=FJ pc ic oc Wg) rfl rfl w).2,seen_none];rfl;exact z ic w ⟨d.k.s.p,by simp[World.cell?,d.k.i],d.k.s.o,d.live,d.k.s.q,d.k.s.r⟩
  ·have X:(λb=>(eS b\/b=ic)/\¬b=ic)=eS:=by
    funext b;exact propext ⟨λ⟨h,Y⟩=>h.elim id λh=>Y h,λh=>h.elim⟩
   rw[X];suffices h:WK PR 241 Wg true rd S eS (KS pc oc Wg Ch pl rd Q) (G (nc.at (o8 e pc oc Wg n i (fp ic) (.bool true) (i64 i) (.tuple #[]) (.func (.func 188) #[] (FJ pc ic oc Wg)) x28) [.inRegion pM [],.inBlock 1,.code (Go.Code.region 10 n5 false),.inLoop iU,.inBlock 0,.code kO]) cs)from h w ⟨d.k.s,d.live⟩;refine WK.ctl a rfl (λ_=>eI)<|WK.ctl a rfl (λ_=>stepG_inBlock)<|WK.ctl a rfl (λ_=>jp) ?_;simp only[n5,o8,jw,gf,il,Nat.reduceAdd,eJ,List.range,List.range.loop];refine WK.val (v:=i64 ((i+1:Nat):Int)) a rfl rfl (by k_ne) (λw=>?_) (λw=>?_) ?_;go_simp;rw[IntKind.wrap_i64];omega;simp[go_sem];walk_nrm;refine WK.val (v:=?_) a rfl rfl (by k_ne) (λw=>?_) (λw=>?_) ?_;rotate_left;go_simp;rfl;go_simp;walk_nrm;exact WK.ctl a rfl (λ_=>eI)<|WK.ctl a rfl (λ_=>stepG_inLoop)<|A _ _ _ _ _ _
def Sr(c d n:Nat)(e:eN)(a:Nat->eu->(eN)->fa)(b:jV):Nat->jV
 |0=>NO PR 241 c d n e a b
 |r+1=>UT PR 241 c d e a (n-(r+1)) (qL PR 241 c d n e a b r)
def CE(c e n:Nat)(d:eN)(a:Nat->eu->(eN)->fa)(b:jV):∀r,qL PR 241 c e n d a b r=Wy PR 241 c true d (Sr c e n d a b r)
 |0=>rfl
 |_+1=>rfl
def TT{e:tO}{pl:Addr}{Q:fa}{val:Nat->eu->(eN)->fa}{End:jV}{cs:List Frame}(d:p<2^62)(l:A m)(n:A k)(g:¬A j)(q:tP A Q)
 (a:∀i f w,i<p->KW m f k j o pl i (λw=>Q w/\∀b,A b->b<w.heap.size) w->Wy PR 241 j false (λb=>A b\/b=f) (Sends PR 241 j o val i) eS (born PR (call188 m f k j)) w)
 (c:∀x5 x24 x25 x26 x27 x28,WK PR 241 j true A (NO PR 241 j o p A val End) eS (KS m k j o pl A Q) (G (nc.at (o8 e m k j p p x5 x24 x25 x26 x27 x28) [.code kO]) cs)):∀r,r<=p->∀x5 x24 x25 x26 x27 x28,WK PR 241 j true A (Sr j o p A val End r) eS (KS m k j o pl A Q) (G (nc.at (o8 e m k j p (p-r) x5 x24 x25 x26 x27 x28) [.code iU,.inLoop iU,.inBlock 0,.code kO]) cs):=by
 intro r;induction r with
 |zero=>
  intro _ x5 x24 x25 x26 x27 x28;rw[Nat.sub_zero];exact IE l n q λx24=>c _ _ _ _ _ _
 |succ r s=>
  intro u x5 x24 x25 x26 x27 x28;have h:=IF (e:=e) (cs:=cs) (val:=val) (i:=p-(r+1)) (S:=Sr j o p A val End r) (by omega) d l n g q (x5:=x5) (x24:=x24) (x25:=x25) (x26:=x26) (x27:=x27) (x28:=x28) (λf w t=>a _ f w (by omega) t) (λx5 x24 x25 x26 x27 x28=>by have:=s (by omega) x5 x24 x25 x26 x27 x28;rwa[show p-r=p-(r+1)+1 by omega]at this);rw[<-CE]at h;exact h
noncomputable def Av(e:tO)(B C D n:Nat)(E F G a b c d f g h i j k l m o p q r s t u v w x y z A:eu):Act:=
 ⟨#[e.x0,.pointer (some ⟨B,0,none⟩),e.x2,.pointer (some ⟨C,0,none⟩),.pointer (some ⟨D,0,none⟩),E,F,G,e.x8,e.x9,e.WM,e.WN,e.WO,e.WP,e.WQ,e.WS,e.WU,e.WV,e.WW,e.WX,e.WY,e.WZ,.int .i64 n,a,b,c,d,f,g,h,i,j,k,l,m,o,p,q,r,s,t,u,v,w,x,y,z,A,undef,undef,undef,undef],[]⟩
structure Oa(pb:Nat)(la:Addr)(L C:Nat)(a0:Option Addr)(n c0:Nat)(w:er):Prop where
 f2:w.cell? ⟨pb,2,none⟩=some (.slice (some la) L C)
 l0:w.cell? la=some (.slice a0 n c0)
noncomputable def pN:Code:=((Go.Code.region 13 xN false).seq (Go.Code.block 2 qy.loop))
def FW{e:tO}{rd:eN}{q:Nat->eu->(eN)->fa}{r:jV}{cs:List Frame}(C:rd m)(u:rd k)(x:¬rd i)(D:tP rd S)
 (s:∀t y c d g l n A,WK PR 241 i true rd (qv PR 241 i j o rd q r z o (λ_=>false)) eS (KS m k i j ⟨p,0,none⟩ rd S)
  (G (nc.at (Av e m k i o t undef undef y c d g l n A undef undef undef undef undef undef undef undef undef undef undef undef undef undef undef undef undef undef) [.code (Go.Code.region 12 pr false),.code (pN.seq nI)]) cs))
 (t c d g l n:eu):WK PR 241 i true rd (NO PR 241 i j o rd q r) eS (KS m k i j ⟨p,0,none⟩ rd S) (G (nc.at (o8 e m k i o o t c d g l n) [.code kO]) cs):=by
 have a:qi eS rd (Lv 241 i) (KS m k i j (eQ p 0) rd S):=KS.rely C u D;refine WK.ctl a rfl (λ_=>eM)<|WK.ctl a rfl (λ_=>jp) ?_;simp only[uP,o8,jw,gf,il,Nat.reduceAdd,eJ,List.range,List.range.loop];refine WK.val (v:=?_) a rfl rfl (by k_ne) (λw=>?_) (λw=>?_) ?_;rotate_left;go_simp;rfl;rfl;walk_nrm
 refine WK.stop a λw B=>⟨rfl,G (nc.at (Av e m k i o t jg jg (i64 o) c d g l n (.func (.func 191) #[] #[fp i,fp k]) jg jg jg jg jg jg jg jg jg jg jg jg jg jg jg jg jg jg)
  [.inRegion uP [],.code ((Go.Code.region 12 pr false).seq (pN.seq nI))]) cs,born PR (call191 k i),eS,z,(stepG_spawn rfl rfl (by k_ne) (DZ (f:=191) (cs:=#[fp i,fp k]) rfl rfl w).1 rfl).trans ?_,rfl,λb E=>E.elim,?_,?_⟩
 unfold listed;rw[(DZ (f:=191) (cs:=#[fp i,fp k]) rfl rfl w).2,seen_none];rfl;refine closer (rd:=λb=>rd b\/eS b) (.inl u) (λe=>x (by rw[<-e];exact u)) w ⟨B.k.o,B.live⟩;have F:(λb=>eS b/\¬eS b)=eS:=by funext b;exact propext ⟨λh=>h.1,λh=>h.elim⟩
 rw[F]
 suffices h:WK PR 241 i true rd (qv PR 241 i j o rd q r z o (λ_=>false)) eS (KS m k i j (eQ p 0) rd S) (G (nc.at (Av e m k i o t jg jg (i64 o) c d g l n (.func (.func 191) #[] #[fp i,fp k]) jg jg jg jg jg jg jg jg jg jg jg jg jg jg jg jg jg jg)
  [.inRegion uP [],.code ((Go.Code.region 12 pr false).seq (pN.seq nI))]) cs)from h w B
 exact WK.ctl a rfl (λ_=>eI)<|WK.ctl a rfl (λ_=>eM)<|s _ _ _ _ _ _ _ _
end Go.Proofs.W
namespace Go.Proofs.W
open Go.Conc Go.eV Go.eV.Cr Go.eV.Wg Go.RowKit Go.Conc.Lib Go.ConcR.Gen
def oL:eu:=.agg #[.slice none 0 0,.int .i64 0,.int .i64 0,.bool false]
noncomputable def i199:TypeInfo:=(PR.info? 199).getD default
def J8:PR.info? 199=some i199:=by kernel_rfl
def Q8:i199.size=4:=by kernel_rfl
def Aw:i199.bytes=48:=by kernel_rfl
def J9:i199.zero=some oL:=by kernel_rfl
def FX:PR.underlying 248=some (.slice 199):=by kernel_rfl
def Q9(a:m<=65536)(w:er):(Instr.makeSlice 248 (.int .i64 m) (.int .i64 m)).run PR w=.ok (.slice (some ⟨w.heap.size,0,none⟩) m m) (w.alloc (.cells (madeCells oL.cells (m*4)) 199)):=by have:=run_make (P:=PR) w 248 199 i199 oL FX J8 J9 .i64 .i64 (m:Int) (m:Int) (by omega) (by omega) (by rw[Aw];omega) (by omega);simpa[Q8]using this
def Ob(a:m<=65536)(w:er):(Instr.makeSlice 248 (.int .i64 m) (.int .i64 m)).events PR w #[]=#[]:=
 events_make (P:=PR) w 248 199 i199 oL FX J8 J9 .i64 .i64 (m:Int) (m:Int) (by omega) (by omega) (by rw[Aw];omega) (by omega) (by rw[Aw];omega) #[]
end Go.Proofs.W
namespace Go.Proofs.W
open Go.Conc Go.eV Go.eV.Cr Go.eV.Wg Go.RowKit Go.Conc.Lib Go.ConcR.Gen
open Go.ConcN Go.ConcN.Gen
open Go.ConcR (KK wgBlock WgAt stA smA mk DC0)
structure KA(pc oc Wg Ch A pb:Nat)(rd:Nat->Prop)(Q:er->Prop)(R:Array eu->Prop)(w:er):Prop where
 s:KS pc oc Wg Ch ⟨pb,0,none⟩ rd Q w
 a:∃cs,w.heap[A]? =some (.cells cs 199)/\R cs
 lr:∀b,rd b->b<A
 lw:Wg<A
theorem KA.rely{b c d f A pb:Nat}{Q:fa}{R:fZ->Prop}{own rd:eN}(g:rd b)(i:rd c)(j:own A)(k:tP rd Q):qi own rd (Lv 241 d) (KA b c d f A pb rd Q R):=
 λw l e h=>⟨KS.rely g i k w l e h.s,h.a.imp λ_ h=>⟨e.obj (.inl j) h.1,h.2⟩,h.lr,h.lw⟩
def IG{e:tO}{Y:Nat}{Z:jV}{cs:List Frame}(hn:o<=65536)(B:A m)(K:A k)(L:tP A S)(hL:0<s) (z:∀w,S w->Oa p h s d a o Y w)(O:A p)(P:A h.block) (x5 C D E F H I J:eu)
 (y:∀n Q R T U V W X,WK PR 241 i true A Z (λx=>eS x\/x=n) (KA m k i j n p A S (·=madeCells oL.cells (o*4)))
  (G (nc.at (Av e m k i o x5 (.slice (some ⟨n,0,none⟩) o o) undef C D E F H I J Q R T U V W X (.slice (some ⟨n,0,none⟩) o o) undef undef undef undef undef undef undef undef undef undef) [.code (pN.seq nI)]) cs)):
 WK PR 241 i true A Z eS (KS m k i j ⟨p,0,none⟩ A S) (G (nc.at (Av e m k i o x5 undef undef C D E F H I J undef undef undef undef undef undef undef undef undef undef undef undef undef undef undef undef undef undef) [.code (Go.Code.region 12 pr false),.code (pN.seq nI)]) cs):=by
 have g:qi eS A (Lv 241 i) (KS m k i j (eQ p 0) A S):=KS.rely B K L;refine WK.ctl g rfl (λ_=>jp) ?_;simp only[pr,Av,jw,gf,il,Nat.reduceAdd,eJ,List.range,List.range.loop];refine WK.load (v:=fp p) g rfl rfl (by k_ne) (λw c=>?_) (λw c e l=>?_) ?_;have t:=(λw c=>c.k.p) w c;go_simp;have t:=(λw c=>c.k.p) w c;simp[go_sem,t]at l;exact .inl ⟨_,_,l,.inr (.inl ⟨rfl,B⟩)⟩;walk_nrm;refine WK.val (v:=?_) g rfl rfl (by k_ne) (λw=>?_) (λw=>?_) ?_;rotate_left;go_simp;rfl;go_simp;walk_nrm;refine WK.val (v:=?_) g rfl rfl (by k_ne) (λw=>?_) (λw=>?_) ?_;rotate_left;go_simp;rfl;go_simp;walk_nrm;refine WK.load (v:=.slice (some h) s d) g rfl rfl (by k_ne) (λw c=>?_) (λw c e l=>?_) ?_;have t:=(λw c=>(z w c.k.q).f2) w c;go_simp;have t:=(λw c=>(z w c.k.q).f2) w c;simp[go_sem,t]at l;exact .inl ⟨_,_,l,.inr (.inl ⟨rfl,O⟩)⟩;walk_nrm;refine WK.val (v:=.pointer (some h)) g rfl rfl (by k_ne) (λw=>?_) (λw=>?_) ?_;go_simp;simp[go_sem];exact events_indexAt_slice _ _ _ _ _ _ (by kernel_rfl) ⟨by omega,by omega⟩;walk_nrm;refine WK.load (v:=.slice a o Y) g rfl rfl (by k_ne) (λw c=>?_) (λw c e l=>?_) ?_;have t:=(λw c=>(z w c.k.q).l0) w c;go_simp;have t:=(λw c=>(z w c.k.q).l0) w c;simp[go_sem,t]at l;exact .inl ⟨_,_,l,.inr (.inl ⟨rfl,P⟩)⟩;walk_nrm;refine WK.val (v:=?_) g rfl rfl (by k_ne) (λw=>?_) (λw=>?_) ?_;rotate_left;go_simp;rfl;go_simp;walk_nrm;refine WK.new (f:=λN=>fP N o o) (ob:=.cells (madeCells oL.cells (o*4)) 199) g rfl rfl (by k_ne) (λw c=>?_) (λw c e l=>?_) (λn=>?_);have:=Q9 hn w;go_simp;have:=Ob hn w;simp[go_sem,this]at l;refine WK.mono (K':=KA m k i j n p A S (·=madeCells oL.cells (o*4))) ?_ ?_;rotate_left;rintro w ⟨M,c,rfl,hr⟩;obtain⟨st,sm,z⟩:=c.live;have hk:KA m k i j M.mN p A S (·=madeCells oL.cells (o*4)) {M with heap:=M.heap.push (.cells (madeCells oL.cells (o*4)) 199)}:=⟨⟨c.k.same B K L (by simp) λb hb=>by have:=c.k.r b hb;show(M.heap.push _)[b]? =_;rw[pA];split;omega;rfl,uO c.live⟩,⟨_,by simp,rfl⟩,c.k.r,lt_of_heap z⟩;exact KA.rely B K (.inr rfl) L _ _ hr hk;have u:qi (λx=>eS x\/x=n) A (Lv 241 i) (KA m k i j n p A S (·=madeCells oL.cells (o*4))):=KA.rely B K (.inr rfl) L;walk_nrm;refine WK.val (v:=?_) u rfl rfl (by k_ne) (λw=>?_) (λw=>?_) ?_;rotate_left;go_simp;rfl;go_simp;walk_nrm;exact WK.ctl u rfl (λ_=>eI)<|y _ _ _ _ _ _ _ _
end Go.Proofs.W
namespace Go.Proofs.W
open Go.Conc Go.eV Go.eV.Cr Go.eV.Wg Go.RowKit Go.Conc.Lib Go.ConcR.Gen
def tQ:eu:=.agg #[.int .i64 0,.slice none 0 0,.int .i64 0,.int .i64 0,.bool false]
def FY{Ch:Nat}{a:fI->eu}{o:Oper}{x:fI}(b:o.op=.recv 232 x true)(c:a x=.chan (some Ch))(w:er):(execOp a o).run PR w=.ok (.comm #[rcase Ch tQ] true (.recv true)) w:=by
 simp only[execOp,b,c];have d:(zeroValue 247).run PR w=.ok tQ w:=by kernel_rfl
 have e:(underlying 232).run PR w=.ok (.chan .both 247) w:=by kernel_rfl
 simp[d,e,rcase]
def yK{Ch:Nat}{c:fI->eu}{o:Oper}{x:fI}(d:o.op=.recv 232 x true)(e:c x=.chan (some Ch))(w:er):(execOp c o).events PR w #[]=#[]:=by
 simp only[execOp,d,e];have f:(zeroValue 247).run PR w=.ok tQ w:=by kernel_rfl
 have g:(underlying 232).run PR w=.ok (.chan .both 247) w:=by kernel_rfl
 have a:(zeroValue 247).events PR w #[]=#[]:=by kernel_rfl
 have b:(underlying 232).events PR w #[]=#[]:=by kernel_rfl
 simp[f,g,a,b]
end Go.Proofs.W
namespace Go.Proofs.W
open Go.Conc Go.eV Go.eV.Cr Go.eV.Wg Go.RowKit Go.Conc.Lib Go.ConcR.Gen
open Go.ConcN Go.ConcN.Gen
open Go.ConcR (KK wgBlock WgAt stA smA mk DC0)
def Ax(Pv:Nat->(eN)->er->eu->Prop):Prop:=∀j o w a v,(∀b,o b->a.heap[b]? =w.heap[b]?)->Pv j o w v->Pv j o a v
def pO(a:fR)(c d:Nat)(m k:Int)(b:Bool):eu:=.agg #[.slice a c d,.int .i64 m,.int .i64 k,.bool b]
def D6(i:Int)(a:fR)(c d:Nat)(m k:Int)(b:Bool):eu:=.agg #[.int .i64 i,.slice a c d,.int .i64 m,.int .i64 k,.bool b]
def FZ(Pv:Nat->(eN)->er->eu->Prop):Nat->eu->(eN)->fa:=λi v own w=>
 ∃a c d m k b e,v=D6 i a c d m k b/\(∀x,e x->own x/\x<w.heap.size)/\Pv i e w (pO a c d m k b)
def Oc(Pv:Nat->(eN)->er->eu->Prop)(own:eN)(A:Nat)(w:er)(a:fZ)(j:Nat):Prop:=
 ∃c d e m k b f,(∀x,f x->own x/\x≠A/\x<w.heap.size)/\a[4*j]? =some (.slice c d e)/\a[4*j+1]? =some (.int .i64 m)/\a[4*j+2]? =some (.int .i64 k)/\a[4*j+3]? =some (.bool b)/\Pv j f w (pO c d e m k b)
structure KR(pc oc Wg Ch A pb n:Nat)(rd:Nat->Prop)(Q:er->Prop)(Pv:Nat->(Nat->Prop)->er->eu->Prop)(own:Nat->Prop)(S:Nat->Bool)(w:er):Prop where
 s:KS pc oc Wg Ch ⟨pb,0,none⟩ rd Q w
 a:∃cs,w.heap[A]? =some (.cells cs 199)/\cs.size=n*4/\∀j,j<n->S j=true->Oc Pv own A w cs j
 oa:own A
 lr:∀b,rd b->b<A
 lw:Wg<A
section
variable{pc oc Wg Ch A pb n:Nat}{Q:er->Prop}{Pv:Nat->(Nat->Prop)->er->eu->Prop}{S:Nat->Bool}{own own' rd:Nat->Prop}
theorem Oc.same(g:Ax Pv){w w':er}{e:fZ}{j:Nat}(h:Oc Pv own A w e j)(i:∀b,own b->own' b)(l:w.heap.size<=w'.heap.size)(n:∀b,own b->b≠A->b<w.heap.size->w'.heap[b]? =w.heap[b]?):Oc Pv own' A w' e j:=by obtain⟨o,p,q,m,k,b,f,a,r,s,t,u,v⟩:=h;exact⟨o,p,q,m,k,b,f,λx c=>⟨i x (a x c).1,(a x c).2.1,fN (a x c).2.2 l⟩,r,s,t,u,g j f w w' _ (λb d=>n b (a b d).1 (a b d).2.1 (a b d).2.2) v⟩
theorem KR.rely(f:rd pc)(g:rd oc)(i:tP rd Q)(k:Ax Pv):qi own rd (Lv 241 Wg) (KR pc oc Wg Ch A pb n rd Q Pv own S):=λw l c h=>by obtain⟨m,o,d,p⟩:=h.a;exact⟨KS.rely f g i w l c h.s,⟨m,c.obj (.inl h.oa) o,d,λj q r=>(p j q r).same k (λ_ h=>h) c.size λb t _ e=>c.heap b e (.inl t)⟩,h.oa,h.lr,h.lw⟩
end
end Go.Proofs.W
namespace Go.Proofs.W
open Go.RowKit
noncomputable abbrev lS:eE:=V.prog
structure SV where
 (sa:Option Addr)(sl sc:Nat)(m k:Int)(b:Bool)
def SV.val(s:SV):eu:=.agg #[.slice s.sa s.sl s.sc,.int .i64 s.m,.int .i64 s.k,.bool s.b]
def jW(x y:SV):Bool:=if !x.b||!y.b then x.b else if x.m≠y.m then decide (x.m<y.m)else decide (x.k<y.k)
def IH(p:eu)(x y:SV)(w:er):Calls V.prog 194 #[p,x.val,y.val] w λe a=>e=.returned (.bool (jW x y))/\Below w.heap.size w a:=by
 obtain⟨b,c,d,f,g,h⟩:=x;obtain⟨i,j,k,l,m,n⟩:=y;simp only[SV.val,jW];go_enter V.func194,Tryz.ntmps194;go_wp2;all_goals
  go_ret;exact⟨by simp_all,((Below.refl _ _).alloc (eF _) _).alloc (by simp) _⟩
def D7(p:eu)(x y:SV)(w:er):Calls V.prog 194 #[p,x.val,y.val] w λe a=>e=.returned (.bool (jW x y))/\Below w.heap.size w a/\w.drawn<=a.drawn:=by
 obtain⟨b,c,d,f,g,h⟩:=x;obtain⟨i,j,k,l,m,n⟩:=y;simp only[SV.val,jW];go_enter V.func194,Tryz.ntmps194;go_wp2;all_goals
  go_ret;exact⟨by simp_all,((Below.refl _ _).alloc (eF _) _).alloc (by simp) _,eF _⟩
def fg:List SV->SV
 |[]=>⟨none,0,0,0,0,false⟩
 |x::b=>b.foldl (λa y=>if jW y a then y else a) x
def wM(l:List SV)(y:SV)(h:l≠[]):fg (l++[y])=if jW y (fg l)=true then y else fg l:=by
 cases l with
 |nil=>exact absurd rfl h
 |cons x a=>rw[fg,qp,fg,re];rfl
def zt(w:er)(b o:Nat)(s:SV):Prop:=w.cell? ⟨b,o,none⟩=some (.slice s.sa s.sl s.sc)/\w.cell? ⟨b,o+1,none⟩=some (.int .i64 s.m)/\w.cell? ⟨b,o+2,none⟩=some (.int .i64 s.k)/\w.cell? ⟨b,o+3,none⟩=some (.bool s.b)
def Xj(w:er)(A:Nat)(a:List SV):Prop:=∀j (h:j<a.length),zt w A (j*4) a[j]
def gx(s:SV):Obj:=.cells #[.slice s.sa s.sl s.sc,.int .i64 s.m,.int .i64 s.k,.bool s.b] 199
def gl{s:SV}(h:w.heap[m]? =some (gx s)):w.cell? ⟨m,0,none⟩=some (.slice s.sa s.sl s.sc)/\w.cell? ⟨m,1,none⟩=some (.int .i64 s.m)/\w.cell? ⟨m,2,none⟩=some (.int .i64 s.k)/\w.cell? ⟨m,3,none⟩=some (.bool s.b)/\w.frozen? ⟨m,0,none⟩=false/\w.frozen? ⟨m,1,none⟩=false/\w.frozen? ⟨m,2,none⟩=false/\w.frozen? ⟨m,3,none⟩=false:=by simp[World.cell?,World.frozen?,h,gx]
def CF(a:Below m w t):(∀b o,b<m->t.cell? ⟨b,o,none⟩=w.cell? ⟨b,o,none⟩)/\(∀b o,b<m->t.frozen? ⟨b,o,none⟩=w.frozen? ⟨b,o,none⟩):=
 ⟨λb o h=>a.cell (p:=(eQ b o)) h,λb o h=>a.frozen (p:=(eQ b o)) h⟩
def zt.below{s:SV}(h:zt w k o s)(a:Below m w t)(b:k<m):zt t k o s:=by unfold zt at*;rw[(CF a).1 _ _ b,(CF a).1 _ _ b,(CF a).1 _ _ b,(CF a).1 _ _ b];exact h
def io(w:er)(o:Obj):(w.alloc o).heap[w.heap.size]? =some o:=by show(w.heap.push o)[w.mN]? =_;simp
def alloc_old(w:er)(o:Obj){b:Nat}(h:b<w.heap.size):(w.alloc o).heap[b]? =w.heap[b]? :=by show(w.heap.push o)[b]? =_;rw[pA];split;omega;rfl
def ly(w:er)(b:Nat)(s:SV):er:=(((w.setCell ⟨b,0,none⟩ (.slice s.sa s.sl s.sc)).setCell ⟨b,1,none⟩ (.int .i64 s.m)).setCell ⟨b,2,none⟩ (.int .i64 s.k)).setCell ⟨b,3,none⟩ (.bool s.b)
def nk{s a:SV}(h:w.heap[m]? =some (gx a)):(ly w m s).heap[m]? =some (gx s):=by simp[ly,World.setCell,oP,h,gx]
def rr(w:er)(b:Nat)(s:SV){c:Nat}(h:c≠b):(ly w b s).heap[c]? =w.heap[c]? :=by unfold ly;rw[eV.Cr.gE _ _ _ _ h,eV.Cr.gE _ _ _ _ h,eV.Cr.gE _ _ _ _ h,eV.Cr.gE _ _ _ _ h]
def rV(w:er)(b:Nat)(s:SV):(ly w b s).heap.size=w.heap.size:=by simp[ly,World.setCell]
def nm{s:SV}(h:Below m t w)(a:m<=k):Below m t (ly w k s):=
 (((h.setCell a _).setCell a _).setCell a _).setCell a _
def n7{a:Type}(l:List a)(k:Nat)(h:k<l.length):l.take (k+1)=l.take k++[l[k]]:=by rw[kM h]
def LJ(p:eu)(A:Nat)(a:List SV)(w:er)(T:a.length<=65536)(I:A<w.heap.size)(u:Xj w A a):
 Calls V.prog 193 #[.slice (some ⟨A,0,none⟩) a.length a.length,.func (.func 194) #[p] #[]] w λe m=>e=.returned (fg a).val/\Below w.heap.size w m:=by
 go_enter V.func193,Tryz.ntmps193;go_wp2
 go_loopw [10] (λi wr=>∃k:Nat,k<=a.length/\i=i64 k/\Below w.heap.size w wr/\w.heap.size+2<=wr.heap.size/\wr.heap[w.heap.size+1]? =some (gx (fg (a.take k)))/\
  wr.heap[w.heap.size]? =some (gx (fg []))) (λi _=>a.length-(intOf i).toNat)
 case atStart=>
  refine⟨0,iQ _,rfl,((Below.refl _ _).alloc (eF _) _).alloc (by simp) _,by simp,?_,?_⟩;have:=io (w.alloc (gx (fg []))) (gx (fg []));rw[World.size_alloc]at this;exact this;exact(alloc_old (w.alloc (gx (fg []))) _ (by simp)).trans (io _ _)
 case round=>
  obtain⟨k,U,rfl,n,J,l,o⟩:=hrel;by_cases f:k<a.length;obtain⟨W,X,Y,Z⟩:=(u k f).below n I;obtain⟨K,L,M,N,O,P,Q,R⟩:=gl l;have t:=Go.Lib.hid l;have q:=Go.Lib.hid o;clear l o u;have l1:w.heap.size+1<wr.heap.size:=by omega
  have l3:w.heap.size<wr.heap.size:=by omega
  have S:¬(w.heap.size+1=wr.heap.size):=by omega
  by_cases x:k=0
  ·subst x;go_wp2;go_roundw;case rel=>
    have r:=nk (s:=a[0]) t.out;have g:=(rr wr (w.heap.size+1) a[0] (c:=w.heap.size) (by omega)).trans q.out;have d:=rV wr (w.heap.size+1) a[0];refine⟨1,by omega,rfl,(nm n (nh _)).alloc (by rw[d];omega) _,by simp;omega,?_,?_⟩;refine(alloc_old (ly wr (w.heap.size+1) a[0]) _ (by rw[d];omega)).trans ?_;rw[r,n7 _ _ f];rfl;exact(alloc_old (ly wr (w.heap.size+1) a[0]) _ (by rw[d];omega)).trans g
   case measure=>simp[intOf];omega
  ·have D:((k:Int)==0)=false:=by simp;omega
   go_wp2_with (go_at_call 194;refine(IH _ a[k] (fg (a.take k)) _).mono ?_;rintro e m ⟨rfl,b⟩;obtain⟨hc,hf⟩:=CF b);all_goals
    go_roundw
   case rel=>
    have j:jW a[k] (fg (a.take k))=true:=by assumption
    have y:=(b.block (w.heap.size+1) (by simp;omega)).trans ((alloc_old wr _ (by omega)).trans t.out);have z:=(b.block w.heap.size (by simp;omega)).trans ((alloc_old wr _ (by omega)).trans q.out);have B:=b.size;rw[World.size_alloc]at B;have r:=nk (s:=a[k]) y;have g:=(rr m (w.heap.size+1) a[k] (c:=w.heap.size) (by omega)).trans z;have d:=rV m (w.heap.size+1) a[k];refine⟨k+1,by omega,by go_num,nm ((n.alloc (by omega) _).trans (b.mono (by simp;omega))) (nh _),(by show w.heap.size+2<=(ly m (w.heap.size+1) a[k]).heap.size;rw[d];omega),?_,g⟩;refine r.trans ?_;rw[n7 _ _ f,wM _ _ (λh=>by have:=eX List.length h;rw[tp,il]at this;omega),eC j]
   case measure=>simp[intOf];omega
   case rel=>
    have j:jW a[k] (fg (a.take k))=false:=by assumption
    have y:=(b.block (w.heap.size+1) (by simp;omega)).trans ((alloc_old wr _ (by omega)).trans t.out);have z:=(b.block w.heap.size (by simp;omega)).trans ((alloc_old wr _ (by omega)).trans q.out);have B:=b.size;rw[World.size_alloc]at B;refine⟨k+1,by omega,by go_num,(n.alloc (by omega) _).trans (b.mono (by simp;omega)),by omega,?_,z⟩;refine y.trans ?_;rw[n7 _ _ f,wM _ _ (λh=>by have:=eX List.length h;rw[tp,il]at this;omega),ez (by simp[j])]
   case measure=>simp[intOf];omega
  obtain⟨K,L,M,N,O,P,Q,R⟩:=gl l;obtain⟨r1,r2,r3,r4,g1,g2,g3,g4⟩:=gl o;have t:=Go.Lib.hid l;have q:=Go.Lib.hid o;clear l o u;have S:¬(w.heap.size+1=w.heap.size):=by omega
  go_wp2;have C:a.take k=a:=tu (by omega);have r:=nk (s:=fg (a.take k)) q.out;obtain⟨E,F,G,H,_⟩:=gl r;unfold ly at E F G H;refine bodyPost_ret (v:=(fg (a.take k)).val) (by simp[results,Tryz.results193,go_sem,E,F,G,H,SV.val]) rfl ⟨by rw[C],nm n (eF _)⟩
end Go.Proofs.W
namespace Go.eV
open Go.Conc
open Go.ConcN (sumTo upd sumTo_upd upd_ne upd_same)
section
variable{P:eE}{X:Nat->Prop}
structure F0(P:eE)(X:Nat->Prop)(gs:Array eA)(a:eA)(w:er)(t:Trace)(q:Nat->Nat):Prop where
 at0:gs[0]? =some a
 run:a.status=.running
 leavers:Leavers P t gs q
 past:Past (qu X) w.heap.size t
 low:∀b,X b->b<w.heap.size
def II{f l:eN}{n m:Nat}(j:∀b,f b\/l b->¬X b/\b<m)(o:∀c,X c->c<n){e:Event}(h:EvW f l n m e):EvL (qu X) m e:=by
 obtain⟨a,p,rfl,h⟩|⟨r,p,rfl,h⟩|rfl:=h;have g:¬X a.block/\a.block<m:=by obtain h|⟨_,h⟩|⟨q,k⟩:=h;exact j _ (.inl h);exact j _ (.inr h);exact⟨λd=>by have:=o _ d;omega,k⟩
 refine⟨λx d i=>?_,by simp,by simp,g.2⟩;simp only[MemAct.ofEvent,MemAct.touch?,iz]at d;subst d;exact absurd i g.1;have g:¬X r/\r<m:=by obtain h|⟨q,k⟩:=h;exact j _ (.inl h);exact⟨λd=>by have:=o _ d;omega,k⟩
 refine⟨λx d i=>?_,by simp,by simp,by simpa[MemAct.ofEvent,MemAct.low,Loc.low]using g.2⟩;simp only[MemAct.ofEvent,MemAct.touch?,iz]at d;subst d;exact absurd i g.1;refine⟨λx d i=>?_,by simp,by simp,trivial⟩;simp[MemAct.ofEvent,MemAct.touch?]at d
def F0.pick{c:Array eA}{t:Trace}{q:Nat->Nat}(h:F0 P X c Z w t q)(sl:Option (Nat×Nat)):(∃d a,stepT P (crowd c w sl)=runT P (crowd c (w.at d) a) 0)\/∃d a m u M,stepT P (crowd c w sl)=(.next (crowd m (w.at d) a),u)/\F0 P X m Z (w.at d) (t++u) M/\sumTo m.size M+1=sumTo c.size q:=by
 have b:=h.run;have G:=h.at0;have C:=h.leavers;have H:∀g∈c,awake g:=by
  intro g r;obtain⟨i,s,rfl⟩:=Array.mem_iff_getElem.1 r;obtain rfl|f:=ri i;have:c[0]=Z:=by simpa[lA s]using G
  rw[this];exact awake_of (.inl b);exact awake_of ((C.old i _ f (lA s)).status.elim .inl λx=>.inr (.inr x))
 obtain⟨i,g,d,a,s,r,v⟩:=crowd_pick (P:=P) (w:=w) (sl:=sl) H ⟨0,Z,G,b⟩;obtain rfl|f:=ri i;exact .inl ⟨d,a,v⟩;have D:=C.old i g f s;have I:(i==0)=false:=by simp;omega
 have z:i<c.size:=(ik.1 s).1;cases n:q i with
 |zero=>rw[n]at D;rw[D.1]at r;cases r
 |succ k=>
  rw[n]at D;obtain⟨O,_⟩|⟨_,g',Q,R,A,J⟩:=D;rw[O]at r;cases r;have o:=runT_crowd_go (P:=P) (sl:=a) (i:=i) s (by rw[I];exact A (w.at d));have K:((c.map (woken P g g' (w.at d))).setIfInBounds i g').size=c.size:=by simp
  have N:sumTo c.size (upd q i k)+(k+1)=sumTo c.size q+k:=by have:=sumTo_upd q k id z;simpa[n]using this
  refine .inr ⟨d,a,_,_,upd q i k,v.trans o,⟨?_,b,⟨λj x E F=>?_,λj E=>?_⟩,h.past.mute (by omega) R,h.low⟩,by rw[K];omega⟩;have L:i≠0:=by omega
  rw[gm L,tk,G];simp[woken_run b];by_cases l:i=j;subst l;rw[mG (by simpa using z)]at F;obtain rfl:=eP F;rw[upd_same,Deaf_own];exact J;rw[gm l,tk]at F;obtain⟨y,S,rfl⟩:=jo.1 F;have B:=C.old j y E S;rw[woken_quitsD B,upd_ne q k (jb l),Deaf_other t l _ (λT p=>by obtain⟨e,_,rfl⟩:=Go.Conc.mem_ofEvents p;rfl)];exact B;rw[Deaf_other t (g:=j) (g':=i) (by simp at E;omega) (MemOp.ofEvents i g.frame.fn g.frame.place Q) (λT p=>by obtain⟨e,_,rfl⟩:=Go.Conc.mem_ofEvents p;rfl)];exact C.above j (by simpa using E)
structure Ay(own:Nat->Prop)(w:er)(own':Nat->Prop)(w':er):Prop where
 tape:w'.tape=w.tape
 os:w'.os=w.os
 output:w'.output=w.output
 size:w.heap.size<=w'.heap.size
 heap:∀b,b<w.heap.size->¬own b->w'.heap[b]? =w.heap[b]?
 new:∀b,own' b->own b\/(w.heap.size<=b/\b<w'.heap.size)
 keep:∀b,own b->own' b
def Ay.refl(a:eN)(w:er)(d:Nat):Ay a w a (w.at d):=⟨rfl,rfl,rfl,eF _,λ_ _ _=>rfl,λ_ h=>.inl h,λ_ h=>h⟩
theorem Ay.trans{c d f:eN}(h:Ay c w d t)(k:Ay d t f e):Ay c w f e:=
 ⟨k.tape.trans h.tape,k.os.trans h.os,k.output.trans h.output,ff h.size k.size,λb a g=>(k.heap b (fN a h.size) λi=>(h.new b i).elim g λx=>by omega).trans (h.heap b a g),
  λb a=>(k.new b a).elim (λx=>(h.new b x).imp id λy=>⟨y.1,fN y.2 k.size⟩) λx=>.inr ⟨ff h.size x.1,x.2⟩,λb a=>k.keep b (h.keep b a)⟩
def F0.step{u:Array eA}{a o:eA}{w l:er}{t:Trace}{q:Nat->Nat}{own rd i:eN}{p:Array Event}{d:Nat}(h:F0 P X u a w t q)(n:∀b,own b\/rd b->¬X b/\b<w.heap.size) (e:stepG P true a (w.at d)=.go o l p)(m:Np own rd (w.at d) l p i)(E:o.status=.running):F0 P X ((u.map (woken P a o l)).setIfInBounds 0 o) o l (t++MemOp.ofEvents 0 a.frame.fn a.frame.place p) q/\∀b,i b\/rd b->¬X b/\b<l.heap.size:=by
 have f:w.heap.size<=l.heap.size:=m.size;have v:0<u.size:=(ik.1 h.at0).1;refine⟨⟨by simp[v],E,⟨λj x r s=>?_,λj r=>?_⟩,(h.past.mono f).own λe F=>II (λb c=>⟨(n b c).1,fN (n b c).2 f⟩) h.low (m.evs e F),λb c=>fN (h.low b c) f⟩,λb c=>?_⟩;have z:0≠j:=by omega
 rw[gm z,tk]at s;obtain⟨y,G,rfl⟩:=jo.1 s;have C:=h.leavers.old j y r G;rw[woken_quitsD C,Deaf_other t (by omega) _ (λH k=>by obtain⟨e,_,rfl⟩:=Go.Conc.mem_ofEvents k;rfl)];exact C;rw[Deaf_other t (g:=j) (g':=0) (by simp at r;omega) (MemOp.ofEvents 0 a.frame.fn a.frame.place p) (λH k=>by obtain⟨e,_,rfl⟩:=Go.Conc.mem_ofEvents k;rfl)];exact h.leavers.above j (by simpa using r);obtain c|c:=c;obtain c|⟨A,B⟩:=(m.owns b).1 c;exact⟨(n b (.inl c)).1,fN (n b (.inl c)).2 f⟩;have D:w.heap.size<=b:=A;exact⟨λs=>by have:=h.low b s;omega,B⟩;exact⟨(n b (.inr c)).1,fN (n b (.inr c)).2 f⟩
def vO{rd:eN}{L:fa}(E:∀w d,L w->L (w.at d)){k:(eN)->eA->fa}(G:∀o g w,k o g w->g.status=.running):∀{H:WT} {own:eN} {a:eA} {w:er},Way P true rd L k H own a w->∀(r:Array eA) (sl:Option (Nat×Nat)) (t:Trace) (q:Nat->Nat),F0 P X r a w t q->(∀b,own b\/rd b->¬X b/\b<w.heap.size)->∃(N:Nat) (l:Array eA) (s:er) (c:Option (Nat×Nat)) (I:Trace) (F:Nat->Nat) (j:eN) (J:eA),runNT P N (crowd r w sl) t=(.next (crowd l s c),I)/\F0 P X l J s I F/\k j J s/\Ay own w j s/\∀b,j b\/rd b->¬X b/\b<s.heap.size:=by
 intro H own a w hw;induction hw with
 | @here H own a w h=>
  intro r sl t q u z;exact⟨0,r,w,sl,t,q,own,a,rfl,u,h w (.refl _ _ _ _),Ay.refl own w w.drawn,z⟩
 | @step f own a w hs h1 h2 ih=>
  have p:∀{own a w} {H},Way P true rd L k H own a w->a.status=.running:=λh=>by
   cases h with
   |here h=>exact G _ _ _ (h _ (.refl _ _ _ _))
   |step hs _ _=>exact hs
  have K:∀(M:Nat) (r:Array eA) (A:Nat) (sl:Option (Nat×Nat)) (t:Trace) (q:Nat->Nat),sumTo r.size q<=M->F0 P X r a (w.at A) t q->(∀b,own b\/rd b->¬X b/\b<w.mN)->∃(N:Nat) (l:Array eA) (s:er) (c:Option (Nat×Nat)) (I:Trace) (F:Nat->Nat) (j:eN) (J:eA),runNT P N (crowd r (w.at A) sl) t=(.next (crowd l s c),I)/\F0 P X l J s I F/\k j J s/\Ay own w j s/\∀b,j b\/rd b->¬X b/\b<s.mN:=by
   intro M;induction M with
   |zero=>
    intro r A sl t q hM u z;obtain⟨d,c,v⟩|⟨d,c,l,O,F,_,_,Q⟩:=u.pick sl;obtain⟨a1,w1,es,R,e,m⟩:=h1 (w.at d) (gd.at own rd E w d);have S:stepG P true a ((w.at A).at d)=.go a1 w1 es:=e;obtain⟨B,C⟩:=u.step (own:=own) (rd:=rd) z S m (p (h2 _ _ _ _ _ (gd.at own rd E w d) e m));obtain⟨N,x,T,y,U,V,n,W,Y,Z,r3,r4,r5⟩:=ih _ _ _ _ _ (gd.at own rd E w d) e m _ c _ q B C;have hr:=v.trans (runT_crowd_go (P:=P) (sl:=c) (i:=0) u.at0 (show stepG P (0==0) a ((w.at A).at d)=_ from S));refine⟨1+N,x,T,y,U,V,n,W,runNT_add (nj hr) Y,Z,r3,Ay.trans ⟨m.tape,m.os,m.output,m.size,m.same,λb D=>(m.owns b).1 D,λb D=>(m.owns b).2 (.inl D)⟩ r4,r5⟩;omega
   |succ M aa=>
    intro r A sl t q hM u z;obtain⟨d,c,v⟩|⟨d,c,l,O,F,v,ab,Q⟩:=u.pick sl;obtain⟨a1,w1,es,R,e,m⟩:=h1 (w.at d) (gd.at own rd E w d);have S:stepG P true a ((w.at A).at d)=.go a1 w1 es:=e;obtain⟨B,C⟩:=u.step (own:=own) (rd:=rd) z S m (p (h2 _ _ _ _ _ (gd.at own rd E w d) e m));obtain⟨N,x,T,y,U,V,n,W,Y,Z,r3,r4,r5⟩:=ih _ _ _ _ _ (gd.at own rd E w d) e m _ c _ q B C;have hr:=v.trans (runT_crowd_go (P:=P) (sl:=c) (i:=0) u.at0 (show stepG P (0==0) a ((w.at A).at d)=_ from S));refine⟨1+N,x,T,y,U,V,n,W,runNT_add (nj hr) Y,Z,r3,Ay.trans ⟨m.tape,m.os,m.output,m.size,m.same,λb D=>(m.owns b).1 D,λb D=>(m.owns b).2 (.inl D)⟩ r4,r5⟩;obtain⟨N,x,T,y,U,V,n,W,Y,Z,r3,r4,r5⟩:=aa l d c (t++O) F (by omega) ab z;exact⟨1+N,x,T,y,U,V,n,W,runNT_add (nj v) Y,Z,r3,r4,r5⟩
  intro r sl t q u z;exact K _ r w.drawn sl t q (eF _) u z
end
end Go.eV
namespace Go.eV
open Go
def lX(z:eu):Bool:=z.cells.all (gR 2)&&gR 3 z
theorem CG{g c:Type}(I:c->Prop)(f:g->c->Option (ForInStep c))(i:∀a b s,I b->f a b=some s->I s.value):∀(l:List g) (init:c),I init->∀r,forIn l init f=some r->I r
 |[],init,d,r,h=>by simp at h;exact h▸d
 |a::l,init,d,r,h=>by
  rw[List.forIn_cons]at h;cases e:f a init with
  |none=>rw[e]at h;cases h
  |some s=>
   rw[e]at h;have:=i a init s d e;cases s with
   |done b=>simp at h;exact h▸this
   |yield b=>exact CG I f i l b this r h
def D8{info:eD->Option TypeInfo}(h:∀t i z,info t=some i->i.zero=some z->lX z=true)(d:TypeDesc)(i:TypeInfo)(z:eu)(a:Made.reckon info d=some i)(q:i.zero=some z):lX z=true:=by
 have m:∀(d:TypeDesc) (s:String) (u:eu) (b:Bool) (n:Nat),lX u=true->Made.word d s u b n=i->lX z=true:=λd s u b n D e=>by subst e;have:some u=some z:=q;cases this;exact D
 cases d with
 |pointer e=>
  simp only[Made.reckon,rK,kI]at a;obtain⟨j,_,a⟩:=a;split at a;cases a;split at a;cases a;simp only[kI]at a;obtain⟨s,_,a⟩:=a;exact m _ _ _ _ _ (by simp[lX,gR,Value.cells]) (eP a);simp only[kI]at a;obtain⟨s,_,a⟩:=a;exact m _ _ _ _ _ (by simp[lX,gR,Value.cells]) (eP a)
 |slice e=>
  simp only[Made.reckon,rK,kI]at a;obtain⟨j,_,s,_,a⟩:=a;exact m _ _ _ _ _ (by simp[lX,gR,Value.cells]) (eP a)
 |map k e=>
  simp only[Made.reckon,rK,kI]at a;obtain⟨j,_,s,_,M,_,N,_,a⟩:=a;exact m _ _ _ _ _ (by simp[lX,gR,Value.cells]) (eP a)
 |chan d e=>
  simp only[Made.reckon,rK,kI]at a;obtain⟨j,_,s,_,a⟩:=a;cases d<;>exact m _ _ _ _ _ (by simp[lX,gR,Value.cells]) (eP a)
 |func O P v=>
  simp only[Made.reckon,rK,kI]at a;obtain⟨s,_,a⟩:=a;exact m _ _ _ _ _ (by simp[lX,gR,Value.cells]) (eP a)
 |array n e=>
  simp only[Made.reckon,rK,kI]at a;obtain⟨j,E,s,_,a⟩:=a;have a:=eP a;subst a;simp only at q;split at q;cases q;split at q;cases q;simp[lX,gR,Value.cells];obtain⟨y,A,rfl⟩:=jo.1 q;have:=h e j y E A;simp only[lX,fE,xE]at this;have p:((Array.replicate n y.cells).flatten).all (gR 2)=true:=by simp only[xE,Array.mem_flatten];rintro x ⟨o,g,w⟩;rw[Array.eq_of_mem_replicate g]at w;exact this.1 x w
  have F:gR 3 (.agg (Array.replicate n y.cells).flatten)=(Array.replicate n y.cells).flatten.all (gR 2):=rfl;show((Array.replicate n y.cells).flatten.all (gR 2)&&gR 3 (.agg (Array.replicate n y.cells).flatten))=true;rw[F,p];rfl
 |struct G=>
  simp only[Made.reckon,Made.reckonStruct]at a;obtain⟨H,r,a⟩:=kI.1 a;rw[<-Nu]at r;have I:=CG (λb:Array Field×Nat×Nat×Nat×Nat×Bool×Bool×Option fZ×String=>∀o,b.2.2.2.2.2.2.2.1=some o->o.all (gR 2)=true) _ ?_ G.toList _ ?_ H r
  ·split at a;all_goals
    simp only[rK,Option.pure_def,iz,tv]at a;subst a;simp only at q;obtain⟨o,g,rfl⟩:=jo.1 q;have p:=I o g;show(o.all (gR 2)&&o.all (gR 2))=true;rw[p];rfl
  rintro f b s J l;simp only[rK,kI]at l;obtain⟨i,a,l⟩:=l;have B:∀(c:Nat) o,(if c>Made.mostCells then none else do pure ((<-b.2.2.2.2.2.2.2.1)++(<-i.zero).cells))=some o->o.all (gR 2)=true:=by intro c o g;split at g;cases g;simp only[rK,kI]at g;obtain⟨x,w,y,A,g⟩:=g;have g:=eP g;subst g;have K:=J x w;have C:=h f.type i y a A;simp only[lX,fE]at C;rw[Array.all_append,K,C.1];rfl
  split at l;simp only[kI]at l;obtain⟨_,l,_⟩:=l;cases l;split at l;simp only[kI]at l;obtain⟨_,l,_⟩:=l;cases l
  ·split at l;all_goals
    simp only[kI]at l;obtain⟨L,_,l⟩:=l;split at l;all_goals
     have l:=eP l;subst l;exact B _
  intro o g;cases g;simp
 |_=>cases a
def IJ{T:Tables}(h:∀(t:Nat) (i:TypeInfo) (z:eu),T.types[t]? =some i->i.zero=some z->lX z=true):∀(t:eD) (i:TypeInfo) (z:eu),T.info? t=some i->i.zero=some z->gR 3 z=true:=by
 have c:∀(f:Nat) (t:eD) (i:TypeInfo) (z:eu),Made.infoAt T f t=some i->i.zero=some z->lX z=true:=by
  intro f;induction f with
  |zero=>intro t i z a _;cases a
  |succ f e=>
   intro t i z a b;simp only[Made.infoAt]at a;split at a;exact h t i z a b;obtain⟨d,_,a⟩:=kI.1 a;exact D8 e d i z a b
 intro t i z a b;have:lX z=true:=by unfold Tables.info? at a;split at a;exact h t i z a b;exact c _ t i z a b
 simp only[lX,fE]at this;exact this.2
end Go.eV
namespace Go.Proofs.W
open Go Go.eV
noncomputable def okF(L:ew)(a:Bool)(d:Nat->Bool)(f:Nat):Bool:=match V.prog.funcs[f]? with
 |some b=>match b.body with
  |some c=>jI V.prog (λg=>L.contains g) a (d f) c&&!(b.name== "runtime.NumGoroutine")
  |none=>false
 |none=>false
def wN{b:Nat->Bool}(h:l.all (okF l D b)=true)(f:Nat)(d:l.contains f=true):
 ∃a c,V.prog.funcs[f]? =some a/\a.body=some c/\jI V.prog (λg=>l.contains g) D (b f) c=true/\(a.name== "runtime.NumGoroutine")=false:=by
 have:=mO.1 h f (by simpa using d);unfold okF at this;split at this;rename_i a e;split at this;rename_i c i;simp only[fE,tl]at this;exact⟨a,c,e,i,this.1,this.2⟩;cases this;cases this
def V.Od(P:eE)(f:Nat)(x:Func)(n:Nat)(h:f≠n):(V.sub P (P.funcs.setIfInBounds n x)).funcs[f]? =P.funcs[f]? :=by show(P.funcs.setIfInBounds n x)[f]? =P.funcs[f]?;rw[gm (jb h)]
def V.zK(f:Nat)(h:f≠163):V.prog.funcs[f]? =PR.funcs[f]? :=V.Od Tryz.prog f V.f163 163 h
noncomputable def W4(t:Nat):Bool:=match Tryz.prog.types[t]? with
 |some i=>match i.zero with
  |some a=>lX a
  |none=>true
 |none=>true
def U1:(List.range 291).all W4=true:=by kernel_rfl
theorem V.zero(t:eD)(i:TypeInfo)(z:eu)(a:V.prog.info? t=some i)(c:i.zero=some z):gR 3 z=true:=by rw[V.JW]at a;refine IJ (T:=Tryz.prog.toTables) (λt i z a c=>?_) t i z a c;have b:t<Tryz.prog.types.size:=(ik.1 a).1;rw[Tryz.types_size]at b;have:=mO.1 U1 t (fT.2 b);unfold W4 at this;rw[a]at this;simp only[c]at this;exact this
def V.F1:V.prog.globals.size=0:=by rw[show V.prog.globals=Tryz.prog.globals from eX Tables.globals V.Ct,Tryz.globals_size]
def CH(P:eE):5<=P.depth:=by have h:P.depth=2*(P.types.size+100)+2:=rfl;omega
def _root_.Go.eV.JU.obj{m:Option Nat}(h:JU R m O Q)(a:m=none):mq R O Q:=by obtain⟨_,h⟩|⟨n,e,_⟩:=h;exact h;rw[a]at e;cases e
def V.bad:V.prog.info? vJ=none:=by kernel_rfl
def V.fit{a:Nat->Bool}(h:l.all (okF l D a)=true):Fit V.prog (λg=>l.contains g) D:=
 ⟨V.zero,λf b=>by obtain⟨d,c,e,i,_,j⟩:=wN h f b;exact⟨d,c,e,j,i⟩,V.F1,CH _,V.bad⟩
noncomputable def ry(L:ew)(df:Nat->Bool)(B:eN):fj where
 S:=λg=>L.contains g
 dim:=true
 ok:=λf=>jI V.prog (λg=>L.contains g) true (df f)
 df:=df
 fs:=PR.funcs
 hole:=λ_=>false
 r:=λb c=>b=c/\B b
 oK:=λ_ _ _ h a=>h.1.symm.trans a.1
 qI:=λ_ _ _ h a=>.inl (h.1.trans a.1.symm)
def CI{k:Nat->Bool}(h:l.all (okF l true k)=true)(d:¬l.contains 163=true):Go.eV.Good V.prog (ry l k B):=by refine⟨V.fit h,rfl,λf a _=>?_,⟨λf a=>?_⟩,λ_ _=>rfl⟩;obtain⟨g,c,b,i,m,_⟩:=wN h f a;exact⟨g,c,b,i,m⟩;obtain⟨g,c,b,i,_,n⟩:=wN h f a;have j:f≠163:=λe=>d (by subst e;exact a);exact⟨g,c,(V.zK f j).symm.trans b,n,i,λ_=>b⟩
def Ra(P Q:eE)(h:Q.toTables=P.toTables):Q.ki P.funcs=P:=by cases P;cases Q;simp only at h;subst h;rfl
def Rb:V.prog.ki PR.funcs=PR:=Ra Tryz.prog V.prog V.Ct
end Go.Proofs.W
namespace Go.Proofs.W
open Go.Conc Go.eV Go.eV.Cr Go.eV.Wg Go.RowKit Go.Conc.Lib Go.ConcR.Gen
open Go.ConcR (KK wgBlock WgAt stA smA mk DC0)
structure KO(bl:List (Nat×Obj))(Q:er->Prop)(m0:Nat)(w:er):Prop where
 at_:∀x∈bl,w.heap[x.1]? =some x.2
 inc:(bl.map (·.1)).Pairwise (·>·)
 lo:∀x∈bl,m0<=x.1
 sz:m0<=w.heap.size
 q:Q w
section
variable{P:eE}{ty:eD}{Wg:Nat}{main:Bool}{own rd:Nat->Prop}{S:jV}{Q:er->Prop}{m0:Nat}{bl:List (Nat×Obj)}{g:eA} {b:Frame}{a:Act}{k:List Item}{cs:List Frame}{ops:Array Oper}{i:Nat}{rest:List Nat}{o:Oper}{v:eu}
theorem KO.rely{L:fa}(a:∀x∈bl,own x.1)(d:zr rd Q):qi own rd L (KO bl Q m0):=λ_ _ b h=>
 ⟨λx c=>b.obj (.inl (a x c)) (h.at_ x c),h.inc,h.lo,ff h.sz b.size,d.rely b h.q⟩
theorem WK.IK{ob:Obj}{f:Nat->eu}(g:∀x∈bl,own x.1)(r:zr rd Q)(v:ops[i]? =some o)(z:Region.wanted o (yielded ops a.tmps)=true)(A:b.kind≠ .early) (B:∀w,KO bl Q m0 w->(execOp a.eval o).run P w=.ok (.value (f w.heap.size)) {w with heap:=w.heap.push ob})
 (C:∀w,KO bl Q m0 w->∀e∈(execOp a.eval o).events P w #[],EvW own rd w.heap.size (w.heap.size+1) e) (D:∀c,(∀x∈bl,x.1<c)->m0<=c->WK P ty Wg main rd S (λx=>own x\/x=c) (KO ((c,ob)::bl) Q m0) (G (b.at (a.put o.dst (f c)) (.inRegion ops rest::k)) cs)):
 WK P ty Wg main rd S own (KO bl Q m0) (G (b.at a (.inRegion ops (i::rest)::k)) cs):=by
 refine WK.new (f:=f) (ob:=ob) (KO.rely g r) v z A B C λc=>?_;rintro w ⟨l,m,rfl,n⟩;have p:∀x∈bl,x.1<l.mN:=λx d=>lt_of_heap (m.at_ x d)
 have j:gd (λx=>own x\/x=l.mN) rd (Lv ty Wg) l {l with heap:=l.heap.push ob}:=⟨rfl,rfl,rfl,by simp,λb F _=>by
  show(l.heap.push ob)[b]? =_;rw[pA];split;omega;rfl,λh=>by
  obtain⟨s,t,h⟩:=h;refine⟨s,t,?_⟩;have u:l.heap[Wg]? =some (wgBlock ty s t):=h;show(l.heap.push ob)[Wg]? =_;rw[pA];split;have:=lt_of_heap u;omega;exact u⟩
 refine D l.mN p m.sz w (KO.rely (λx d=>?_) r _ _ n ⟨λx d=>?_,?_,λx d=>?_,?_,r.rely j m.q⟩);obtain rfl|d:=gI.1 d;exact .inr rfl;exact .inl (g x d);obtain rfl|d:=gI.1 d;simp;exact j.obj (.inl (.inl (g x d))) (m.at_ x d);simp only[lK,List.pairwise_cons];exact⟨λy E=>by obtain⟨x,d,rfl⟩:=iX.1 E;exact p x d,m.inc⟩;obtain rfl|d:=gI.1 d;exact m.sz;exact m.lo x d;have:=m.sz;simp;omega
theorem WK.Oe{pre:List (Nat×Obj)}{c:Nat}{ob ob':Obj}(g:∀x∈pre++(c,ob)::bl,own x.1)(r:zr rd Q)(s:∀b,own b->¬rd b)(u:ops[i]? =some o)(v:Region.wanted o (yielded ops a.tmps)=true)(y:b.kind≠ .early) (z:∀w,KO (pre++(c,ob)::bl) Q m0 w->∃j,(execOp a.eval o).run P w=.ok .skip j/\j.tape=w.tape/\j.os=w.os/\j.output=w.output/\j.heap.size=w.heap.size/\(∀d,d≠c->j.heap[d]? =w.heap[d]?)/\j.heap[c]? =some ob') (A:∀w,KO (pre++(c,ob)::bl) Q m0 w->∀e∈(execOp a.eval o).events P w #[],EvW own rd w.heap.size w.heap.size e) (B:WK P ty Wg main rd S own (KO (pre++(c,ob')::bl) Q m0) (G (b.at (a.put o.dst undef) (.inRegion ops rest::k)) cs)):WK P ty Wg main rd S own (KO (pre++(c,ob)::bl) Q m0) (G (b.at a (.inRegion ops (i::rest)::k)) cs):=by
 refine WK.write (bl:=c) (W:=λ_ j=>j.heap[c]? =some ob') (KO.rely g r) u v y (g (c,ob) (by simp)) (λw m=>?_) A ?_;obtain⟨j,C,D,E,F,H,I,J⟩:=z w m;exact⟨j,C,D,E,F,H,I,J⟩;refine WK.mono B ?_;rintro w ⟨K,L,m,M,t,l,p⟩;have n:∀x∈pre++(c,ob')::bl,own x.1:=λx f=>by obtain f|f:=ja.1 f;exact g x (ja.2 (.inl f));obtain rfl|f:=gI.1 f;exact g (c,ob) (by simp);exact g x (by simp[f])
 have h:=m.inc;simp only[nS,lK,List.pairwise_append,List.pairwise_cons]at h;refine KO.rely n r _ _ p ⟨λx f=>?_,?_,λx f=>?_,?_,?_⟩;obtain f|f:=ja.1 f;have:x.1>c:=h.2.2 x.1 (iX.2 ⟨x,f,rfl⟩) c (by simp);rw[l _ (by omega)];exact m.at_ x (ja.2 (.inl f));obtain rfl|f:=gI.1 f;exact M;have:c>x.1:=h.2.1.1 x.1 (iX.2 ⟨x,f,rfl⟩);rw[l _ (by omega)];exact m.at_ x (by simp[f]);simp only[nS,lK,List.pairwise_append,List.pairwise_cons];exact h;obtain f|f:=ja.1 f;exact m.lo x (ja.2 (.inl f));obtain rfl|f:=gI.1 f;exact m.lo (c,ob) (by simp);exact m.lo x (by simp[f]);rw[t];exact m.sz;refine r K L (by rw[t];exact eF _) (λb _ N=>l b λe=>?_) m.q;subst e;exact s b (g (b,ob) (by simp)) N
end
end Go.Proofs.W
namespace Go.Proofs.W
open Go.Conc Go.eV Go.eV.Cr Go.eV.Wg Go.RowKit Go.Conc.Lib Go.ConcR.Gen
open Go.ConcN Go.ConcN.Gen
open Go.ConcR (KK wgBlock WgAt stA smA mk DC0)
noncomputable def F2:Code:=(Go.Code.cond (Go.Operand.tmp 40) Go.Code.skip (Go.Code.exit 2)).seq (Go.Code.block 3 ((Go.Code.region 15 xO false).seq (Go.Code.region 16 xP false)))
structure LK where
 (x5 Xk x24 x25 x26 x27 x28 Xl Xm Xn Xo Xp Xq Xr Xs Xt:eu)
noncomputable def CJ(e:tO)(m:LK)(k l o p n A:Nat)(q a b c d f g h i j:eu):Act:=
 Av e k l o n m.x5 (.slice (some ⟨A,0,none⟩) n n) q m.Xk m.x24 m.x25 m.x26 m.x27 m.x28 m.Xl m.Xm m.Xn m.Xo m.Xp m.Xq m.Xr m.Xs m.Xt (.chan (some p)) a b c d f g h i j
structure KB(Wg lc:Nat)(rd own:Nat->Prop)(K0:er->Prop)(lv:Array eu)(w:er):Prop where
 was:∃w0,K0 w0/\lc=w0.heap.size/\w0.heap.size<=w.heap.size/\∀x,x<w0.heap.size->own x\/rd x->w.heap[x]? =w0.heap[x]?
 live:Lv 241 Wg w
 l:w.heap[lc]? =some (.cells lv 247)
def KB.rely{rd own:eN}:qi (λx=>own x\/x=k) rd (Lv 241 m) (KB m k rd own S W):=λw j a h=>by obtain⟨c,d,e,f,g⟩:=h.was;exact⟨⟨c,d,e,ff f a.size,λx i b=>(a.heap x (by omega) (b.imp .inl id)).trans (g x i b)⟩,a.live h.live,a.obj (.inl (.inr rfl)) h.l⟩
def LL{e:tO}{m:LK}{M N Wg Ch n pb A i:Nat}{Q:fa}{D own:eN}{J:Nat->(eN)->er->eu->Prop}{S:jV}{Sb:Nat->Bool}{cs:List Frame}(hn:n<=65536)(hi:i<n)(ai:own A)(h1:D M)(h3:D N)(hQ:tP D Q)(hP:Ax J) {sa:fR}{sl sc:Nat}{mm k:Int}{b:Bool} (x7 Y Z aa ab ac ad ae af:eu) (ag:∀own' x7 am Y Z aa ab ac ad ae af,WK PR 241 Wg true D S own' (KR M N Wg Ch A pb n D Q J own' (upd Sb i true)) (G (nc.at (CJ e m M N Wg Ch n A x7 am Y Z aa ab ac ad ae af) [.code qy,.inLoop qy,.inBlock 2,.code nI]) cs)):
 WK PR 241 Wg true D S own (λw=>KR M N Wg Ch A pb n D Q J own Sb w/\∃H,(∀x,H x->own x/\x≠A/\x<w.heap.size)/\J i H w (pO sa sl sc mm k b))
  (G (nc.at (CJ e m M N Wg Ch n A x7 (.tuple #[D6 i sa sl sc mm k b,.bool true]) Y Z aa ab ac ad ae af) [.inRegion n6 [1],.code F2,.inLoop qy,.inBlock 2,.code nI]) cs):=by
 have C:qi own D (Lv 241 Wg) (λw=>KR M N Wg Ch A pb n D Q J own Sb w/\∃H,(∀x,H x->own x/\x≠A/\x<w.heap.size)/\J i H w (pO sa sl sc mm k b)):=λw w1 I h=>⟨KR.rely h1 h3 hQ hP w w1 I h.1,h.2.imp λH h=>⟨λx z=>⟨(h.1 x z).1,(h.1 x z).2.1,fN (h.1 x z).2.2 I.size⟩,hP _ _ _ _ _ (λx z=>I.heap x (h.1 x z).2.2 (.inl (h.1 x z).1)) h.2⟩⟩;have K:∀d lv,qi (λx=>own x\/x=d) D (Lv 241 Wg) (KB Wg d D own (λw=>KR M N Wg Ch A pb n D Q J own Sb w/\∃H,(∀x,H x->own x/\x≠A/\x<w.heap.size)/\J i H w (pO sa sl sc mm k b)) lv):=λ_ _=>KB.rely;simp only[n6,CJ,Av];refine WK.val (v:=?_) C rfl rfl (by k_ne) (λw=>?_) (λw=>?_) ?_;rotate_left;go_simp;rfl;go_simp;walk_nrm;refine WK.ctl C rfl (λ_=>eI)<|WK.ctl C rfl (λ_=>eM)<|WK.ctl C rfl (λ_=>stepG_cond (t:=true) rfl) ?_;simp only[fF];refine WK.ctl C rfl (λ_=>gX)<|WK.ctl C rfl (λ_=>tw)<|WK.ctl C rfl (λ_=>eM)<|WK.ctl C rfl (λ_=>jp) ?_;simp only[xO,jw,gf,il,Nat.reduceAdd,eJ,List.range,List.range.loop];refine WK.val (v:=?_) C rfl rfl (by k_ne) (λw=>?_) (λw=>?_) ?_;rotate_left;go_simp;rfl;go_simp;walk_nrm;refine WK.new (f:=λn=>fp n) (ob:=.cells #[i64 0,ig,i64 0,i64 0,.bool false] 247) C rfl rfl (by k_ne) (λw q=>?_) (λw q e o=>?_) (λd=>?_)
 ·go_simp;first|done|rfl
 simp[go_sem]at o;refine WK.mono (K':=KB Wg d D own (λw=>KR M N Wg Ch A pb n D Q J own Sb w/\∃H,(∀x,H x->own x/\x≠A/\x<w.heap.size)/\J i H w (pO sa sl sc mm k b)) #[i64 0,ig,i64 0,i64 0,.bool false]) ?_ ?_;rotate_left;rintro w ⟨P,q,rfl,I⟩;refine K _ _ _ _ I ⟨⟨P,q,rfl,by simp,λx z _=>?_⟩,uO q.1.s.live,by simp⟩;show(P.heap.push _)[x]? =_;rw[pA];split;omega;rfl;walk_nrm;refine WK.write (bl:=d) (W:=λ_ w'=>w'.heap[d]? =some (.cells #[i64 i,.slice sa sl sc,i64 mm,i64 k,.bool b] 247)) (K _ _) rfl rfl (by k_ne) (.inr rfl) (λw q=>?_) (λw q e o=>?_) ?_;have g:=q.l;have c0:w.cell? (eQ d 0)=some (i64 0):=by simp[World.cell?,g]
 have f0:w.frozen? (eQ d 0)=false:=by simp[World.frozen?,g]
 have R:w.cell? (eQ d 1)=some ig:=by simp[World.cell?,g]
 have f1:w.frozen? (eQ d 1)=false:=by simp[World.frozen?,g]
 have T:w.cell? (eQ d 2)=some (i64 0):=by simp[World.cell?,g]
 have f2:w.frozen? (eQ d 2)=false:=by simp[World.frozen?,g]
 have U:w.cell? (eQ d 3)=some (i64 0):=by simp[World.cell?,g]
 have f3:w.frozen? (eQ d 3)=false:=by simp[World.frozen?,g]
 have c4:w.cell? (eQ d 4)=some (.bool false):=by simp[World.cell?,g]
 have f4:w.frozen? (eQ d 4)=false:=by simp[World.frozen?,g]
 simp only[D6];go_simp;refine⟨by simp[World.setCell],by simp[World.setCell],λc ah=>?_,?_⟩;simp[World.setCell,oP,jb ah];simp[World.setCell,oP,g];have g:=q.l;have c0:w.cell? (eQ d 0)=some (i64 0):=by simp[World.cell?,g]
 have f0:w.frozen? (eQ d 0)=false:=by simp[World.frozen?,g]
 have R:w.cell? (eQ d 1)=some ig:=by simp[World.cell?,g]
 have f1:w.frozen? (eQ d 1)=false:=by simp[World.frozen?,g]
 have T:w.cell? (eQ d 2)=some (i64 0):=by simp[World.cell?,g]
 have f2:w.frozen? (eQ d 2)=false:=by simp[World.frozen?,g]
 have U:w.cell? (eQ d 3)=some (i64 0):=by simp[World.cell?,g]
 have f3:w.frozen? (eQ d 3)=false:=by simp[World.frozen?,g]
 have c4:w.cell? (eQ d 4)=some (.bool false):=by simp[World.cell?,g]
 have f4:w.frozen? (eQ d 4)=false:=by simp[World.frozen?,g]
 simp only[D6]at o;have B:∀(w:er) (B:Array Event) (a:Addr) (m:Mode) (x:fR) (l c:Nat),(store a (.slice x l c) m).events PR w B=storedEv PR w B a (.slice x l c) m:=λw B a m x l c=>events_store PR w B a _ m rfl;have eb:∀(w:er) (B:Array Event) (a:Addr) (m:Mode) (x:Bool),(store a (.bool x) m).events PR w B=storedEv PR w B a (.bool x) m:=λw B a m x=>events_store PR w B a _ m rfl;simp[go_sem,B,eb,c0,R,T,U,c4,f0,f1,f2,f3,f4]at o;obtain o|o|o|o|o:=o<;>exact .inl ⟨_,_,o,.inl (.inr rfl)⟩;refine WK.mono (K':=KB Wg d D own (λw=>KR M N Wg Ch A pb n D Q J own Sb w/\∃H,(∀x,H x->own x/\x≠A/\x<w.heap.size)/\J i H w (pO sa sl sc mm k b)) #[i64 i,.slice sa sl sc,i64 mm,i64 k,.bool b]) ?_ ?_;rotate_left;rintro w ⟨P,w1,q,hW,hs,ho,I⟩;obtain⟨an,k1,k2,k3,k4⟩:=q.was;obtain⟨st,sm,hl⟩:=q.live;refine K _ _ _ _ I ⟨⟨an,k1,k2,by omega,λx z ao=>(ho x (by omega)).trans (k4 x z ao)⟩,⟨st,sm,(ho Wg ?_).trans hl⟩,hW⟩;have:=k1.1.lw;obtain⟨aB,aC,ap⟩:=k1.1.s.live;have:=lt_of_heap ap;omega;walk_nrm;have u:=K d #[i64 i,.slice sa sl sc,i64 mm,i64 k,.bool b];refine WK.ctl u rfl (λ_=>eI)<|WK.ctl u rfl (λ_=>jp) ?_;simp only[xP,jw,gf,il,Nat.reduceAdd,eJ,List.range,List.range.loop];refine WK.val (v:=?_) u rfl rfl (by k_ne) (λw=>?_) (λw=>?_) ?_;rotate_left;go_simp;rfl;go_simp;walk_nrm;refine WK.val (v:=?_) u rfl rfl (by k_ne) (λw=>?_) (λw=>?_) ?_;rotate_left;go_simp;rfl;go_simp;walk_nrm;refine WK.load (v:=i64 i) u rfl rfl (by k_ne) (λw q=>?_) (λw q e o=>?_) ?_;have g:=(λw q=>(show w.cell? (eQ d 0)=some (i64 i) by simp[World.cell?,q.l])) w q;go_simp;have g:=(λw q=>(show w.cell? (eQ d 0)=some (i64 i) by simp[World.cell?,q.l])) w q;simp[go_sem,g]at o;exact .inl ⟨_,_,o,.inl (.inr rfl)⟩;walk_nrm;refine WK.val (v:=?_) u rfl rfl (by k_ne) (λw=>?_) (λw=>?_) ?_;rotate_left;go_simp;rfl;go_simp;walk_nrm;refine WK.load (v:=pO sa sl sc mm k b) u rfl rfl (by k_ne) (λw q=>?_) (λw q e o=>?_) ?_
 ·have g:=q.l;have R:w.cell? (eQ d 1)=some (.slice sa sl sc):=by simp[World.cell?,g]
  have T:w.cell? (eQ d 2)=some (i64 mm):=by simp[World.cell?,g]
  have U:w.cell? (eQ d 3)=some (i64 k):=by simp[World.cell?,g]
  have c4:w.cell? (eQ d 4)=some (.bool b):=by simp[World.cell?,g]
  go_simp;first|done|rfl
 have g:=q.l;have R:w.cell? (eQ d 1)=some (.slice sa sl sc):=by simp[World.cell?,g]
 have T:w.cell? (eQ d 2)=some (i64 mm):=by simp[World.cell?,g]
 have U:w.cell? (eQ d 3)=some (i64 k):=by simp[World.cell?,g]
 have c4:w.cell? (eQ d 4)=some (.bool b):=by simp[World.cell?,g]
 simp[go_sem,R,T,U,c4]at o;obtain o|o|o|o:=o<;>exact .inl ⟨_,_,o,.inl (.inr rfl)⟩;walk_nrm;refine WK.val (v:=oJ A (4*i)) u rfl rfl (by k_ne) (λw=>?_) (λw=>?_) ?_;go_simp<;>omega;simp[go_sem];exact events_indexAt_slice _ _ _ _ _ _ (by kernel_rfl) ⟨by omega,by omega⟩;walk_nrm;refine WK.write (bl:=A) (W:=λw w'=>∀cs:fZ,w.heap[A]? =some (.cells cs 199)->w'.heap[A]? =some (.cells ((((cs.setIfInBounds (4*i) (.slice sa sl sc)).setIfInBounds (4*i+1) (i64 mm)).setIfInBounds (4*i+2) (i64 k)).setIfInBounds (4*i+3) (.bool b)) 199)) u rfl rfl (by k_ne) (.inl ai) (λw q=>?_) (λw q e o=>?_) ?_;obtain⟨P,⟨I,_⟩,_,_,p⟩:=q.was;obtain⟨y,V,aj,_⟩:=I.a;have F:w.heap[A]? =some (.cells y 199):=(p A (lt_of_heap V) (.inl I.oa)).trans V;have c0:w.cell? (eQ A (4*i))=some (y[4*i]'(by omega)):=by simp[World.cell?,F]
 have R:w.cell? (eQ A (4*i+1))=some (y[4*i+1]'(by omega)):=by simp[World.cell?,F]
 have T:w.cell? (eQ A (4*i+2))=some (y[4*i+2]'(by omega)):=by simp[World.cell?,F]
 have U:w.cell? (eQ A (4*i+3))=some (y[4*i+3]'(by omega)):=by simp[World.cell?,F]
 have f0:w.frozen? (eQ A (4*i))=false:=by simp[World.frozen?,F]
 have f1:w.frozen? (eQ A (4*i+1))=false:=by simp[World.frozen?,F]
 have f2:w.frozen? (eQ A (4*i+2))=false:=by simp[World.frozen?,F]
 have f3:w.frozen? (eQ A (4*i+3))=false:=by simp[World.frozen?,F]
 simp only[pO];go_simp;refine⟨by simp[World.setCell],by simp[World.setCell],λc ah=>?_,?_⟩;simp[World.setCell,oP,jb ah];simp[World.setCell,oP,F];obtain⟨P,⟨I,_⟩,_,_,p⟩:=q.was;obtain⟨y,V,aj,_⟩:=I.a;have F:w.heap[A]? =some (.cells y 199):=(p A (lt_of_heap V) (.inl I.oa)).trans V;have c0:w.cell? (eQ A (4*i))=some (y[4*i]'(by omega)):=by simp[World.cell?,F]
 have R:w.cell? (eQ A (4*i+1))=some (y[4*i+1]'(by omega)):=by simp[World.cell?,F]
 have T:w.cell? (eQ A (4*i+2))=some (y[4*i+2]'(by omega)):=by simp[World.cell?,F]
 have U:w.cell? (eQ A (4*i+3))=some (y[4*i+3]'(by omega)):=by simp[World.cell?,F]
 have f0:w.frozen? (eQ A (4*i))=false:=by simp[World.frozen?,F]
 have f1:w.frozen? (eQ A (4*i+1))=false:=by simp[World.frozen?,F]
 have f2:w.frozen? (eQ A (4*i+2))=false:=by simp[World.frozen?,F]
 have f3:w.frozen? (eQ A (4*i+3))=false:=by simp[World.frozen?,F]
 have B:∀(w:er) (B:Array Event) (a:Addr) (m:Mode) (x:fR) (l c:Nat),(store a (.slice x l c) m).events PR w B=storedEv PR w B a (.slice x l c) m:=λw B a m x l c=>events_store PR w B a _ m rfl;have eb:∀(w:er) (B:Array Event) (a:Addr) (m:Mode) (x:Bool),(store a (.bool x) m).events PR w B=storedEv PR w B a (.bool x) m:=λw B a m x=>events_store PR w B a _ m rfl;simp only[pO]at o;simp[go_sem,B,eb,c0,R,T,U,f0,f1,f2,f3]at o;obtain o|o|o|o:=o<;>exact .inl ⟨_,_,o,.inl (.inl ai)⟩;refine WK.mono (K':=KR M N Wg Ch A pb n D Q J (λx=>own x\/x=d) (upd Sb i true)) ?_ ?_;rotate_left;rintro w ⟨w1,w2,q,hW,hs,ho,I⟩;refine KR.rely h1 h3 hQ hP _ _ I ?_;obtain⟨P,⟨E,H,L,aq⟩,aD,aj,p⟩:=q.was;obtain⟨y,V,ak,al⟩:=E.a;have ar:w1.heap[A]? =some (.cells y 199):=(p A (lt_of_heap V) (.inl E.oa)).trans V;have X:∀x,own x->x≠A->x<P.heap.size->w2.heap[x]? =P.heap[x]? :=λx z au av=>(ho x au).trans (p x av (.inl z));obtain⟨st,sm,hl⟩:=q.live;refine⟨⟨E.s.k.same h1 h3 hQ (by omega) λx z=>(ho x (by have:=E.lr x z;omega)).trans (p x (E.s.k.r x z) (.inr z)),⟨st,sm,(ho Wg (by have:=E.lw;omega)).trans hl⟩⟩,⟨_,hW y ar,by simp[ak],λj hj hS=>?_⟩,.inl E.oa,E.lr,E.lw⟩;by_cases e:j=i;subst e
 refine⟨sa,sl,sc,mm,k,b,H,λx z=>⟨.inl (L x z).1,(L x z).2.1,by have:=(L x z).2.2;omega⟩,?_,?_,?_,?_,hP _ _ _ _ _ (λx z=>X x (L x z).1 (L x z).2.1 (L x z).2.2) aq⟩<;>
  simp[Array.getElem?_setIfInBounds,ak]<;>omega
 have aw:Sb j=true:=by rwa[upd_ne _ _ e]at hS
 obtain⟨ax,ay,az,m',k',b',aA,g1,g2,g3,g4,g5,g6⟩:=Oc.same (own':=λx=>own x\/x=d) hP (al j hj aw) (λ_ h=>.inl h) (by omega:P.heap.size<=w2.heap.size) X;refine⟨ax,ay,az,m',k',b',aA,g1,?_,?_,?_,?_,g6⟩;rw[gm (by omega),gm (by omega),gm (by omega),gm (by omega)];exact g2;rw[gm (by omega),gm (by omega),gm (by omega),gm (by omega)];exact g3;rw[gm (by omega),gm (by omega),gm (by omega),gm (by omega)];exact g4;rw[gm (by omega),gm (by omega),gm (by omega),gm (by omega)];exact g5;have O:qi (λx=>own x\/x=d) D (Lv 241 Wg) (KR M N Wg Ch A pb n D Q J (λx=>own x\/x=d) (upd Sb i true)):=KR.rely h1 h3 hQ hP;exact WK.ctl O rfl (λ_=>eI)<|WK.ctl O rfl (λ_=>stepG_inBlock)<|WK.ctl O rfl (λ_=>stepG_inLoop)<|ag _ _ _ _ _ _ _ _ _ _ _
def tR(S:Nat->Bool)(n:Nat):Nat:=sumTo n λj=>if S j=true then 1 else 0
theorem Ka(S:Nat->Bool):∀n,tR S n<=n
 |0=>by simp[tR,sumTo]
 |n+1=>by have:=Ka S n;simp only[tR,sumTo]at*;split<;>omega
theorem F3(S:Nat->Bool):∀n,tR S n=n->∀j,j<n->S j=true
 |0,_,j,c=>by omega
 |n+1,h,j,c=>by
  have a:=Ka S n;simp only[tR,sumTo]at h a;by_cases e:S n=true;rw[eC e]at h;obtain b|b:=gQ j n;exact F3 S n (by simp only[tR];omega) j b;obtain rfl:j=n:=by omega
  exact e;rw[ez e]at h;omega
theorem F4(S:Nat->Bool)(i:Nat)(a:S i=false):∀n,i<n->tR (upd S i true) n=tR S n+1
 |0,h=>by omega
 |n+1,h=>by
  by_cases e:i=n;subst e;have b:tR (upd S i true) i=tR S i:=sumTo_congr λj d=>by rw[upd_ne _ _ (by omega)]
  simp only[tR,sumTo]at b⊢;rw[b,upd_same,a];simp;have c:=F4 S i a n (by omega);simp only[tR,sumTo]at c⊢;rw[c,upd_ne _ _ (by omega)];omega
noncomputable def Kb(e:tO)(m:LK)(j k l o n A:Nat)(p a b c d f g h i:eu)(q:List Frame):eA:=
 G (nc.at (CJ e m j k l o n A p (.tuple #[tQ,.bool false]) a b c d f g h i) [.inRegion n6 [1],.code F2,.inLoop qy,.inBlock 2,.code nI]) q
def U2(e:tO)(m:LK)(l o p q A r n:Nat)(s:eN)(Q:fa)(t:Nat->(eN)->er->eu->Prop)(u:List Frame):jV:=λa g w=>
 ∃v b c d f h i j k,g=Kb e m l o p q n A v b c d f h i j k u/\KR l o p q A r n s Q t a (λ_=>true) w
def KR.all{e:Nat->(eN)->er->eu->Prop}{f g:Nat->Bool}(h:KR m k i j o p s B S e A f w)(n:∀b,b<s->g b=true->f b=true):KR m k i j o p s B S e A g w:=by obtain⟨q,r,c,t⟩:=h.a;exact⟨h.s,⟨q,r,c,λb l d=>t b l (n b l d)⟩,h.oa,h.lr,h.lw⟩
def hears{e:tO}{m:LK}{F H Wg Ch n pb A:Nat}{Q:fa}{C:Nat->(eN)->er->eu->Prop}{cs:List Frame}{D:jV}(J:∀own g w,U2 e m F H Wg Ch A pb n B Q C cs own g w->D own g w)(hn:n<=65536)(P:B F)(R:B H)(T:tP B Q)(O:Ax C):∀(r:Nat) (S:Nat->Bool) (own:eN) (I y d f l o p q t u:eu),tR S n+r=n->WK PR 241 Wg true B (qv PR 241 Wg Ch n B (FZ C) D tQ r S) own (KR F H Wg Ch A pb n B Q C own S) (G (nc.at (CJ e m F H Wg Ch n A I y d f l o p q t u) [.code qy,.inLoop qy,.inBlock 2,.code nI]) cs):=by
 intro r;induction r with
 |zero=>
  intro S own I y d f l o p q t u hc;have c:qi own B (Lv 241 Wg) (KR F H Wg Ch A pb n B Q C own S):=KR.rely P R T O;refine WK.ctl c rfl (λ_=>eM)<|WK.ctl c rfl (λ_=>jp) ?_;rw[show List.range n6.size=[0,1]from rfl];refine WK.stop c λw z=>⟨rfl,λw=>?_,?_⟩;refine(stepG_comm rfl rfl (by k_ne) (FY (Ch:=Ch) rfl rfl w)).trans ?_;unfold listed;rw[yK (Ch:=Ch) rfl rfl w,seen_none];rw[served_G];exact J _ _ _ ⟨I,d,f,l,o,p,q,t,u,rfl,z.all λj U _=>F3 S n (by omega) j U⟩
 |succ r ih=>
  intro S own I y d f l o p q t u hc;have c:qi own B (Lv 241 Wg) (KR F H Wg Ch A pb n B Q C own S):=KR.rely P R T O;refine WK.ctl c rfl (λ_=>eM)<|WK.ctl c rfl (λ_=>jp) ?_;rw[show List.range n6.size=[0,1]from rfl];refine WK.stop c λw z=>⟨rfl,λw=>?_,λi v K Z V L M=>?_⟩;refine(stepG_comm rfl rfl (by k_ne) (FY (Ch:=Ch) rfl rfl w)).trans ?_;unfold listed;rw[yK (Ch:=Ch) rfl rfl w,seen_none];rw[served_G];obtain⟨sa,sl,sc,mm,k,b,oj,rfl,E,W⟩:=L
  have hl:=LL (e:=e) (m:=m) (Wg:=Wg) (Ch:=Ch) (n:=n) (pb:=pb) (A:=A) (i:=i) (own:=λb=>own b\/K b) (S:=qv PR 241 Wg Ch n B (FZ C) D tQ r (upd S i true)) (Sb:=S) (cs:=cs) hn Z (.inl z.oa) P R T O (sa:=sa) (sl:=sl) (sc:=sc) (mm:=mm) (k:=k) (b:=b)
   I d f l o p q t u λaa I y d f l o p q t u=>ih _ _ _ _ _ _ _ _ _ _ _ _ (by rw[F4 S i V n Z];omega)
  obtain⟨ca,ha,X,N⟩:=z.a;refine hl w ⟨⟨z.s,⟨ca,ha,X,λj U V=>(N j U V).same O (λ_ h=>.inl h) (eF _) λ_ _ _ _=>rfl⟩,.inl z.oa,z.lr,z.lw⟩,oj,λx Y=>⟨.inr (E x Y).1,λe=>M x (E x Y).1 (e▸z.oa),(E x Y).2⟩,W⟩
structure F5(pb:Nat)(oa:Option Addr)(on oc:Nat)(la:Addr)(L C:Nat)(a0:Option Addr)(n c0:Nat)(w:er):Prop where
 f1:w.cell? ⟨pb,1,none⟩=some (.slice oa on oc)
 ls:Oa pb la L C a0 n c0 w
noncomputable def Rc(o p q r s t u a b c d e f g h i j k l m n:eu):Act:=
 ⟨#[o,p,q,r,s,undef,undef,undef,t,u,a,b,c,d,e,f,g,h,i,j,k,l,m,n,undef,undef,undef,undef,undef,undef,undef,undef,undef,undef,undef,undef,undef,undef,undef,undef,undef,undef,undef,undef,undef,undef,undef,undef,undef,undef,undef,undef],[]⟩
def F6(x:eu)(a:List Frame):G (Frame.enter PR 163 #[x] .normal) a=G (nc.at (Rc x undef undef undef undef undef undef undef undef undef undef undef undef undef undef undef undef undef undef undef undef) [.code wL]) a:=by rw[enter_at (fn:=Tryz.f163) (c:=wL) _ Tryz.func163 Au,Tryz.ntmps163];simp only[Rc,jw,gf,il,Nat.reduceAdd,Nat.reduceSub,Array.replicate,List.replicate,List.append_toArray,qp,sQ,nc]
noncomputable def i247:TypeInfo:=(PR.info? 247).getD default
def Kc:PR.info? 247=some i247:=by kernel_rfl
def TU(k:Nat)(n:Nat)(Q:fa)(l:Nat)(m:List Frame):jV:=λa g w=>
 ∃(e:tO) (d f h i j c:Nat),g=G (nc.at (o8 e d h i n 0 undef undef undef undef undef undef) [.code iU,.inLoop iU,.inBlock 0,.code kO]) m/\e.x2=.pointer (some ⟨f,0,none⟩)/\KO [(i,wgBlock 241 0 0),(h,.cells #[.chan (some j)] 232),(j,.chan 0 #[] false c c false),(f,.cells #[.slice none 0 0,.int .i64 0,.int .i64 0,.bool false] 199),(d,.cells #[.pointer (some ⟨k,0,none⟩)] 200)] Q l w/\∀b,a b↔b=i\/b=h\/b=j\/b=f\/b=d
def Of{u U J L C n K m0:Nat}{a0:fR}{Q:fa}{rd:eN}{cs:List Frame}(D:zr rd Q)(aa:0<U)(hL:0<L) (H:∀w,Q w->F5 u a U J h L C a0 n K w)(M:rd u)(V:rd h.block)(W:∀b,rd b->b<m0):WK PR 241 0 true rd (TU u n Q m0 cs) eS (KO [] Q m0) (G (Frame.enter PR 163 #[.pointer (some ⟨u,0,none⟩)] .normal) cs):=by
 rw[F6];have h0:∀x∈([]:List (Nat×Obj)),eS x.1:=λx s=>by cases s
 have N:=KO.rely (Q:=Q) (m0:=m0) (rd:=rd) (own:=eS) (L:=Lv 241 0) h0 D;simp only[wL,Rc];refine WK.ctl N rfl (λ_=>eM)<|WK.ctl N rfl (λ_=>jp) ?_;simp only[Aq,jw,gf,il,Nat.reduceAdd,eJ,List.range,List.range.loop];refine WK.IK (f:=λn=>fp n) (ob:=.cells #[fp u] 200) h0 D rfl rfl (by k_ne) (λw c=>?_) (λw c e l=>?_) λr _ _=>?_
 ·go_simp;first|done|rfl
 simp[go_sem]at l;walk_nrm;have h1:∀x∈[(r,Obj.cells #[fp u] 200)],(λx=>eS x\/x=r) x.1:=λx s=>by rw[gW.1 s];exact .inr rfl
 refine WK.IK (f:=λn=>fp n) (ob:=.cells #[ig,i64 0,i64 0,.bool false] 199) h1 D rfl rfl (by k_ne) (λw c=>?_) (λw c e l=>?_) λz _ _=>?_
 ·go_simp;first|done|rfl
 simp[go_sem]at l;walk_nrm;have X:∀x∈[(z,Obj.cells #[ig,i64 0,i64 0,.bool false] 199),(r,Obj.cells #[fp u] 200)],(λx=>(eS x\/x=r)\/x=z) x.1:=λx s=>by obtain rfl|s:=gI.1 s;exact .inr rfl;rw[gW.1 s];exact .inl (.inr rfl)
 have j:=KO.rely (m0:=m0) (L:=Lv 241 0) (own:=λx=>(eS x\/x=r)\/x=z) X D;have O:∀w,KO [(z,Obj.cells #[ig,i64 0,i64 0,.bool false] 199),(r,Obj.cells #[fp u] 200)] Q m0 w->w.cell? (eQ r 0)=some (fp u):=λw c=>by have:=c.at_ (r,Obj.cells #[fp u] 200) (by simp);simp[World.cell?,this]
 refine WK.ctl j rfl (λ_=>eI)<|WK.ctl j rfl (λ_=>eM)<|WK.ctl j rfl (λ_=>eM)<|WK.ctl j rfl (λ_=>jp) ?_;simp only[Ar,jw,gf,il,Nat.reduceAdd,eJ,List.range,List.range.loop];refine WK.load (v:=fp u) j rfl rfl (by k_ne) (λw c=>?_) (λw c e l=>?_) ?_;have p:=(O) w c;go_simp;have p:=(O) w c;simp[go_sem,p]at l;exact .inl ⟨_,_,l,.inl (.inl (.inr rfl))⟩;walk_nrm;refine WK.val (v:=?_) j rfl rfl (by k_ne) (λw=>?_) (λw=>?_) ?_;rotate_left;go_simp;rfl;go_simp;walk_nrm;refine WK.val (v:=?_) j rfl rfl (by k_ne) (λw=>?_) (λw=>?_) ?_;rotate_left;go_simp;rfl;go_simp;walk_nrm;refine WK.load (v:=.slice a U J) j rfl rfl (by k_ne) (λw c=>?_) (λw c e l=>?_) ?_;have p:=(λw c=>(H w c.q).f1) w c;go_simp;have p:=(λw c=>(H w c.q).f1) w c;simp[go_sem,p]at l;exact .inl ⟨_,_,l,.inr (.inl ⟨rfl,M⟩)⟩;walk_nrm;refine WK.val (v:=?_) j rfl rfl (by k_ne) (λw=>?_) (λw=>?_) ?_;rotate_left;go_simp;rfl;go_simp;walk_nrm;refine WK.val (v:=.bool false) j rfl rfl (by k_ne) (λw=>?_) (λw=>?_) ?_;go_simp;omega;simp[go_sem];walk_nrm;refine WK.ctl j rfl (λ_=>eI)<|WK.ctl j rfl (λ_=>stepG_cond (t:=false) rfl) ?_;simp only[jE,gy];refine WK.ctl j rfl (λ_=>gX)<|WK.ctl j rfl (λ_=>eM)<|WK.ctl j rfl (λ_=>jp) ?_;simp only[FR,jw,gf,il,Nat.reduceAdd,eJ,List.range,List.range.loop];refine WK.IK (f:=λn=>.chan (some n)) (ob:=.chan 0 #[] false 0 0 false) X D rfl rfl (by k_ne) (λw c=>?_) (λw c e l=>?_) λA _ _=>?_
 ·have:=run_makeChan (P:=PR) (w:=w) (t:=232) (e:=247) (dir:=.both) (i:=i247) (by kernel_rfl) Kc .i64 0 (by omega) (by omega);go_simp;first|done|rfl|(rw[this];rfl)
 have Y:(Instr.makeChan 232 (i64 0)).events PR w #[]=#[]:=by have Y:=events_makeChan (P:=PR) (w:=w) (t:=232) (e:=247) (dir:=.both) (i:=i247) (by kernel_rfl) Kc .i64 0 (by omega) (by omega) #[];simpa using Y
 have F:e∈(do Pure.pure (Next.value (<-Instr.makeChan 232 (i64 0))):Sem Next).events PR w #[]:=l;simp at F;rw[Y]at F;simp at F;walk_nrm;have h3:∀x∈[(A,Obj.chan 0 #[] false 0 0 false),(z,Obj.cells #[ig,i64 0,i64 0,.bool false] 199),(r,Obj.cells #[fp u] 200)],(λx=>((eS x\/x=r)\/x=z)\/x=A) x.1:=λx s=>by obtain rfl|s:=gI.1 s;exact .inr rfl;exact .inl (X x s)
 refine WK.IK (f:=λn=>fp n) (ob:=.cells #[.chan none] 232) h3 D rfl rfl (by k_ne) (λw c=>?_) (λw c e l=>?_) λy _ _=>?_
 ·go_simp;first|done|rfl
 simp[go_sem]at l;walk_nrm;have S:∀o,∀x∈[(y,o),(A,Obj.chan 0 #[] false 0 0 false),(z,Obj.cells #[ig,i64 0,i64 0,.bool false] 199),(r,Obj.cells #[fp u] 200)],(λx=>(((eS x\/x=r)\/x=z)\/x=A)\/x=y) x.1:=λo x s=>by obtain rfl|s:=gI.1 s;exact .inr rfl;exact .inl (h3 x s)
 refine WK.Oe (pre:=[]) (ob':=.cells #[.chan (some A)] 232) (S _) D (λb k Z=>?_) rfl rfl (by k_ne) (λw c=>?_) (λw c e l=>?_) ?_
 ·have:=W b Z;obtain(((k|k)|k)|k)|k:=k;exact k;all_goals omega
 have p:=c.at_ (y,Obj.cells #[.chan none] 232) (by simp);have K:w.cell? (eQ y 0)=some (.chan none):=by simp[World.cell?,p]
 have f0:w.frozen? (eQ y 0)=false:=by simp[World.frozen?,p]
 go_simp;refine⟨by simp[World.setCell],by simp[World.setCell],λd hd=>gE w (eQ y 0) _ d hd,?_⟩;simp[World.setCell,oP,p];have p:=c.at_ (y,Obj.cells #[.chan none] 232) (by simp);have K:w.cell? (eQ y 0)=some (.chan none):=by simp[World.cell?,p]
 have f0:w.frozen? (eQ y 0)=false:=by simp[World.frozen?,p]
 have I:∀(w:er) (I:Array Event) (T:Addr) (m:Mode) (x:Option Nat),(store T (.chan x) m).events PR w I=storedEv PR w I T (.chan x) m:=λw I T m x=>events_store PR w I T _ m rfl;simp[go_sem,I,K,f0]at l;exact .inl ⟨_,_,l,.inl (.inr rfl)⟩;walk_nrm;have B:=KO.rely (m0:=m0) (L:=Lv 241 0) (own:=λx=>(((eS x\/x=r)\/x=z)\/x=A)\/x=y) (S (Obj.cells #[.chan (some A)] 232)) D;refine WK.ctl B rfl (λ_=>eI)<|WK.ctl B rfl (λ_=>eM)<|WK.ctl B rfl (λ_=>jp) ?_;simp only[FT,jw,gf,il,Nat.reduceAdd,eJ,List.range,List.range.loop];refine WK.IK (f:=λn=>fp n) (ob:=wgBlock 241 0 0) (S _) D rfl rfl (by k_ne) (λw c=>?_) (λw c e l=>?_) λR _ _=>?_
 ·go_simp;first|done|rfl
 simp[go_sem]at l;walk_nrm;have h5:∀x∈[(R,wgBlock 241 0 0),(y,Obj.cells #[.chan (some A)] 232),(A,Obj.chan 0 #[] false 0 0 false),(z,Obj.cells #[ig,i64 0,i64 0,.bool false] 199),(r,Obj.cells #[fp u] 200)],(λx=>((((eS x\/x=r)\/x=z)\/x=A)\/x=y)\/x=R) x.1:=λx s=>by obtain rfl|s:=gI.1 s;exact .inr rfl;exact .inl (S _ x s)
 have g:=KO.rely (m0:=m0) (L:=Lv 241 0) (own:=λx=>((((eS x\/x=r)\/x=z)\/x=A)\/x=y)\/x=R) h5 D;refine WK.ctl g rfl (λ_=>eI)<|WK.ctl g rfl (λ_=>eM)<|WK.ctl g rfl (λ_=>eM)<|WK.ctl g rfl (λ_=>jp) ?_;simp only[FU,jw,gf,il,Nat.reduceAdd,eJ,List.range,List.range.loop];have E:∀w,KO [(R,wgBlock 241 0 0),(y,Obj.cells #[.chan (some A)] 232),(A,Obj.chan 0 #[] false 0 0 false),(z,Obj.cells #[ig,i64 0,i64 0,.bool false] 199),(r,Obj.cells #[fp u] 200)] Q m0 w->w.cell? (eQ r 0)=some (fp u):=λw c=>by have:=c.at_ (r,Obj.cells #[fp u] 200) (by simp);simp[World.cell?,this]
 refine WK.load (v:=fp u) g rfl rfl (by k_ne) (λw c=>?_) (λw c e l=>?_) ?_;have p:=(E) w c;go_simp;have p:=(E) w c;simp[go_sem,p]at l;exact .inl ⟨_,_,l,.inl (.inl (.inl (.inl (.inl (.inr rfl)))))⟩;walk_nrm;refine WK.val (v:=?_) g rfl rfl (by k_ne) (λw=>?_) (λw=>?_) ?_;rotate_left;go_simp;rfl;go_simp;walk_nrm;refine WK.val (v:=?_) g rfl rfl (by k_ne) (λw=>?_) (λw=>?_) ?_;rotate_left;go_simp;rfl;go_simp;walk_nrm;refine WK.load (v:=.slice (some h) L C) g rfl rfl (by k_ne) (λw c=>?_) (λw c e l=>?_) ?_;have p:=(λw c=>(H w c.q).ls.f2) w c;go_simp;have p:=(λw c=>(H w c.q).ls.f2) w c;simp[go_sem,p]at l;exact .inl ⟨_,_,l,.inr (.inl ⟨rfl,M⟩)⟩;walk_nrm;refine WK.val (v:=.pointer (some h)) g rfl rfl (by k_ne) (λw=>?_) (λw=>?_) ?_;go_simp;simp[go_sem];exact events_indexAt_slice _ _ _ _ _ _ (by kernel_rfl) ⟨by omega,by omega⟩;walk_nrm;refine WK.load (v:=.slice a0 n K) g rfl rfl (by k_ne) (λw c=>?_) (λw c e l=>?_) ?_;have p:=(λw c=>(H w c.q).ls.l0) w c;go_simp;have p:=(λw c=>(H w c.q).ls.l0) w c;simp[go_sem,p]at l;exact .inl ⟨_,_,l,.inr (.inl ⟨rfl,V⟩)⟩;walk_nrm;refine WK.val (v:=?_) g rfl rfl (by k_ne) (λw=>?_) (λw=>?_) ?_;rotate_left;go_simp;rfl;go_simp;walk_nrm;refine WK.val (v:=?_) g rfl rfl (by k_ne) (λw=>?_) (λw=>?_) ?_;rotate_left;go_simp;rfl;go_simp;walk_nrm;refine WK.ctl g rfl (λ_=>eI)<|WK.ctl g rfl (λ_=>tw)<|WK.ctl g rfl (λ_=>stepG_loop)<|WK.stop g λw c=>⟨⟨_,_,_,_,_,_,_,_,_,_,_,_,_,_,_,_⟩,r,z,y,R,A,0,rfl,rfl,c,λb=>⟨?_,?_⟩⟩;rintro(((((k|k)|k)|k)|k)|k);exact k.elim;exact .inr (.inr (.inr (.inr k)));exact .inr (.inr (.inr (.inl k)));exact .inr (.inr (.inl k));exact .inr (.inl k);exact .inl k;rintro(k|k|k|k|k);exact .inr k;exact .inl (.inr k);exact .inl (.inl (.inr k));exact .inl (.inl (.inl (.inr k)));exact .inl (.inl (.inl (.inl (.inr k))))
def Az{rc:Nat}{f:fZ}{a b c d:eu}{w:er}(g:f[2]? =some (.pointer (some ⟨rc,0,none⟩)))(e:w.heap[rc]? =some (.cells #[a,b,c,d] 199)):(results Tryz.f163 f).run PR w=.ok (.agg #[a,b,c,d]) w:=by
 have h:w.cell? (eQ rc 0)=some a:=by simp[World.cell?,e]
 have i:w.cell? (eQ rc 1)=some b:=by simp[World.cell?,e]
 have j:w.cell? (eQ rc 2)=some c:=by simp[World.cell?,e]
 have k:w.cell? (eQ rc 3)=some d:=by simp[World.cell?,e]
 simp[results,Tryz.results163,go_sem,g,h,i,j,k]
def wO{rc:Nat}{h:fZ}{a b c d:eu}{w:er}(j:h[2]? =some (.pointer (some ⟨rc,0,none⟩)))(g:w.heap[rc]? =some (.cells #[a,b,c,d] 199)):∀e∈(results Tryz.f163 h).events PR w #[],∃i k,e=⟨.cell i,k,false⟩/\i.block=rc:=by
 have l:w.cell? (eQ rc 0)=some a:=by simp[World.cell?,g]
 have m:w.cell? (eQ rc 1)=some b:=by simp[World.cell?,g]
 have n:w.cell? (eQ rc 2)=some c:=by simp[World.cell?,g]
 have o:w.cell? (eQ rc 3)=some d:=by simp[World.cell?,g]
 intro e f;simp[results,Tryz.results163,go_sem,j,l,m,n,o]at f;obtain f|f|f|f:=f<;>exact⟨_,_,f,rfl⟩
section
variable{Wg:Nat}{own rd:Nat->Prop}{S:jV}{Q:er->Prop}{m0 rc:Nat}{bl pre:List (Nat×Obj)}{caller:Frame}{cs:List Frame}{va vb vc vd:eu}{act:Act}
theorem Og{k:List Item}{K:fa}(a:qi own rd (Lv 241 Wg) K)(f:∀w,K w->w.heap[rc]? =some (.cells #[va,vb,vc,vd] 199))(c:own rc)(g:act.tmps[2]? =some (.pointer (some ⟨rc,0,none⟩)))(i:act.defers=[]) (j:WK PR 241 Wg true rd S own K (G (caller.finish (.agg #[va,vb,vc,vd])) cs)):WK PR 241 Wg true rd S own K (G (nc.at act (.code .ret::k)) (caller::cs)):=by refine WK.ctl (g':=G {nc.at act (.code .ret::k)with mode:=.returning} (caller::cs)) a rfl (λw=>?_) ?_;simp[stepG,stepG.exec,G,Frame.at,nc,base];refine WK.step a rfl λw d=>?_;have l:=Az g (f w d);refine⟨G (caller.finish (.agg #[va,vb,vc,vd])) cs,w,seen PR 163 ((results Tryz.f163 act.tmps).events PR w #[]),own,?_,⟨rfl,rfl,rfl,eF _,λb=>⟨.inl,λh=>h.elim id λh=>absurd h.2 (Nat.not_lt.2 h.1)⟩,λ_ _ _=>rfl,λe m=>?_⟩,j w d⟩;simp[stepG,unwind,doReturn,G,Frame.at,nc,base,i,Tryz.func163,ml,l,GStep.after];have:=mQ m;obtain⟨n,o,rfl,p⟩:=wO g (f w d) e this;exact .inl ⟨n,o,rfl,.inl (by rw[p];exact c)⟩
end
abbrev Sp:=Option (List Int×Int×Int)
def ol(x y:Sp):Bool:=match x,y with
 |none,_=>false
 |some _,none=>true
 |some (_,m,k),some (_,a,b)=>if m≠a then decide (m<a)else decide (k<b)
def qO:List Sp->Sp
 |[]=>none
 |x::b=>b.foldl (λa y=>if ol y a then y else a) x
def jc(l:iA)(c:Nat):fZ:=(l.map (Value.int .i64)++List.replicate (c-l.length) (Value.int .i64 0)).toArray
def Oh(b:Nat×Nat):Prop:=∀a,¬Fl b a
def fq(o:eN)(w:er)(s:Sp)(y:SV):Prop:=match s with
 |none=>y=⟨none,0,0,0,0,false⟩
 |some (l,m,k)=>y.m=m/\y.k=k/\y.b=true/\y.sl=l.length/\((l=[]/\y.sa=none/\y.sc=0)\/
  (l≠[]/\∃a,o a/\y.sa=some ⟨a,0,none⟩/\l.length<=y.sc/\y.sc<2^63/\∃c,Oh c/\w.heap[a]? =some (.cells (jc l y.sc) 3 c)))
def fq.better{s a:Sp}{x y:SV}(h:fq A w s x)(k:fq B t a y):jW x y=ol s a:=by
 cases s with
 |none=>
  have:x=⟨none,0,0,0,0,false⟩:=h;subst this;cases a with
  |none=>rfl
  |some a=>rfl
 |some s=>
  obtain⟨l,m,n⟩:=s;obtain⟨c,d,b,_⟩:=h;cases a with
  |none=>
   have:y=⟨none,0,0,0,0,false⟩:=k;subst this;simp[jW,ol,b]
  |some a=>
   obtain⟨i,j,o⟩:=a;obtain⟨e,f,g,_⟩:=k;simp[jW,ol,c,d,b,e,f,g]
theorem yL:∀(b:List SV) (c:List Sp) (x:SV) (s:Sp),fq A w s x->b.length=c.length->(∀j (h:j<b.length) (k:j<c.length),fq A w c[j] b[j])->
 fq A w (c.foldl (λa y=>if ol y a then y else a) s) (b.foldl (λa y=>if jW y a then y else a) x)
 |[],[],x,s,h,_,_=>h
 |y::b,t::c,x,s,h,d,g=>by simp only[nD];have e:=g 0 (by simp) (by simp);simp only[oy]at e;rw[e.better h];refine yL b c _ _ ?_ (by simpa using d) λj i f=>g (j+1) (by simpa using i) (by simpa using f);split;exact e;exact h
 |[],_::_,_,_,_,d,_=>by simp at d
 |_::_,[],_,_,_,d,_=>by simp at d
def F7(b:List SV)(a:List Sp)(c:b.length=a.length)(e:∀j (h:j<b.length) (g:j<a.length),fq A w a[j] b[j]):fq A w (qO a) (fg b):=by
 cases b with
 |nil=>cases a with
  |nil=>rfl
  |cons _ _=>simp at c
 |cons y b=>cases a with
  |nil=>simp at c
  |cons s a=>
   exact yL b a y s (e 0 (by simp) (by simp)) (by simpa using c) λj f d=>e (j+1) (by simpa using f) (by simpa using d)
def Wy.SS{S:jV}(h:Wy P T m D A S B Z w):Wy P T m D A (λo Z c=>S o Z c/\∀b,B b->o b) B Z w:=by
 obtain⟨t,h⟩:=h
 have g:∀i:eN,(∀b,i b->B b)->Wy P T m D A (λo Z c=>S o Z c/\∀b,i b->o b) B Z w:=by
  intro i k;induction h with
  |here h=>exact qx λd f=>⟨h d f,k⟩
  |step p q u r=>
   refine nH p λd f=>?_;obtain⟨l,c,n,a,e,j⟩:=q d f;exact⟨l,c,n,a,e,j,r d l c n a f e j λb s=>(j.owns b).2 (.inl (k b s))⟩
 exact g B λ_ h=>h
end Go.Proofs.W
namespace Go.Proofs.W
open Go.RowKit
def V.wD:V.prog.underlying 27=some (.slice 3):=by rw[V.vt,Tryz.underlying27]
def wP:Tryz.t3.bytes=8:=by kernel_rfl
def LM(w:er):Calls V.prog 128 #[.slice none 0 0] w λe a=>e=.returned (.slice none 0 0)/\a=w:=by have b:=λ(w:er)=>Go.Lib.run_eql_slice_nil (P:=lS) w 27 3 none 0 0 0 0 V.wD;go_enter V.func128,Tryz.ntmps128;go_wp2;go_ret;exact⟨rfl,rfl⟩
def yM(w:er)(a b:Nat):Nat:=(Question.appendCap a b 3).cut (w.tape w.drawn (.appendCap a b 3))
def Oi(w:er)(a b:Nat):a<=yM w a b:=by simp[yM,Question.cut]
def Oj(w:er)(a b:Nat)(h:a<=65536):yM w a b<2^63:=by
 have:0<2^63-a:=by omega
 have:=Nat.mod_lt (w.tape w.drawn (.appendCap a b 3)) this;simp only[yM,Question.cut];omega
def BZ(n:Nat):Builtin.zeroCells #[.int .i64 0] n=(List.replicate n (Value.int .i64 0)).toArray:=by apply DF;simp[Builtin.zeroCells];exact List.ext_getElem (by simp) λi a b=>by simp[Nat.mod_one]
def Ea(l:iA)(c:Nat):(l.map (Value.int .i64)).toArray++Builtin.zeroCells #[.int .i64 0] (c-l.length)=jc l c:=by rw[BZ];simp[jc]
def IL(b c:Nat)(l:iA)(w:er)(g:0<l.length)(m:l.length<=65536)(n:b<w.heap.size)(d:∀k (h:k<l.length),w.cell? ⟨b,k,none⟩=some (.int .i64 l[k])):
 Calls V.prog 128 #[.slice (some ⟨b,0,none⟩) l.length c] w λe w'=>e=.returned (.slice (some ⟨w.heap.size+1,0,none⟩) l.length (yM w l.length 0))/\
  w'=((w.alloc (.cells #[] 3)).alloc (.cells (jc l (yM w l.length 0)) 3)).drew:=by
 have s:=λ(w:er)=>Go.Lib.run_eql_slice_nil (P:=V.prog) w 27 3 (qh b 0) l.length c 0 0 V.wD;have o:Sem.run V.prog (loadCellsFrom (eQ b 0) 0 l.length #[]) (w.alloc (.cells #[] 3)).drew=.ok (l.map (Value.int .i64)).toArray (w.alloc (.cells #[] 3)).drew:=by
  have:=run_loadCellsFrom (P:=V.prog) (w.alloc (.cells #[] 3)).drew (eQ b 0) (λj=>i64 (l.getD j 0)) l.length 0 #[] λj f=>by
   have h:=d j f;have e:(w.alloc (.cells #[] 3)).drew.cell? (eQ b j)=w.cell? (eQ b j):=jF (w:=w) (w':=(w.alloc (.cells #[] 3)).drew) (ad:=(eQ b j)) (alloc_old w _ n);have p:((eQ b 0):Addr).add j=(eQ b j):=by unfold Addr.add;split;rename_i h;subst h;rfl;simp
   simp only[eJ];rw[p,e,h,kL,gC f];rfl
  rw[this];congr 1;apply DF;simp;exact List.ext_getElem (by simp) λi a q=>by simp at a;simp[a]
 have a:¬(9223372036854775807<(l.length:Int)/\Tryz.t3.bytes=0):=by rw[wP];omega
 have q:¬(281474976710656<Builtin.nextslicecap l.length 0*Tryz.t3.bytes):=by rw[wP,nextslicecap_zero g];omega
 have t:¬l.length=0:=by omega
 have r:=Go.Lib.hid (Ea l (yM w l.length 0));clear d m;go_enter V.func128,Tryz.ntmps128;go_wp2;go_ret;exact⟨rfl,by rw[<-r.out];rfl⟩
def pP(x d:Nat):Nat:=x|||(1<<<d)
def tS(x d:Nat):Nat:=x-(x&&&(1<<<d))
theorem Rd:∀x:Nat,x<32->∀d:Nat,d<5->bits .or .u8 (x:Int) ((2:Int)^d%256)=(pP x d:Int):=by decide+kernel
def F8:∀x:Nat,x<32->∀d:Nat,d<5->bits .andNot .u8 (x:Int) ((2:Int)^d%256)=(tS x d:Int):=by decide+kernel
def AA:∀x,x<32->∀d,d<5->pP x d<32:=by decide+kernel
def Re:∀x,x<32->∀d,d<5->tS x d<32:=by decide+kernel
def F9(x d:Nat)(w:er)(a:x<32)(b:d<5):Calls V.prog 164 #[.int .u8 x,.int .i64 d] w λe c=>e=.returned (.int .u8 (pP x d))/\c=w:=by have h:=Go.Lib.hid (Rd x a d b);go_enter V.func164,Tryz.ntmps164;go_wp2;go_ret;exact⟨by rw[h.out];rfl,rfl⟩
def Ga(x d:Nat)(w:er)(a:x<32)(b:d<5):Calls V.prog 228 #[.int .u8 x,.int .i64 d] w λe c=>e=.returned (.int .u8 (tS x d))/\c=w:=by have h:=Go.Lib.hid (F8 x a d b);go_enter V.func228,Tryz.ntmps228;go_wp2;go_ret;exact⟨by rw[h.out];rfl,rfl⟩
def lL{d:Type}(e:eN)(E:er->eu->d->Prop)(z:eu)(t:eD)(w:er)(v:eu)(l:List d):Prop:=
 (l=[]/\v=.slice none 0 0)\/∃b c a f,e b/\v=.slice (some ⟨b,0,none⟩) l.length c/\w.heap[b]? =some (.cells a t f)/\a.size=c/\l.length<=c/\(∀k (h:k<l.length),∃u,a[k]? =some u/\E w u l[k])/\∀k,l.length<=k->k<c->a[k]? =some z
def U3(_:er)(u:eu)(n:Nat):Prop:=u=.int .i64 n
abbrev xQ(a:Nat->Prop):=lL a U3 (.int .i64 0) 3
abbrev AB(a:Nat->Prop):=lL a (xQ a) (.slice none 0 0) 27
abbrev wQ(a:Nat->Prop):=lL a (AB a) (.slice none 0 0) 66
def lL.same{a:Type}{E:er->eu->a->Prop}{w w':er}{l:List a}(f:∀b,A b->w'.heap[b]? =w.heap[b]?)(g:∀u d,E w u d->E w' u d)(h:lL A E z T w x l):lL A E z T w' x l:=by obtain h|⟨b,c,i,j,e,m,n,o,p,q,r⟩:=h;exact .inl h;refine .inr ⟨b,c,i,j,e,m,(f b e).trans n,o,p,λk s=>?_,r⟩;obtain⟨u,t,v⟩:=q k s;exact⟨u,t,g _ _ v⟩
def V2(b:eu):Prop:=b=undef\/∃a,b=.pointer (some a)
structure fW where
 opn:List Nat
 lists:List (List (List Nat))
 counts:List Int
structure fW.Ok(D:fW):Prop where
 len:D.lists.length=D.opn.length
 five:D.opn.length<=5
 nodup:D.opn.Nodup
 door:∀d∈D.opn,d<5
 many:∀ls∈D.lists,ls.length<=65536
 long:∀ls∈D.lists,∀l∈ls,l.length<=65536
 shift:∀ls∈D.lists,∀l∈ls,∀s∈l,s<6
 cnt:D.counts.length=32
 cval:∀c∈D.counts,-1<=c/\c<=5
 zero:D.counts.getD 0 0=0
def fC(b c d:eu)(a:iA):fZ:=([b,c,d]++a.map (Value.int .i64)).toArray
structure iB(n0:Nat->Prop)(pb:Nat)(D:fW)(w:er):Prop where
 ok:D.Ok
 lt:n0 pb
 at_:∃wk u1 u2 fz,V2 wk/\w.heap[pb]? =some (.cells (fC wk u1 u2 D.counts) 207 fz)/\xQ n0 w u1 D.opn/\wQ n0 w u2 D.lists
theorem iB.same{D:fW}{w w':er}(a:∀b,A b->w'.heap[b]? =w.heap[b]?)(h:iB A m D w):iB A m D w':=by obtain⟨c,d,e,f,g,i,j,k⟩:=h.at_;refine⟨h.ok,h.lt,c,d,e,f,g,(a _ h.lt).trans i,j.same a λ_ _ h=>h,k.same a λ_ _ h=>h.same a λ_ _ h=>h.same a λ_ _ h=>h⟩
def Kd(T:Nat)(w:er)(e:fR)(b:Nat)(a:ew):Prop:=(e=none/\a=[]/\b=0)\/∃c d,e=some ⟨c,0,none⟩/\T<c/\w.heap[c]? =some (.cells d 3)/\d.size=b/\a.length<=b/\∀k (h:k<a.length),d[k]? =some (.int .i64 a[k])
def CK(L:Nat->Nat):ew:=[L 0,L 1,L 2,L 3,L 4,L 5]
def Ol(L:Nat->Nat):eu:=.agg #[.int .u8 (L 0),.int .u8 (L 1),.int .u8 (L 2),.int .u8 (L 3),.int .u8 (L 4),.int .u8 (L 5)]
def jO(D:fW)(L:Nat->Nat):iA:=(CK L).map λx=>D.counts.getD x 0
def fA(D:fW)(L:Nat->Nat)(a:ew):Sp:=if(jO D L).any (·<0)then none else some (a.map Int.ofNat,(jO D L).foldl max 0,(jO D L).sum)
def yN(a:Nat)(w:er)(s:Sp)(y:SV):Prop:=∀l m k,s=some (l,m,k)->l≠[]->∃j,a<=j/\y.sc=(Question.appendCap l.length 0 3).cut (w.tape j (.appendCap l.length 0 3))
def IM{D:fW}(h:iB A m D w)(x:Nat)(i:x<32):w.cell? ⟨m,3+x,none⟩=some (.int .i64 (D.counts.getD x 0)):=by
 obtain⟨b,c,d,j,_,f,_,_⟩:=h.at_;have k:=h.ok.cnt;have e:(fC b c d D.counts)[3+x]? =some (i64 (D.counts.getD x 0)):=by
  have a:x<D.counts.length:=by omega
  have g:(fC b c d D.counts)[3+x]? =(b::c::d::D.counts.map (Value.int .i64))[3+x]? :=by simp[fC]
  rw[g,show 3+x=x+1+1+1 by omega,Cj,Cj,Cj,ng,gC a,kL,gC a];rfl
 simp only[World.cell?,f];exact e
def IN(D:fW)(L:Nat->Nat):(jO D L).length=6:=rfl
def AC(D:fW)(L:Nat->Nat)(k:Nat)(h:k<(jO D L).length):(jO D L)[k]=D.counts.getD (L k) 0:=by
 have a:k<6:=h;have:k=0\/k=1\/k=2\/k=3\/k=4\/k=5:=by omega
 obtain rfl|rfl|rfl|rfl|rfl|rfl:=this<;>rfl
theorem Om:∀(l:iA),(∀c∈l,c<=5)->l.any (·<0)=false->0<=l.sum/\l.sum<=5*l.length
 |[],_,_=>by simp
 |x::l,h,a=>by simp only[List.any_cons,Bool.or_eq_false_iff,decide_eq_false_iff_not]at a;have:=Om l (λc b=>h c (gG _ b)) a.2;have d:=h x (gD ..);simp only[List.sum_cons,gf];omega
theorem On:∀(l:iA) (a:Int),(∀c∈l,c<=5)->0<=a->a<=5->0<=l.foldl max a/\l.foldl max a<=5
 |[],a,_,b,d=>⟨b,d⟩
 |x::l,a,h,b,d=>by have f:=h x (gD ..);exact On l (max a x) (λc e=>h c (gG _ e)) (by omega) (by omega)
def CL{D:fW}(h:D.Ok)(x:Nat)(b:x<32): -1<=D.counts.getD x 0/\D.counts.getD x 0<=5:=by
 have a:x<D.counts.length:=by rw[h.cnt];exact b
 rw[kL,gC a];exact h.cval _ (ft a)
def Ke{D:fW}(h:D.Ok){L:Nat->Nat}(b:∀s,s<6->L s<32):∀c∈jO D L,c<=5:=by
 intro c d;obtain⟨x,a,rfl⟩:=iX.1 d;have:x<32:=by simp only[CK,gI,tq,pC]at a;obtain rfl|rfl|rfl|rfl|rfl|rfl:=a<;>exact b _ (by omega)
 exact(CL h x this).2
def Gb(a b c d e f:eu)(w:er):(Instr.index 204 (.agg #[a,b,c,d,e,f]) (.int .i64 0)).run V.prog w=.ok a w:=by kernel_rfl
def Gc(b a c d e f:eu)(w:er):(Instr.index 204 (.agg #[b,a,c,d,e,f]) (.int .i64 1)).run V.prog w=.ok a w:=by kernel_rfl
def Ge(b c a d e f:eu)(w:er):(Instr.index 204 (.agg #[b,c,a,d,e,f]) (.int .i64 2)).run V.prog w=.ok a w:=by kernel_rfl
def Gf(b c d a e f:eu)(w:er):(Instr.index 204 (.agg #[b,c,d,a,e,f]) (.int .i64 3)).run V.prog w=.ok a w:=by kernel_rfl
def Gg(b c d e a f:eu)(w:er):(Instr.index 204 (.agg #[b,c,d,e,a,f]) (.int .i64 4)).run V.prog w=.ok a w:=by kernel_rfl
def Gi(b c d e f a:eu)(w:er):(Instr.index 204 (.agg #[b,c,d,e,f,a]) (.int .i64 5)).run V.prog w=.ok a w:=by kernel_rfl
def LN(w:er):(Instr.build 199 #[(3,.bool true)]).run V.prog w=.ok (.agg #[.slice none 0 0,.int .i64 0,.int .i64 0,.bool true]) w:=by kernel_rfl
def IP(w:er):(Instr.build 199 #[]).run V.prog w=.ok (.agg #[.slice none 0 0,.int .i64 0,.int .i64 0,.bool false]) w:=by kernel_rfl
def Kf(D:fW)(L:Nat->Nat)(c:ew)(d:Nat)(w:er)(e:Ending)(a:er):Prop:=
 ∃y:SV,e=.returned y.val/\fq (λb=>w.heap.size<=b) a (fA D L c) y/\yN d a (fA D L c) y/\Below w.heap.size w a/\w.drawn<=a.drawn
def IQ(n0:eN)(pb T:Nat)(D:fW)(L:Nat->Nat)(d:ew)(pa:fR)(pc W:Nat)(w:er)(R:iB n0 pb D w)(ao:∀b,n0 b->b<w.heap.size)(hL:∀s,s<6->L s<32)(X:Kd T w pa pc d)(ap:d=[]->pa=none)(aq:d.length<=65536)(hj:W<=w.drawn):Calls V.prog 229 #[.pointer (some ⟨pb,0,none⟩),.slice pa d.length pc,Ol L] w (Kf D L d W w):=by
 have aE:=LN;have aF:=IP;have ar:pb<w.heap.size:=ao _ R.lt;unfold Ol;go_enter V.func229,Tryz.ntmps229;go_wp2
 go_loopw [13] (λi wr=>∃k:Nat,k<=6/\i=i64 k/\Below w.heap.size w wr/\w.heap.size+3<=wr.heap.size/\wr.heap[w.heap.size+1+1]? =some (gx ⟨none,0,0,((jO D L).take k).foldl max 0,((jO D L).take k).sum,true⟩)/\
  wr.heap[w.heap.size+1]? =some (gx (fg []))/\((jO D L).take k).any (·<0)=false/\wr.drawn=w.drawn) (λi _=>6-(intOf i).toNat)
 case atStart=>
  refine⟨0,by omega,rfl,(((Below.refl _ _).alloc (eF _) _).alloc (by simp) _).alloc (by simp;omega) _,by simp,?_,?_,rfl,rfl⟩;have:=io ((w.alloc (.cells #[.int .u8 (L 0),.int .u8 (L 1),.int .u8 (L 2),.int .u8 (L 3),.int .u8 (L 4),.int .u8 (L 5)] 204)).alloc (gx (fg []))) (gx ⟨none,0,0,0,0,true⟩);rw[World.size_alloc,World.size_alloc]at this;exact this;have h2:=io (w.alloc (.cells #[.int .u8 (L 0),.int .u8 (L 1),.int .u8 (L 2),.int .u8 (L 3),.int .u8 (L 4),.int .u8 (L 5)] 204)) (gx (fg []));rw[World.size_alloc]at h2;have h3:=alloc_old ((w.alloc (.cells #[.int .u8 (L 0),.int .u8 (L 1),.int .u8 (L 2),.int .u8 (L 3),.int .u8 (L 4),.int .u8 (L 5)] 204)).alloc (gx (fg []))) (gx ⟨none,0,0,0,0,true⟩) (b:=w.heap.size+1) (by simp);exact h3.trans h2
 case round=>
  obtain⟨k,hk,rfl,S,au,ho,hr,q,Y⟩:=hrel;have Z:=On ((jO D L).take k) 0 (λc hc=>Ke R.ok hL c (List.mem_of_mem_take hc)) (by omega) (by omega);have H:=Om ((jO D L).take k) (λc hc=>Ke R.ok hL c (List.mem_of_mem_take hc)) q;rw[tp,IN]at H;obtain⟨f,u⟩:∃f,f=((jO D L).take k).foldl max 0:=⟨_,rfl⟩;obtain⟨j,x⟩:∃j,j=((jO D L).take k).sum:=⟨_,rfl⟩;rw[<-u,<-x]at ho;rw[<-u]at Z;rw[<-x]at H;obtain⟨o1,o2,o3,o4,f1,f2,f3,f4⟩:=gl ho;obtain⟨r1,r2,r3,r4,g1,g2,g3,g4⟩:=gl hr;have HO:=Go.Lib.hid ho;have HR:=Go.Lib.hid hr;have HA:=Go.Lib.hid q;have HD:=Go.Lib.hid Y;have HM:=Go.Lib.hid u;have HS:=Go.Lib.hid x;clear ho hr q Y u x;obtain⟨m0,m5⟩:=Z;obtain⟨s0,s5⟩:=H;have aG:j<=30:=by omega
  clear s5;by_cases r:k<6;have hx:=hL k r;have aa:=CL R.ok (L k) hx;have I:wr.cell? (eQ pb (3+L k))=some (i64 (D.counts.getD (L k) 0)):=((CF S).1 _ _ ar).trans (IM R _ hx);obtain⟨p,J⟩:∃p,p=D.counts.getD (L k) 0:=⟨_,rfl⟩;rw[<-J]at I aa;obtain⟨c0,c5⟩:=aa;have aB:∀w,(Instr.index 204 (.agg #[.int .u8 (L 0),.int .u8 (L 1),.int .u8 (L 2),.int .u8 (L 3),.int .u8 (L 4),.int .u8 (L 5)]) (i64 k)).run V.prog w=.ok (.int .u8 (L k)) w:=by
   intro w;have:k=0\/k=1\/k=2\/k=3\/k=4\/k=5:=by omega
   obtain rfl|rfl|rfl|rfl|rfl|rfl:=this;exact Gb ..;exact Gc ..;exact Ge ..;exact Gf ..;exact Gg ..;exact Gi ..
  have HC:=Go.Lib.hid J;clear J R X;by_cases A:p<0;go_wp2;have K:=nk (s:=fg []) HR.out;have hB:Below w.heap.size w (ly wr (w.heap.size+1) (fg [])):=nm S (nh _);obtain⟨B,C,E,F,_⟩:=gl K;simp only[ly,fg]at B C E F;have a:fA D L d=none:=by
   have ab:p∈jO D L:=by have h:=AC D L k r;rw[<-HC.out]at h;exact h▸ft r
   unfold fA;rw[eC (List.any_eq_true.2 ⟨p,ab,by simpa using A⟩)]
  refine bodyPost_ret (v:=(fg []).val) (by simp[results,Tryz.results229,go_sem,B,C,E,F,SV.val,fg]) rfl<|(show Kf D L d W w (.returned (fg []).val) (ly wr (w.heap.size+1) (fg []))from⟨fg [],rfl,?_,?_,hB,?_⟩);rw[a];rfl;rw[a];intro l m k h;cases h;show w.drawn<=wr.drawn;rw[HD.out];exact eF _
  ·go_wp2;go_roundw;case rel=>
    have ac:(if f<p then p else f)=max f p:=by by_cases h:f<p;rw[eC h];omega;rw[ez h];omega
    have K:((wr.setCell (eQ (w.heap.size+1+1) 1) (i64 (if f<p then p else f))).setCell (eQ (w.heap.size+1+1) 2) (i64 (j+p))).heap[w.heap.size+1+1]? =some (gx ⟨none,0,0,if f<p then p else f,j+p,true⟩):=by have:=HO.out;simp[World.setCell,oP,this,gx]
    have ad:(jO D L).take (k+1)=(jO D L).take k++[p]:=by have h:=AC D L k r;rw[n7 _ _ r,h,HC.out]
    refine⟨k+1,by omega,by go_num,(S.setCell (Cp (nh _)) _).setCell (Cp (nh _)) _,by simpa[World.setCell]using au,K.trans ?_,?_,?_,HD.out⟩;rw[ad,re,List.sum_append,<-HM.out,<-HS.out,ac];simp;rw[eV.Cr.gE _ _ _ _ (by simp),eV.Cr.gE _ _ _ _ (by simp)];exact HR.out;rw[ad,List.any_append,HA.out];simpa using A
   case measure=>simp[intOf];omega
  obtain rfl:k=6:=by omega
  obtain⟨rfl,rfl,rfl⟩|⟨U,cs,rfl,aH,M,aC,aI,G⟩:=X;go_wp2_with (go_at_call 128;refine(LM _).mono ?_;rintro e g ⟨rfl,rfl⟩);have h6:(jO D L).take 6=jO D L:=tu (eF _);have y:(g.setCell (eQ (w.heap.size+1+1) 0) (ig)).heap[w.heap.size+1]? =some (gx (fg [])):=(eV.Cr.gE _ _ _ _ (by simp)).trans HR.out;have K:=nk (s:=⟨none,0,0,f,j,true⟩) y;have hB:Below w.heap.size w (ly (g.setCell (eQ (w.heap.size+1+1) 0) (ig)) (w.heap.size+1) ⟨none,0,0,f,j,true⟩):=nm (S.setCell (Cp (nh _)) _) (nh _);obtain⟨B,C,E,F,_⟩:=gl K;simp only[ly]at B C E F;have a:fA D L []=some ([],f,j):=by have ha:=HA.out;have hm:=HM.out;have hs:=HS.out;rw[h6]at ha hm hs;unfold fA;rw[ez (by rw[ha];simp),<-hm,<-hs];rfl
  refine bodyPost_ret (v:=(SV.mk none 0 0 f j true).val) (by simp[results,Tryz.results229,go_sem,B,C,E,F,SV.val]) rfl<|(show Kf D L [] W w (.returned (SV.mk none 0 0 f j true).val) (ly (g.setCell (eQ (w.heap.size+1+1) 0) (ig)) (w.heap.size+1) ⟨none,0,0,f,j,true⟩)from⟨_,rfl,?_,?_,hB,?_⟩);rw[a];exact⟨rfl,rfl,rfl,rfl,.inl ⟨rfl,rfl,rfl⟩⟩;rw[a];intro l m k h N;cases h;exact absurd rfl N;show w.drawn<=g.drawn;rw[HD.out];exact eF _;have aD:0<d.length:=by
   cases d with
   |nil=>have:=ap rfl;cases this
   |cons=>simp
  obtain⟨l,N⟩:∃l,l=d.map Int.ofNat:=⟨_,rfl⟩;have O:l.length=d.length:=by rw[N];simp
  have av:U<w.heap.size:=eV.lt_of_heap M;have ae:U<wr.heap.size:=by omega
  have af:∀k (h:k<l.length),wr.cell? (eQ U k)=some (i64 l[k]):=λk h=>by
   have h':k<d.length:=by omega
   have e:gY wr U cs 3:=(S.block U av).trans M;simp only[World.cell?,e];have:=G k h';simp only[N,List.getElem_map];exact this
  have HL:=Go.Lib.hid N;have aw:=Go.Lib.hid af;clear N af G M;have o:=IL U pc l wr (by omega) (by omega) ae aw.out;have t:=Oi wr l.length 0;obtain⟨n,P⟩:∃n,n=yM wr l.length 0:=⟨_,rfl⟩;rw[<-P]at o t;rw[O]at o t;have ag:=Go.Lib.hid P;have z:=Go.Lib.hid O;clear P O;have ah:∀g,g=((wr.alloc (.cells #[] 3)).alloc (.cells (jc l n) 3)).drew->(g.heap[w.heap.size+1+1]? =some (gx ⟨none,0,0,f,j,true⟩)/\g.heap[w.heap.size+1]? =some (gx (fg []))/\
   Below w.heap.size w g/\gY g (wr.heap.size+1) (jc l n) 3/\g.drawn=wr.drawn+1/\g.tape=wr.tape):=by
   rintro g rfl;refine⟨(alloc_old _ _ (by simp;omega)).trans ((alloc_old _ _ (by omega)).trans HO.out),(alloc_old _ _ (by simp;omega)).trans ((alloc_old _ _ (by omega)).trans HR.out),((S.alloc (by omega) _).alloc (by simp;omega) _).drew,?_,rfl,rfl⟩;have:=io (wr.alloc (.cells #[] 3)) (.cells (jc l n) 3);rw[World.size_alloc]at this;exact this
  go_wp2_with (go_at_call 128;refine o.mono ?_;clear o;rintro e g ⟨rfl,ai⟩;obtain⟨ax,y,ay,aj,ak,al⟩:=ah g ai;clear ah ai;obtain⟨aJ,aK,aL,aM,aN,aO,aP,aQ⟩:=gl ax;obtain⟨aR,aS,aT,aU,aV,aW,aX,aY⟩:=gl y);have az:(g.setCell (eQ (w.heap.size+1+1) 0) (fP (wr.heap.size+1) d.length n)).heap[w.heap.size+1]? =some (gx (fg [])):=(eV.Cr.gE _ _ _ _ (by simp)).trans y;have K:=nk (s:=⟨some (eQ (wr.heap.size+1) 0),d.length,n,f,j,true⟩) az;have hB:Below w.heap.size w (ly (g.setCell (eQ (w.heap.size+1+1) 0) (fP (wr.heap.size+1) d.length n)) (w.heap.size+1) ⟨some (eQ (wr.heap.size+1) 0),d.length,n,f,j,true⟩):=nm (ay.setCell (Cp (nh _)) _) (nh _);have aA:(ly (g.setCell (eQ (w.heap.size+1+1) 0) (fP (wr.heap.size+1) d.length n)) (w.heap.size+1) ⟨some (eQ (wr.heap.size+1) 0),d.length,n,f,j,true⟩).heap[wr.heap.size+1]? =some (.cells (jc l n) 3):=
   (rr _ _ _ (by omega)).trans ((eV.Cr.gE _ _ _ _ (by simp;omega)).trans aj)
  obtain⟨B,C,E,F,_⟩:=gl K;simp only[ly]at B C E F;have Q:l≠[]:=by intro h;have:=z.out;rw[h]at this;simp at this;omega
  have a:fA D L d=some (l,f,j):=by have h6:(jO D L).take 6=jO D L:=tu (eF _);have ha:=HA.out;have hm:=HM.out;have hs:=HS.out;rw[h6]at ha hm hs;unfold fA;rw[ez (by rw[ha];simp),<-hm,<-hs,HL.out]
  have am:n<2^63:=by rw[ag.out];exact Oj wr _ _ (by rw[z.out];exact aq)
  refine bodyPost_ret (v:=(SV.mk (qh (wr.heap.size+1) 0) d.length n f j true).val) (by simp[results,Tryz.results229,go_sem,B,C,E,F,SV.val]) rfl<|(show Kf D L d W w (.returned (SV.mk (qh (wr.heap.size+1) 0) d.length n f j true).val) (ly (g.setCell (eQ (w.heap.size+1+1) 0) (fP (wr.heap.size+1) d.length n)) (w.heap.size+1) ⟨some (eQ (wr.heap.size+1) 0),d.length,n,f,j,true⟩)from⟨_,rfl,?_,?_,hB,?_⟩);rw[a];exact⟨rfl,rfl,rfl,z.out.symm,.inr ⟨Q,wr.heap.size+1,by omega,rfl,z.out▸t,am,(0,0),λaZ h=>absurd h.2 (Nat.not_lt_zero _),aA⟩⟩;rw[a];intro l' m' k' h N;cases h;refine⟨wr.drawn,by rw[HD.out];exact hj,?_⟩;show n=_;have an:(ly (g.setCell (eQ (w.heap.size+1+1) 0) (fP (wr.heap.size+1) d.length n)) (w.heap.size+1) ⟨some (eQ (wr.heap.size+1) 0),d.length,n,f,j,true⟩).tape=wr.tape:=al;rw[an,ag.out];rfl;show w.drawn<=g.drawn;rw[ak,HD.out];exact nh _
def rz(T:Nat)(w:er)(e:fR)(a:Nat)(b:ew):Prop:=(e=none/\b=[]/\a=0)\/∃c d,e=some ⟨c,0,none⟩/\T<c/\w.heap[c]? =some (.cells d 3)/\d.size=a/\b.length<=a/\a<2^63/\(∀k (h:k<b.length),d[k]? =some (.int .i64 b[k]))
def rz.U4(h:rz m w a k l):Kd m w a k l:=by obtain h|⟨b,c,d,e,f,g,i,_,j⟩:=h;exact .inl h;exact .inr ⟨b,c,d,e,f,g,i,j⟩
structure Eb(T:Nat)(w:er)(ps:List Nat)(i:Nat)(pa:Option Addr)(pc:Nat)(v:eu)(w':er):Prop where
 val:∃Rf U5,v=.slice Rf (ps.length+1) U5/\rz T w' Rf U5 (ps++[i])/\(Rf=pa\/∃b,w.heap.size<=b/\Rf=some ⟨b,0,none⟩)
 os:w'.os=w.os
 tape:w'.tape=w.tape
 output:w'.output=w.output
 size:w.heap.size<=w'.heap.size
 block:∀b,b<w.heap.size->pa≠some ⟨b,0,none⟩->w'.heap[b]? =w.heap[b]?
 drawn:w.drawn<=w'.drawn
 old:rz T w' pa pc ps
 stay:∀b,pa=some ⟨b,0,none⟩->w.cell? ⟨b,ps.length,none⟩=some (.int .i64 i)->w'.heap[b]? =w.heap[b]?
def V.Oo:V.prog.info? 3=some Tryz.t3:=by kernel_rfl
def Kg:Tryz.t3.zero=some (.int .i64 0):=by kernel_rfl
def uQ:Tryz.t3.size=1:=by kernel_rfl
def Gj(T:Nat)(w:er)(a:ew)(i:Nat)(F:fR)(q:Nat)(E:eD)(B:Nat)(K:rz T w F q a)(I:T<w.heap.size)(L:w.cell? ⟨B,0,none⟩=some (.int .i64 i))(S:a.length<65536):∃v J,(Builtin.append_ #[27,27] E #[.slice F a.length q,.slice (some ⟨B,0,none⟩) 1 1]).run V.prog w=.ok v J/\Eb T w a i F q v J:=by
 have d:∀j v,[Value.int .i64 i][j]? =some v->w.cell? (((eQ B 0):Addr).add j)=some v:=by
  intro j v h;cases j with
  |zero=>cases h;exact L
  |succ j=>simp at h
 obtain⟨rfl,rfl,rfl⟩|⟨g,o,rfl,r,c,s,C,t,f⟩:=K;have A:=run_append_nil (P:=V.prog) w 27 E 3 _ _ V.wD V.Oo Kg (eQ B 0) 1 1 [i64 i] (by rw[uQ];rfl) d (by decide) (by decide) (by rw[wP];decide);refine⟨_,_,A,⟨_,_,rfl,.inr ⟨w.heap.size,_,rfl,I,io w.drew _,?_,grownCap_ge ..,?_,?_⟩,.inr ⟨_,eF _,rfl⟩⟩,rfl,rfl,rfl,?_,?_,?_,?_,?_⟩;have:=grownCap_ge w 1 0 3;simp[size_zeroCells,Value.cells];omega;have:=grownCap_le_maxLen w 1 0 3 (by decide);simp only[maxLen]at this;omega;intro k u;obtain rfl:k=0:=by simpa using u
 rw[wA (by simp)];rfl;rw[World.size_alloc];exact nh _;intro b p _;exact alloc_old w.drew _ p;exact nh _;exact .inl ⟨rfl,rfl,rfl⟩;intro b p;cases p;have D:=eV.lt_of_heap c;by_cases l:a.length+1<=q;have x:∀j,j<[Value.int .i64 i].length->gY w g o 3/\j=0:=λj y=>⟨c,by simpa using y⟩
 have A:=run_append_room_cells (P:=V.prog) w 27 E 3 _ V.wD V.Oo g 0 a.length q (eQ B 0) 1 1 [i64 i] (by rw[uQ];rfl) d (by simp[Value.oneCell']) l
  (λj y=>by
   obtain⟨_,rfl⟩:=x j y;have:a.length<o.size:=by omega
   simp[World.cell?,c,uQ,this])
  (λj y=>by simp[World.frozen?,c])
 have M:w.setCells g (0+a.length*Tryz.t3.size) [i64 i]=w.setCell (eQ g a.length) (i64 i):=by rw[uQ];simp[World.setCells]
 rw[M]at A;refine⟨_,_,A,⟨_,_,rfl,.inr ⟨g,o.set! a.length (i64 i),rfl,r,?_,?_,?_,t,?_⟩,.inl rfl⟩,rfl,rfl,rfl,?_,?_,eF _,?_,?_⟩;simp[World.setCell,oP,c];simpa using s;simpa using l;intro k u;have:a.length<o.size:=by omega
 by_cases h:k<a.length;have G:=f k h;have m:a.length≠k:=by omega
 simp only[Array.set!_eq_setIfInBounds];rw[gm m,G,nE h];obtain rfl:k=a.length:=by simp at u;omega
 simp[this];simp[World.setCell];intro b p m;exact eV.Cr.gE _ _ _ _ (by rintro rfl;exact m rfl);refine .inr ⟨g,o.set! a.length (i64 i),rfl,r,?_,by simpa using s,C,t,λk u=>?_⟩;simp[World.setCell,oP,c];have m:a.length≠k:=by omega
 simp only[Array.set!_eq_setIfInBounds];rw[gm m];exact f k u;intro b p N;obtain rfl:g=b:=eX Addr.block (eP p);have H:a.length<o.size:=by omega
 have O:o[a.length]? =some (i64 i):=by simpa[World.cell?,c]using N
 have Q:o.setIfInBounds a.length (i64 i)=o:=Ns λj=>by by_cases e:a.length=j;subst e;rw[mG H,O];rw[gm e]
 simp[World.setCell,oP,c,Q]
 have z:∀j v,(a.map λn=>Value.int .i64 (n:Nat))[j]? =some v->w.cell? (((eQ g 0):Addr).add j)=some v:=by
  intro j v h;have y:j<a.length:=by have:=(kS.1 h).1;simpa using this
  have G:=f j y;rw[ng,gC y]at h;rw[Addr.add_lit];simp only[World.cell?,c,eJ];rw[G];exact h
 have A:=run_append_grow (P:=V.prog) w 27 E 3 _ _ V.wD V.Oo Kg (eQ g 0) a.length q (a.map λn=>Value.int .i64 (n:Nat)) (by rw[uQ];simp) z (eQ B 0) 1 1 [i64 i] (by rw[uQ];rfl) d (by omega) (by omega) (growslice_fits (by omega) (by rw[wP];omega));refine⟨_,_,A,⟨_,_,rfl,.inr ⟨w.heap.size,_,rfl,I,io w.drew _,?_,?_,?_,?_⟩,.inr ⟨_,eF _,rfl⟩⟩,rfl,rfl,rfl,?_,?_,?_,?_,?_⟩;have:=grownCap_ge w (a.length+1) q 3;simp[size_zeroCells,Value.cells];omega;have:=grownCap_ge w (a.length+1) q 3;simpa using this;have:=grownCap_le_maxLen w (a.length+1) q 3 (by simp only[maxLen];omega);simp only[maxLen]at this;omega;intro k u;have R:k<a.length+1:=by simpa using u
 by_cases h:k<a.length;rw[wA (by simp;omega),wA (by simpa using h)];simp[h];obtain rfl:k=a.length:=by omega
 rw[wA (by simp),zn (by simp)];simp;rw[World.size_alloc];exact nh _;intro b p _;exact alloc_old w.drew _ p;exact nh _;exact .inr ⟨g,o,rfl,r,(alloc_old w.drew _ D).trans c,s,C,t,f⟩;intro b p _;obtain rfl:g=b:=eX Addr.block (eP p);exact alloc_old w.drew _ D
structure eY(F:Nat->Prop)(w w':er):Prop where
 os:w'.os=w.os
 tape:w'.tape=w.tape
 output:w'.output=w.output
 size:w.heap.size<=w'.heap.size
 drawn:w.drawn<=w'.drawn
 block:∀b,b<w.heap.size->¬F b->w'.heap[b]? =w.heap[b]?
def eY.refl(F:eN)(w:er):eY F w w:=⟨rfl,rfl,rfl,eF _,eF _,λ_ _ _=>rfl⟩
theorem eY.trans{F G H:eN}(h:eY F w t)(k:eY G t e)(c:∀x,x<w.heap.size->F x->H x)(d:∀x,x<w.heap.size->G x->H x):eY H w e:=
 ⟨k.os.trans h.os,k.tape.trans h.tape,k.output.trans h.output,ff h.size k.size,ff h.drawn k.drawn,λx a b=>(k.block x (fN a h.size) λg=>b (d x a g)).trans (h.block x a λf=>b (c x a f))⟩
theorem eY.alloc(h:eY A w t)(o:Obj):eY A w (t.alloc o):=
 ⟨h.os,h.tape,h.output,by rw[World.size_alloc];exact Cp h.size,h.drawn,λx a b=>(alloc_old t o (fN a h.size)).trans (h.block x a b)⟩
theorem eY.setCell(h:eY A w t)(a:Addr)(v:eu)(d:a.block<w.heap.size->A a.block):eY A w (t.setCell a v):=
 ⟨h.os,h.tape,h.output,by simpa[World.setCell]using h.size,h.drawn,λx b c=>(eV.Cr.gE _ _ _ _ (by rintro rfl;exact c (d b))).trans (h.block x b c)⟩
def Eb.keep(h:Eb m w l i a k x t):eY (λb=>a=some ⟨b,0,none⟩) w t:=
 ⟨h.os,h.tape,h.output,h.size,h.drawn,h.block⟩
def eY.cell(h:eY A w t){x o:Nat}(a:x<w.heap.size)(b:¬A x):t.cell? ⟨x,o,none⟩=w.cell? ⟨x,o,none⟩:=by simp only[World.cell?,h.block x a b]
def lL.len{d:Type}{E:er->eu->d->Prop}{l:List d}(h:lL A E z T w x l):∃a c,x=.slice a l.length c:=by obtain⟨rfl,rfl⟩|⟨b,c,f,g,i,e,j,k,m,n,o⟩:=h;exact⟨_,_,rfl⟩;exact⟨_,_,e⟩
def lL.at_{a:Type}{E:er->eu->a->Prop}{l:List a}(h:lL A E z T w x l)(k:Nat)(d:k<l.length):∃b c u,x=.slice (some ⟨b,0,none⟩) l.length c/\A b/\w.cell? ⟨b,k,none⟩=some u/\E w u l[k]:=by obtain⟨rfl,rfl⟩|⟨b,c,n,o,e,f,g,p,q,i,r⟩:=h;cases d;obtain⟨u,j,m⟩:=i k d;exact⟨b,c,u,f,e,by simp only[World.cell?,g];exact j,m⟩
def gH(a:Nat)(c:fR)(d e:Nat)(L:Nat->Nat)(y:SV):Obj:=
 .cells #[.pointer (some ⟨a,0,none⟩),.slice c d e,.int .u8 (L 0),.int .u8 (L 1),.int .u8 (L 2),.int .u8 (L 3),.int .u8 (L 4),.int .u8 (L 5),.slice y.sa y.sl y.sc,.int .i64 y.m,.int .i64 y.k,.bool y.b] 245
def kA{L:Nat->Nat}{y:SV}(h:w.heap[m]? =some (gH k a i j L y)):w.cell? ⟨m,0,none⟩=some (.pointer (some ⟨k,0,none⟩))/\w.cell? ⟨m,1,none⟩=some (.slice a i j)/\(∀s,s<6->w.cell? ⟨m,2+s,none⟩=some (.int .u8 (L s)))/\zt w m 8 y/\∀o,w.frozen? ⟨m,o,none⟩=false:=by
 refine⟨by simp[World.cell?,h,gH],by simp[World.cell?,h,gH],?_,?_,λo=>by simp[World.frozen?,h,gH]⟩;intro s b;have:s=0\/s=1\/s=2\/s=3\/s=4\/s=5:=by omega
 obtain rfl|rfl|rfl|rfl|rfl|rfl:=this<;>simp[World.cell?,h,gH];simp[zt,World.cell?,h,gH]
def IR(L:Nat->Nat)(s v:Nat):Nat->Nat:=λx=>if x=s then v else L x
def j9(d:Nat)(l:ew)(L:Nat->Nat):Nat->Nat:=λs=>if s∈l then pP (L s) d else L s
def Rg:∀x,x<32->∀d,d<5->pP (pP x d) d=pP x d:=by decide+kernel
def Ec{L:Nat->Nat}(c:d<5)(a:∀s,s<6->L s<32):∀s,s<6->j9 d l L s<32:=by intro s b;unfold j9;split;exact AA _ (a s b) _ c;exact a s b
def CM{L:Nat->Nat}(c:d<5)(e:∀s,s<6->L s<32)(k:Nat)(f:k<l.length)(g:l[k]<6):IR (j9 d (l.take k) L) l[k] (pP (j9 d (l.take k) L l[k]) d)=j9 d (l.take (k+1)) L:=by
 funext s;have a:∀s,s∈l.take (k+1)↔s∈l.take k\/s=l[k]:=λs=>by rw[n7 _ _ f];exact List.mem_append.trans (or_congr nR gW)
 unfold IR j9;by_cases b:s=l[k];subst b;rw[eC rfl,eC ((a _).2 (.inr rfl))];split;exact Rg _ (e _ g) _ c;rfl;rw[ez b];by_cases h:s∈l.take k;rw[eC h,eC ((a _).2 (.inl h))];rw[ez h,ez λi=>((a _).1 i).elim h b]
structure Ext(w w':er):Prop where
 os:w'.os=w.os
 tape:w'.tape=w.tape
 output:w'.output=w.output
 size:w.heap.size<=w'.heap.size
 drawn:w.drawn<=w'.drawn
 block:∀b,b<w.heap.size->w'.heap[b]? =w.heap[b]?
def Ext.refl(w:er):Ext w w:=⟨rfl,rfl,rfl,eF _,eF _,λ_ _=>rfl⟩
def iJ{v:eu}{w:er}:v=v/\Ext w w:=⟨rfl,Ext.refl _⟩
theorem Ext.trans{a b c:er}(h:Ext a b)(k:Ext b c):Ext a c:=
 ⟨k.os.trans h.os,k.tape.trans h.tape,k.output.trans h.output,ff h.size k.size,ff h.drawn k.drawn,λx d=>(k.block x (fN d h.size)).trans (h.block x d)⟩
theorem Ext.drew(w:er):Ext w w.drew:=⟨rfl,rfl,rfl,eF _,nh _,λ_ _=>rfl⟩
theorem Ext.alloc(w:er)(o:Obj):Ext w (w.alloc o):=⟨rfl,rfl,rfl,by rw[World.size_alloc];exact nh _,eF _,λx a=>alloc_old w o a⟩
def Ext.keep{w a:er}(h:Ext w a)(F:eN):eY F w a:=⟨h.os,h.tape,h.output,h.size,h.drawn,λb c _=>h.block b c⟩
def eY.ext{w a:er}{F:eN}(h:eY F w a)(d:∀b,b<w.heap.size->¬F b):Ext w a:=⟨h.os,h.tape,h.output,h.size,h.drawn,λb c=>h.block b c (d b c)⟩
def Ext.cell{w c:er}(e:Ext w c){v:eu}(d:w.cell? h=some v):c.cell? h=some v:=by
 have a:h.block<w.mN:=by refine yF λb=>?_;have:w.heap[h.block]? =none:=ou b;simp[World.cell?,this]at d
 exact(Go.Proofs.W.jF (e.block _ a)).trans d
def Ext.at_{w a:er}(h:Ext w a){b:Nat}(c:w.heap[b]? =some O):a.heap[b]? =some O:=(h.block b (eV.lt_of_heap c)).trans c
def mR(a:Act)(j:Nat):a.eval (.tmp j)=(a.tmps[j]?).getD undef:=by show a.tmps.getD j jg=_;simp[z0]
def Gk(a:Act)(d j:Nat)(v:eu)(h:d≠j):(a.put (some d) v).eval (.tmp j)=a.eval (.tmp j):=by rw[mR,mR];simp only[Act.put];rw[gm h]
def B2(a:Act)(d:Nat)(v:eu)(h:d<a.tmps.size):(a.put (some d) v).eval (.tmp d)=v:=by rw[mR];simp only[Act.put];rw[mG h];rfl
def tT(a:Act)(d:Option Nat)(j:Nat)(v:eu)(h:d≠some j):(a.put d v).eval (.tmp j)=a.eval (.tmp j):=by
 cases d with
 |none=>rfl
 |some d=>exact Gk a d j v (λe=>h (by rw[e]))
def xR(a:Act)(d:Nat)(v:eu)(h:d<a.tmps.size):(a.put (some d) v).eval (.tmp d)=v:=B2 a d v h
def o9(a:Act)(d:Option Nat)(v:eu):(a.put d v).tmps.size=a.tmps.size:=by cases d<;>simp[Act.put]
def wR(a:Act)(d:Option Nat)(v:eu):(a.put d v).defers=a.defers:=by cases d<;>rfl
def waits(ops:Array Oper)(k j:Nat):Bool:=match ops[k]? with
 |some o=>o.after.any λe=>e.on==j&&Region.binds .any e
 |none=>false
def wrote(ops:Array Oper)(j:Nat):Bool:=ops.any λo=>o.dst==some j
structure jd(E:er->er->Prop):Prop where
 refl:∀w,E w w
 trans:∀a b c,E a b->E b c->E a c
 drew:∀w,E w w.drew
def fl:jd Ext:=⟨Ext.refl,λ_ _ _=>Ext.trans,Ext.drew⟩
def kJ(F:eN):jd (eY F):=⟨eY.refl F,λ_ _ _ h k=>h.trans k (λ_ _ h=>h) λ_ _ h=>h,λw=>(Ext.drew w).keep F⟩
section
variable{P:eE}{ops:Array Oper}{Q:Exit->Act->er->Prop}{a0:Act}{w0:er}{N m:Nat}{zu:Nat->eu->er->Prop}{E:er->er->Prop}
def mw(L:Array Bool)(i j:Nat)(h:i<L.size):(L.setIfInBounds i true).getD j false=if i=j then true else L.getD j false:=by by_cases e:i=j;subst e;simp[h];simp[z0,gm e,e]
def AD{i:Nat}{o:Oper}{a:Act}{w:er}{K:Act->fa}(f:fG)(b:fZ)(g:ops[i]? =some o)(j:o.guard=none)(k:(execOp a.eval o).run P w=.ok (.enter f b) w)
 (l:Calls P f b w λe d=>(∃v,e=.returned v/\K (a.put o.dst v) d)\/∃c,e=.panicked c/\Q (.panic c) a d):wpOp P ops Q i K a w:=by
 have m:Region.wanted o (yielded ops a.tmps)=true:=by simp[Region.wanted,j]
 unfold wpOp;rw[g];simp only[m,fF];refine .inl ?_;unfold Oper.wp;rw[k];refine l.mono ?_;rintro e d (⟨v,rfl,h⟩|⟨c,rfl,h⟩);exact h;exact h
end
def Rh(E:er->fa)(p:oz):Prop:=∀v w a,p v w->E w a->p v a
def infoAt(ops:Array Oper)(i:Nat):Option (Op×Option (Nat×Bool)):=(ops[i]?).map λo=>(o.op,o.guard)
def LO{ops:Array Oper}{i:Nat}{o:Oper}{a:Op}{g:Option (Nat×Bool)}(b:ops[i]? =some o)(h:infoAt ops i=some (a,g)):o.op=a/\o.guard=g:=by unfold infoAt at h;rw[b]at h;simp only[kT,iz,Prod.mk.injEq]at h;exact h
def AE{ops:Array Oper}{i:Nat}{o:Oper}{d:Option Tmp}(a:ops[i]? =some o)(h:((ops[i]?).map (·.dst))=some d):o.dst=d:=by rw[a]at h;simpa using h
def xS{ops:Array Oper}{n:Nat}(i:Nat)(h:ops.size=n)(a:i<n):∃o,ops[i]? =some o:=⟨_,lA (by omega)⟩
def boxed(n:Nat)(b:fZ)(t:eD):oz:=λv w=>∃a,v=.pointer (some ⟨a,0,none⟩)/\n<=a/\w.heap[a]? =some (.cells b t)
def IS(n:Nat)(a:fZ)(t:eD):Rh Ext (boxed n a t):=λ_ _ _ ⟨b,c,d,e⟩ f=>⟨b,c,d,f.at_ e⟩
def eY.gM{F:eN}{w c:er}(e:eY F w c){v:eu}(d:w.cell? h=some v)(f:¬F h.block):c.cell? h=some v:=by
 have a:h.block<w.mN:=by refine yF λb=>?_;have:w.heap[h.block]? =none:=ou b;simp[World.cell?,this]at d
 exact(Go.Proofs.W.jF (e.block _ a f)).trans d
def eY.iZ{F:eN}{w a:er}(h:eY F w a){b:Nat}(c:w.heap[b]? =some O)(d:¬F b):a.heap[b]? =some O:=(h.block b (eV.lt_of_heap c) d).trans c
section
variable{P:eE}{Q:Exit->Act->er->Prop}{a:Act}{w:er}
def Gl{p:eN}(h:∃k,p k):∃k,p k/\∀j,p j->k<=j:=by
 obtain⟨k,d⟩:=h;induction k using Nat.strongRecOn with
 |_ k e=>
  by_cases c:∃j,p j/\j<k;obtain⟨j,b,a⟩:=c;exact e j a b;exact⟨k,d,λj b=>Nat.le_of_not_lt λa=>c ⟨j,b,a⟩⟩
def pd{c:Code}(I:Nat->Act->fa)(n:Nat)(o:I n a w)
 (b:∀k a w,I k a w->c.wp P (Exit.then (λl m=>∃f,f<k/\I f l m) Q) a w):(Code.loop c).wp P Q a w:=by
 let g:Act->er->Nat:=λa w=>by classical exact if h:∃k,I k a w then Classical.choose (Gl h)else 0
 have i:∀a w,(∃k,I k a w)->I (g a w) a w/\∀j,I j a w->g a w<=j:=by intro a w h;have:=kQ (Gl h);simp only[g,h,dif_pos];exact this
 refine wp_loop (λa w=>∃k,I k a w) g ⟨n,o⟩ λa w p=>?_;obtain⟨q,s⟩:=i a w p;refine mY (b (g a w) a w q) λe l m h=>?_;cases e with
 |normal=>
  obtain⟨f,r,d⟩:=h;exact⟨⟨f,d⟩,Nat.lt_of_le_of_lt ((i l m ⟨f,d⟩).2 f d) r⟩
 |_=>exact h
end
noncomputable def CN(a:fZ)(n:Nat):Act:=⟨a++Array.replicate (n-a.size) undef,[]⟩
def vP(a:fZ)(n:Nat)(h:a.size<=n):(CN a n).tmps.size=n:=by simp[CN];omega
def AF(a:fZ)(n i:Nat)(v:eu)(h:a[i]? =some v):(CN a n).eval (.tmp i)=v:=by have b:i<a.size:=(ik.1 h).1;rw[mR];show((a++Array.replicate (n-a.size) jg)[i]?).getD jg=v;rw[wA b,h];rfl
def Oq{P:eE}{b:Func}{c:Code}{w:er}{R:Ending->fa}(n:Nat) (e:P.funcs[K]? =some b)(f:b.body=some c)(g:b.ntmps=n)(h:∀a:Act,a.tmps.size=n->a.defers=[]->(∀i v,W[i]? =some v->a.eval (.tmp i)=v)->c.wp P (bodyPost P b R) a w)(d:W.size<=n):Calls P K W w R:=by refine calls_of_wp e f ?_;rw[g];exact h (CN W n) (vP _ _ d) rfl λi v j=>AF _ _ _ _ j
def zv{P:eE}{b:Func}{c:Code}{w:er}{R:Ending->fa}(n:Nat) (e:P.funcs[K]? =some b)(f:b.body=some c)(g:b.ntmps=n)(h:∀a:Act,a.tmps.size=n->a.defers=[]->(∀i v,W[i]? =some v->a.eval (.tmp i)=v)->c.wp P (bodyPostD P b R) a w)(d:W.size<=n):Calls P K W w R:=by refine calls_of_wp_defers e f ?_;rw[g];exact h (CN W n) (vP _ _ d) rfl λi v j=>AF _ _ _ _ j
def nq(b x:Sp):Sp:=if ol x b then x else b
def mD(l c:iA)(m k a b:Int):ol (some (l,m,k)) (some (c,a,b))=decide (m<a\/m=a/\k<b):=by simp only[ol];by_cases h:m=a;subst h;simp;simp[h]
def n8(x:Sp):nq none x=x:=by cases x<;>simp[nq,ol]
def Gm(a b c:Sp):nq (nq a b) c=nq a (nq b c):=by
 obtain _|⟨l,m,k⟩:=a;simp only[n8];obtain _|⟨o,f,i⟩:=b;have:nq (some (l,m,k)) none=some (l,m,k):=rfl;rw[this,n8];obtain _|⟨n,d,e⟩:=c;rfl;simp only[nq,mD,lU];by_cases h:f<m\/f=m/\i<k;by_cases g:d<f\/d=f/\e<i;have j:d<m\/d=m/\e<k:=by omega
 simp[h,g,j,mD];simp[h,g,mD];by_cases g:d<f\/d=f/\e<i;simp[h,g,mD];have j:¬(d<m\/d=m/\e<k):=by omega
 simp[h,g,j,mD]
def LP(l:List Sp):qO l=l.foldl nq none:=by
 cases l with
 |nil=>rfl
 |cons x a=>
  rw[nD,n8];rfl
theorem vQ{c:Type}(f:Sp->c->Sp)(a:∀b i,f b i=nq b (f none i)):∀(l:List c) (b:Sp),l.foldl f b=nq b (l.foldl f none)
 |[],b=>by cases b<;>rfl
 |i::l,b=>by rw[nD,nD,vQ f a l (f b i),vQ f a l (f none i),a b i,Gm]
def gh(D:fW)(k:Nat):Nat:=D.opn.getD k 0
def fh(D:fW)(k:Nat):List ew:=D.lists.getD k []
def fJ(D:fW):Nat->ew->(Nat->Nat)->Sp->Sp
 |0,c,L,a=>nq a (fA D L c)
 |n+1,c,L,a=>(List.range (fh D c.length).length).foldl (λb i=>fJ D n (c++[i]) (j9 (gh D c.length) ((fh D c.length).getD i []) L) b) a
theorem vu(D:fW):∀(n:Nat) (a:ew) (L:Nat->Nat) (b:Sp),fJ D n a L b=nq b (fJ D n a L none)
 |0,a,L,b=>by simp only[fJ,n8]
 |n+1,a,L,b=>by simp only[fJ];exact vQ (λb i=>fJ D n (a++[i]) (j9 (gh D a.jK) ((fh D a.jK).getD i []) L) b) (λb i=>vu D n _ _ b) _ b
def L0:Nat->Nat:=λ_=>0
def fL(D:fW):Sp:=fJ D D.opn.length [] L0 none
def Gn(D:fW)(i:Nat):Sp:=fJ D (D.opn.length-1) [i] (j9 (gh D 0) ((fh D 0).getD i []) L0) none
def IT(D:fW)(h:0<D.opn.length):fL D=qO ((List.range (fh D 0).length).map (Gn D)):=by rw[LP,List.foldl_map];unfold fL;obtain⟨m,a⟩:∃m,D.opn.length=m+1:=⟨D.opn.length-1,by omega⟩;rw[a];simp only[fJ,il];congr 1;funext b i;rw[vu];simp only[Gn,a,Nat.add_sub_cancel,sQ]
def pQ(d:Nat)(l:ew)(L:Nat->Nat):Nat->Nat:=λs=>if s∈l then tS (L s) d else L s
def LQ:∀x,x<32->∀d,d<5->tS (tS x d) d=tS x d:=by decide+kernel
def Ot:∀x,x<32->∀d,d<5->tS x d=x->tS (pP x d) d=x:=by decide+kernel
def Gp:∀x,x<32->∀d,d<5->∀a,a<5->d≠a->tS x a=x->tS (pP x d) a=pP x d:=by decide+kernel
def Gq{L:Nat->Nat}(c:d<5)(a:∀s,s<6->L s<32):∀s,s<6->pQ d l L s<32:=by intro s b;unfold pQ;split;exact Re _ (a s b) _ c;exact a s b
def IU{L:Nat->Nat}(c:d<5)(e:∀s,s<6->L s<32)(k:Nat)(f:k<l.length)(g:l[k]<6):IR (pQ d (l.take k) L) l[k] (tS (pQ d (l.take k) L l[k]) d)=pQ d (l.take (k+1)) L:=by
 funext s;have a:∀s,s∈l.take (k+1)↔s∈l.take k\/s=l[k]:=λs=>by rw[n7 _ _ f];exact List.mem_append.trans (or_congr nR gW)
 unfold IR pQ;by_cases b:s=l[k];subst b;rw[eC rfl,eC ((a _).2 (.inr rfl))];split;exact LQ _ (e _ g) _ c;rfl;rw[ez b];by_cases h:s∈l.take k;rw[eC h,eC ((a _).2 (.inl h))];rw[ez h,ez λi=>((a _).1 i).elim h b]
def Gr{L:Nat->Nat}(b:d<5)(c:∀s,s<6->L s<32)(e:∀s,s<6->tS (L s) d=L s):∀s,s<6->pQ d l (j9 d l L) s=L s:=by intro s a;unfold pQ j9;split;exact Ot _ (c s a) _ b (e s a);rfl
structure zM(N:Nat->Prop)(pb T:Nat)(D:fW)(w:er)(ps:List Nat)(pa:Option Addr)(pc:Nat)(L:Nat->Nat)(y:SV):Prop where
 plan:iB N pb D w
 sep:∀b,N b->b<w.heap.size/\b≠T/\pa≠some ⟨b,0,none⟩
 at_:w.heap[T]? =some (gH pb pa ps.length pc L y)
 own:rz T w pa pc ps
 lt:∀s,s<6->L s<32
 free:∀s,s<6->∀j,ps.length<=j->j<D.opn.length->tS (L s) (gh D j)=L s
 len:ps.length<=D.opn.length
 bare:D.opn.length=0->pa=none
structure ko(N:Nat->Prop)(pb T:Nat)(D:fW)(m0 j0:Nat)(w:er)(ps:List Nat)(pa:Option Addr)(pc:Nat)(L:Nat->Nat)(y:SV)(s:Sp):Prop where
 t:zM N pb T D w ps pa pc L y
 sched:fq (λb=>m0<=b/\b≠T/\pa≠some ⟨b,0,none⟩) w s y
 cap:yN j0 w s y
 size:m0<=w.heap.size
 drawn:j0<=w.drawn
def Gs(N:eN)(h T:Nat)(D:fW)(i j:Nat)(w:er)(k:ew)(d:fR)(L:Nat->Nat)(s:Sp)(e:Ending)(f:er):Prop:=
 e=.returned undef/\∃a c g l,ko N h T D i j f k a c g l s/\(∀s,s<6->g s=L s)/\eY (λb=>b=T\/d=some ⟨b,0,none⟩) w f/\(a=d\/∃b,w.heap.size<=b/\a=some ⟨b,0,none⟩)
def Ri:SV:=⟨none,0,0,0,0,false⟩
def Gt:Prop:=∀(N:eN) (b T:Nat) (D:fW) (c d:Nat) (w:er) (a:ew) (e:fR) (f:Nat) (L:Nat->Nat) (y:SV) (s:Sp) (i:Nat),ko N b T D c d w a e f L y s->a.length<D.opn.length->i<(fh D a.length).length->Calls V.prog 190 #[.pointer (some ⟨T,0,none⟩),.int .i64 i] w (Gs N b T D c d w a e L (fJ D (D.opn.length-a.length-1) (a++[i]) (j9 (gh D a.length) ((fh D a.length).getD i []) L) s))
def Ou:Prop:=∀(N:eN) (b T:Nat) (D:fW) (c d:Nat) (w:er) (a:ew) (e:fR) (f:Nat) (L:Nat->Nat) (y:SV) (s:Sp),ko N b T D c d w a e f L y s->Calls V.prog 216 #[.pointer (some ⟨T,0,none⟩)] w (Gs N b T D c d w a e L (fJ D (D.opn.length-a.length) a L s))
def vR{a:Addr}(h:w.cell? a=some x):a.block<w.heap.size:=by refine yF λb=>?_;have:w.heap[a.block]? =none:=ou b;simp[World.cell?,this]at h
structure Rj(T:Nat)(ps:List Nat)(i:Nat)(pa:Option Addr)(pc:Nat)(w w':er):Prop where
 keep:eY (λb=>pa=some ⟨b,0,none⟩) w w'
 own:rz T w pa pc ps->rz T w' pa pc ps
 stay:∀b,pa=some ⟨b,0,none⟩->w.cell? ⟨b,ps.length,none⟩=some (.int .i64 i)->w'.heap[b]? =w.heap[b]?
section
variable{T:Nat}{ps:List Nat}{i:Nat}{pa:Option Addr}{pc:Nat}
def rz.ext(h:rz T w pa pc ps)(e:∀b,b<w.heap.size->pa=some ⟨b,0,none⟩->t.heap[b]? =w.heap[b]?):rz T t pa pc ps:=by obtain h|⟨a,f,c,g,d,i⟩:=h;exact .inl h;exact .inr ⟨a,f,c,g,(e a (eV.lt_of_heap d) c).trans d,i⟩
def AG(h:Ext w t):Rj T ps i pa pc w t:=⟨h.keep _,λa=>a.ext λb c _=>h.block b c,λb _ d=>h.block b (vR d)⟩
def Rk:jd (Rj T ps i pa pc):=by refine⟨λw=>AG (Ext.refl w),λa b c h k=>⟨h.keep.trans k.keep (λ_ _ h=>h) (λ_ _ h=>h),λg=>k.own (h.own g),λx d e=>?_⟩,λw=>AG (Ext.drew w)⟩;have f:=h.stay x d e;exact(k.stay x d ((Go.Proofs.W.jF (ad:=(eQ x ps.jK)) f).trans e)).trans f
def picked(i:Nat)(w:er)(v:eu)(a:er):Prop:=∃B,v=.slice (some ⟨B,0,none⟩) 1 1/\w.heap.size<=B/\a.heap[B]? =some (.cells #[.int .i64 i] 3)
def Gu(a:∀b,pa=some ⟨b,0,none⟩->b<w.heap.size):Rh (Rj T ps i pa pc) (picked i w):=λv h j ⟨B,c,d,e⟩ f=>
 ⟨B,c,d,f.keep.iZ e λg=>by have:=a B g;omega⟩
def AH(T:Nat)(ps:ew)(i:Nat)(pa:fR)(w:er)(v:eu)(d:er):Prop:=
 ∃a c,v=.slice a (ps.length+1) c/\rz T d a c (ps++[i])/\(a=pa\/∃b,w.heap.size<=b/\a=some ⟨b,0,none⟩)
def B3(a:∀b,pa=some ⟨b,0,none⟩->b<w.heap.size):Rh (Rj T ps i pa pc) (AH T ps i pa w):=by rintro v t u ⟨c,d,m,e,j⟩ k;refine⟨c,d,m,?_,j⟩;obtain⟨_,e,_⟩|⟨f,n,g,o,h,p,q,r,l⟩:=e;simp at e;refine .inr ⟨f,n,g,o,?_,p,q,r,l⟩;obtain rfl|⟨b,x,rfl⟩:=j;refine(k.stay f g ?_).trans h;have:=l ps.jK (by simp);simp only[World.cell?,h];rw[this];simp;obtain rfl:b=f:=eX Addr.block (eP g);exact k.keep.iZ h λs=>by have:=a b s;omega
end
def fq.grow{w w1:er}{s:Sp}{y:SV}(q:∀b g a,A b->w.heap[b]? =some (.cells g 3 a)->w1.heap[b]? =some (.cells g 3 a))(h:fq A w s y):fq A w1 s y:=by
 cases s with
 |none=>exact h
 |some s=>
  obtain⟨l,m,k⟩:=s;obtain⟨i,j,n,o,c|⟨c,d,p,r,t,u,a,e,f⟩⟩:=h;exact⟨i,j,n,o,.inl c⟩;exact⟨i,j,n,o,.inr ⟨c,d,p,r,t,u,a,e,q _ _ _ p f⟩⟩
def fq.imp{o o':eN}{s:Sp}{y:SV}(p:∀b q c,o b->w.heap[b]? =some (.cells q 3 c)->o' b)(h:fq o w s y):fq o' w s y:=by
 cases s with
 |none=>exact h
 |some s=>
  obtain⟨l,m,k⟩:=s;obtain⟨g,i,j,n,d|⟨d,e,r,t,u,v,c,f,a⟩⟩:=h;exact⟨g,i,j,n,.inl d⟩;exact⟨g,i,j,n,.inr ⟨d,e,p _ _ _ r a,t,u,v,c,f,a⟩⟩
def fq.move{o o':eN}{w w1:er}{s:Sp}{y:SV}(i:∀b a c,o b->w.heap[b]? =some (.cells a 3 c)->o' b/\w1.heap[b]? =some (.cells a 3 c))(h:fq o w s y):fq o' w1 s y:=
 ((h.imp (o':=λb=>∃a c,o b/\w.heap[b]? =some (.cells a 3 c)) λb a c d e=>⟨a,c,d,e⟩).grow (w1:=w1) λb a c ⟨_,_,d,_⟩ e=>(i b a c d e).2).imp λb a c ⟨f,g,d,e⟩ _=>(i b f g d e).1
def fq.ext{s:Sp}{y:SV}(a:Ext w t)(h:fq A w s y):fq A t s y:=h.grow λ_ _ _ _ h=>a.at_ h
theorem yN.tape{s:Sp}{y:SV}(a:t.tape=w.tape)(h:yN m w s y):yN m t s y:=λl b k c d=>by obtain⟨j,f,e⟩:=h l b k c d;exact⟨j,f,by rw[a];exact e⟩
def Ed(D:fW)(L:Nat->Nat)(a:ew)(d:Nat)(w:er)(v:eu)(c:er):Prop:=∃y:SV,v=y.val/\fq (λb=>w.heap.size<=b) c (fA D L a) y/\yN d c (fA D L a) y
def Gv{D:fW}{L:Nat->Nat}:Rh Ext (Ed D L l m w):=λ_ _ _ ⟨y,b,c,d⟩ a=>⟨y,b,c.ext a,d.tape a.tape⟩
theorem tU:∀(a:fD) (w:er) (b o:Nat) (e:fZ) (t:eD) (g:Nat×Nat),w.heap[b]? =some (.cells e t g)->o+a.length<=e.size->(w.setCells b o a).os=w.os/\(w.setCells b o a).tape=w.tape/\(w.setCells b o a).output=w.output/\(w.setCells b o a).drawn=w.drawn/\(w.setCells b o a).heap.size=w.heap.size/\(∀c,c≠b->(w.setCells b o a).heap[c]? =w.heap[c]?)/\∃d,(w.setCells b o a).heap[b]? =some (.cells d t g)/\d.size=e.size/\(∀j,j<o->d[j]? =e[j]?)/\(∀j,j<a.length->d[o+j]? =a[j]?)/\∀j,o+a.length<=j->d[j]? =e[j]?
 |[],w,b,o,e,t,g,h,n=>⟨rfl,rfl,rfl,rfl,rfl,λ_ _=>rfl,e,h,rfl,λ_ _=>rfl,λj f=>by simp at f,λ_ _=>rfl⟩
 |v::a,w,b,o,e,t,g,h,n=>by
  have i:o+1+a.length<=e.size:=by simp at n;omega
  have r:(w.setCell (eQ b o) v).heap[b]? =some (.cells (e.setIfInBounds o v) t g):=by simp[World.setCell,oP,h]
  obtain⟨s,u,x,y,z,A,d,B,C,p,k,l⟩:=tU a (w.setCell (eQ b o) v) b (o+1) (e.setIfInBounds o v) t g r (by simpa using i);have m:o<e.size:=by omega
  refine⟨s,u,x,y,by rw[show(w.setCells b o (v::a))=(w.setCell (eQ b o) v).setCells b (o+1) a from rfl,z];simp[World.setCell],λc q=>?_,d,B,by simpa using C,λj f=>?_,λj f=>?_,λj f=>?_⟩;exact(A c q).trans (eV.Cr.gE _ _ _ _ q);rw[p j (by omega),gm (by omega)];cases j with
  |zero=>rw[p (o+0) (by omega)];simp[m]
  |succ j=>
   have:=k j (by simp at f;omega);rw[show o+(j+1)=o+1+j by omega,this];simp
  rw[l j (by simp at f;omega),gm (by simp at f;omega)]
def fc(g:Nat)(t:eD)(e:fD)(w:er)(v:eu)(a:Nat)(f:fD):Prop:=
 f.length=a*e.length/\((a=0/\v=.slice none 0 0)\/∃b c d,g<=b/\v=.slice (some ⟨b,0,none⟩) a c/\w.heap[b]? =some (.cells d t)/\d.size=c*e.length/\a<=c/\c<2^63/\(∀j,j<f.length->d[j]? =f[j]?)/\∀j,f.length<=j->j<d.size->d[j]? =e[j%e.length]?)
def eG(v:eu)(b:Nat):Prop:=∃l c,v=.slice (some ⟨b,0,none⟩) l c
def fc.keep(h:fc m T M w x k Y)(e:eY A w t)(f:∀b,eG x b->¬A b):fc m T M t x k Y:=by obtain⟨a,h|⟨b,c,g,i,d,j,l⟩⟩:=h;exact⟨a,.inl h⟩;exact⟨a,.inr ⟨b,c,g,i,d,e.iZ j (f b ⟨_,_,d⟩),l⟩⟩
def fc.ext(h:fc m T M w x k Y)(a:Ext w t):fc m T M t x k Y:=h.keep (a.keep λ_=>False) λ_ _ h=>h
def fc.nil(a:Nat)(t:eD)(b:fD)(w:er):fc a t b w (.slice none 0 0) 0 []:=⟨by simp,.inl ⟨rfl,rfl⟩⟩
def fc.blk(h:fc m T M w x k Y){b:Nat}(a:eG x b):m<=b/\b<w.heap.size:=by obtain⟨l,j,e⟩:=a;obtain⟨n,⟨_,h⟩|⟨d,c,o,f,g,i,p⟩⟩:=h;rw[h]at e;cases e;rw[g]at e;injection e with e;obtain rfl:d=b:=eX Addr.block (eP e);exact⟨f,eV.lt_of_heap i⟩
theorem fc.len(h:fc m T M w x k Y):∃a c,x=.slice a k c/\k<=c/\c<2^63:=by obtain⟨g,⟨b,h⟩|⟨i,c,j,b,d,l,n,e,f,_⟩⟩:=h;exact⟨none,0,by rw[h,b],by omega,by omega⟩;exact⟨_,c,d,e,f⟩
def fc.cell(h:fc m T M w x k Y)(l:0<k):∃b c,x=.slice (some ⟨b,0,none⟩) k c/\m<=b/\∀j u,Y[j]? =some u->w.cell? ⟨b,j,none⟩=some u:=by obtain⟨n,⟨a,h⟩|⟨e,c,o,a,f,g,p,q,r,i,s⟩⟩:=h;omega;refine⟨e,c,f,a,λj u d=>?_⟩;simp only[World.cell?,g];rw[i j (kS.1 d).1,d];rfl
def om(z:fZ)(n j:Nat)(b:0<z.size)(c:j<n*z.size):(Builtin.zeroCells z n)[j]? =z[j%z.size]? :=by have a:j%z.size<z.size:=Nat.mod_lt _ b;simp[Builtin.zeroCells,c,a]
def IV{F ty e:eD}{i:TypeInfo}(O:P.underlying F=some (.slice e))(Q:P.info? e=some i)(hz:i.zero=some z)(B:z.cells=M.toArray)(v:i.size=M.length)(H:i.bytes<=256)(aa:0<M.length) (ab:fc m e M w x k Y)(I:m<=w.heap.size){f c:Nat}{a:fD}(q:a.length=f*M.length)(hm:0<f)(o:∀j u,a[j]? =some u->w.cell? (h.add j)=some u)(h1:∀u∈a,u.oneCell'=true)(J:k+f<=1000000):∃R S,(Builtin.append_ #[F,F] ty #[x,.slice (some h) f c]).run P w=.ok R S/\fc m e M S R (k+f) (Y++a)/\eY (eG x) w S/\∀b,eG R b->eG x b\/w.heap.size<=b:=by
 have g:z.cells.size=M.length:=by rw[B];simp
 have C:a.length=f*i.size:=by rw[v];exact q
 obtain⟨r,⟨rfl,rfl⟩|⟨b,y,T,g1,rfl,N,g4,g5,g6,g7,g8⟩⟩:=ab;obtain rfl:Y=[]:=by simpa using r
 have G:=run_append_nil (P:=P) w F ty e i z O Q hz h f c a C o hm (by omega) (ff (Nat.mul_le_mul (show f<=1000000 by omega) H) (by decide));have K:=grownCap_ge w f 0 e;refine⟨_,_,G,⟨by simp[q],.inr ⟨w.heap.size,grownCap w f 0 e,a.toArray++Builtin.zeroCells z.cells (grownCap w f 0 e-f),I,by simp,io w.drew _,?_,by omega,?_,?_,?_⟩⟩,?_,?_⟩;simp only[vo,jw,size_zeroCells,g,q,<-Nat.add_mul];congr 1;omega;have:=grownCap_le_maxLen w f 0 e (by simp only[maxLen];omega);simp only[maxLen]at this;omega;intro j n;rw[wA (by simpa using n)];simp;intro j n A;simp only[sQ]at n;rw[zn (by simpa using n)];simp only[vo,jw,size_zeroCells,g]at A;simp only[jw];rw[om _ _ _ (by omega) (by rw[g];omega),g,B,q];have s:(j-f*M.length)%M.length=j%M.length:=by obtain⟨d,rfl⟩:∃d,j=f*M.length+d:=⟨j-f*M.length,by omega⟩;rw[Nat.add_sub_cancel_left,Nat.add_comm,Nat.add_mul_mod_self_right]
 rw[s];simp;exact((Ext.drew w).trans (Ext.alloc _ _)).keep _;rintro b ⟨l,c',t⟩;injection t with t;have:w.heap.size=b:=eX Addr.block (eP t);exact .inr (by omega);by_cases p:k+f<=y;have U:Y.length+a.length<=T.size:=by rw[r,q,g4,<-Nat.add_mul];exact rJ _ p
 have G:=run_append_room_cells (P:=P) w F ty e i O Q b 0 k y h f c a C o h1 p
  (λj n=>by
   have:Y.length+j<T.size:=by omega
   rw[v,eJ,<-r];simp[World.cell?,N,this])
  (λj n=>by simp[World.frozen?,N])
 rw[v,eJ,<-r]at G;obtain⟨e1,e2,e3,e4,e5,e6,V,e7,e8,e9,W,X⟩:=tU a w b Y.length T e (0,0) N U;refine⟨_,_,G,⟨by rw[jR,r,q,Nat.add_mul],.inr ⟨b,y,V,g1,rfl,e7,by rw[e8,g4],p,g6,?_,?_⟩⟩,⟨e1,e2,e3,by rw[e5];exact eF _,by rw[e4];exact eF _,λL _ Z=>e6 L λe=>Z ⟨k,y,by rw[e]⟩⟩,λL Z=>.inl ?_⟩;intro j n;by_cases D:j<Y.length;rw[e9 j D,g7 j D,oR D];obtain⟨d,rfl⟩:∃d,j=Y.length+d:=⟨j-Y.length,by omega⟩;rw[W d (by simp at n;omega),ow (by omega)];simp;intro j n A;rw[jR]at n;rw[X j n];exact g8 j (by omega) (by omega);obtain⟨l,c',t⟩:=Z;injection t with t;obtain rfl:b=L:=eX Addr.block (eP t);exact⟨k,y,rfl⟩;have E:∀j u,Y[j]? =some u->w.cell? (((eQ b 0):Addr).add j)=some u:=by intro j u hu;rw[Addr.add_lit];simp only[World.cell?,N,eJ];rw[g7 j (kS.1 hu).1,hu];rfl
 have G:=run_append_grow (P:=P) w F ty e i z O Q hz (eQ b 0) k y Y (by rw[v];exact r) E h f c a C o (by omega) (by omega) (growslice_fits (by omega) (ff (Nat.mul_le_mul J H) (by decide)));have K:=grownCap_ge w (k+f) y e;refine⟨_,_,G,⟨by rw[jR,r,q,Nat.add_mul],.inr ⟨w.heap.size,grownCap w (k+f) y e,_,I,rfl,io w.drew _,?_,K,?_,?_,?_⟩⟩,?_,?_⟩;simp only[vo,jw,size_zeroCells,g,r,q,<-Nat.add_mul];congr 1;omega;have:=grownCap_le_maxLen w (k+f) y e (by simp only[maxLen];omega);simp only[maxLen]at this;omega;intro j n;rw[wA (by simpa using n)];simp;intro j n A;simp only[jR]at n;rw[zn (by simpa using n)];simp only[vo,jw,size_zeroCells,g,r,q]at A;simp only[vo,jw,r,q];rw[r,q]at n;rw[om _ _ _ (by omega) (by rw[g];omega),g,B];have s:(j-(k*M.length+f*M.length))%M.length=j%M.length:=by obtain⟨d,rfl⟩:∃d,j=(k*M.length+f*M.length)+d:=⟨j-(k*M.length+f*M.length),by omega⟩;rw[Nat.add_sub_cancel_left,<-Nat.add_mul,Nat.add_comm,Nat.add_mul_mod_self_right]
 rw[s];simp;exact((Ext.drew w).trans (Ext.alloc _ _)).keep _;rintro L ⟨l,c',t⟩;injection t with t;have:w.heap.size=L:=eX Addr.block (eP t);exact .inr (by omega)
section
variable{P:eE}{ops:Array Oper}{Q:Exit->Act->er->Prop}{a:Act}{w w':er}{i m:Nat}
end
def eB{w:er}{b o:Nat}{a:fZ}{v:eu}(h:w.heap[b]? =some (.cells a T))(c:a[o]? =some v):w.cell? ⟨b,o,none⟩=some v:=by simp only[World.cell?,h];exact c
def Ext.eR{a w w':er}{b:Nat}(h:Ext a w)(k:eY (λx=>x=b) w w')(d:a.heap.size<=b):Ext a w':=
 ⟨k.os.trans h.os,k.tape.trans h.tape,k.output.trans h.output,ff h.size k.size,ff h.drawn k.drawn,λx c=>(k.block x (fN c h.size) (by omega)).trans (h.block x c)⟩
section
variable{P:eE}{ρ:fI->eu}{w:er}{v:eu}
end
end Go.Proofs.W
