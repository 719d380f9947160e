/- Laws that the proof needs, part 11. Conditions: none. -/
import Derived.Conc.SmallLaws
import Derived.Outline
import Derived.ArgAppend
import Derived.Defers
import Derived.Test.YteeagjkaflglpaaGreatX10
set_option maxRecDepth 100000
set_option maxHeartbeats 8000000
set_option linter.all false
namespace Go.Proofs.W
open Go.Conc Go.cF Go.cF.Cr Go.cF.Wg Go.RowKit Go.Conc.Lib Go.ConcR.Gen
open Go.ConcN Go.ConcN.Gen
open Go.ConcR (KK wgBlock WgAt stA smA mk DC0)
structure EM(pb:Nat)(oa:Option Addr)(on oc:Nat)(la:Addr)(L C:Nat)(a0:Option Addr)(n c0:Nat)(w:cd):Prop where
 f1:w.cell? ⟨pb,1,none⟩=some (.slice oa on oc)
 ls:MP pb la L C a0 n c0 w
noncomputable def P0(o p q r s t u a b c d e f g h i j k l m n:ce):Act:=
 ⟨#[o,p,q,r,s,undef,undef,undef,t,u,a,b,c,d,e,f,g,h,i,j,k,l,m,n,undef,undef,undef,undef,undef,undef,undef,undef,undef,undef,undef,undef,undef,undef,undef,undef,undef,undef,undef,undef,undef,undef,undef,undef,undef,undef,undef,undef],[]⟩
def EN(x:ce)(cs:List Frame):G (Frame.enter PR 163 #[x] .normal) cs=G (jV.at (P0 x undef undef undef undef undef undef undef undef undef undef undef undef undef undef undef undef undef undef undef undef) [.code ux]) cs:=by rw[enter_at (fn:=Tryz.f163) (c:=ux) _ Tryz.func163 yX,Tryz.ntmps163];simp only[P0,iP,dW,fC,Nat.reduceAdd,Nat.reduceSub,Array.replicate,List.replicate,List.append_toArray,qn,sM,jV]
noncomputable def i247:TypeInfo:=(PR.info? 247).getD default
def IW:PR.info? 247=some i247:=by kernel_rfl
def SY(pb:Nat)(n:Nat)(Q:cd->Prop)(m0:Nat)(cs:List Frame):gF:=λa g w=>
 ∃(e:rh) (d f h i j c:Nat),g=G (jV.at (mn e d h i n 0 undef undef undef undef undef undef) [.code fu,.inLoop fu,.inBlock 0,.code it]) cs/\e.x2=.pointer (some ⟨f,0,none⟩)/\KO [(i,wgBlock 241 0 0),(h,.cells #[.chan (some j)] 232),(j,.chan 0 #[] false c c false),(f,.cells #[.slice none 0 0,.int .i64 0,.int .i64 0,.bool false] 199),(d,.cells #[.pointer (some ⟨pb,0,none⟩)] 200)] Q m0 w/\∀b,a b↔b=i\/b=h\/b=j\/b=f\/b=d
theorem MV{pb O oc1 L C n c0 m0:Nat}{oa a0:Option Addr}{la:Addr}{Q:World->Prop}{rd:Nat->Prop}{cs:List Frame}(B:xH rd Q)(Y:0<O)(hL:0<L) (F:∀w,Q w->EM pb oa O oc1 la L C a0 n c0 w)(I:rd pb)(R:rd la.block)(S:∀b,rd b->b<m0):WK PR 241 0 true rd (SY pb n Q m0 cs) cC (KO [] Q m0) (G (Frame.enter PR 163 #[.pointer (some ⟨pb,0,none⟩)] .normal) cs):=by
 rw[EN];have V:∀x∈([]:List (Nat×Obj)),cC x.1:=λx s=>by cases s
 have J:=KO.rely (Q:=Q) (m0:=m0) (rd:=rd) (own:=cC) (L:=Lv 241 0) V B;simp only[ux,P0];refine WK.ctl J rfl (λ_=>stepG_seq) ?_;refine WK.ctl J rfl (λ_=>stepG_region) ?_;simp only[yU,List.size_toArray,List.length_cons,List.length_nil,Nat.reduceAdd,Nat.zero_add,List.range,List.range.loop];refine WK.Hh (f:=λn=>.pointer (some ⟨n,0,none⟩)) (ob:=.cells #[.pointer (some ⟨pb,0,none⟩)] 200) V B rfl rfl (by k_ne) (λw c=>?_) (λw c e l=>?_) λr _ _=>?_
 ·go_simp;first|done|rfl
 ·simp[go_sem]at l
 walk_nrm;have Z:∀x∈[(r,Obj.cells #[.pointer (some ⟨pb,0,none⟩)] 200)],(λx=>cC x\/x=r) x.1:=λx s=>by rw[List.mem_singleton.1 s];exact .inr rfl
 refine WK.Hh (f:=λn=>.pointer (some ⟨n,0,none⟩)) (ob:=.cells #[.slice none 0 0,.int .i64 0,.int .i64 0,.bool false] 199) Z B rfl rfl (by k_ne) (λw c=>?_) (λw c e l=>?_) λy _ _=>?_
 ·go_simp;first|done|rfl
 ·simp[go_sem]at l
 walk_nrm
 have T:∀x∈[(y,Obj.cells #[.slice none 0 0,.int .i64 0,.int .i64 0,.bool false] 199),(r,Obj.cells #[.pointer (some ⟨pb,0,none⟩)] 200)],(λx=>(cC x\/x=r)\/x=y) x.1:=λx s=>by
  rcases List.mem_cons.1 s with rfl|s
  ·exact .inr rfl
  ·rw[List.mem_singleton.1 s];exact .inl (.inr rfl)
 have j:=KO.rely (m0:=m0) (L:=Lv 241 0) (own:=λx=>(cC x\/x=r)\/x=y) T B;have K:∀w,KO [(y,Obj.cells #[.slice none 0 0,.int .i64 0,.int .i64 0,.bool false] 199),(r,Obj.cells #[.pointer (some ⟨pb,0,none⟩)] 200)] Q m0 w->w.cell? ⟨r,0,none⟩=some (.pointer (some ⟨pb,0,none⟩)):=λw c=>by have:=c.at_ (r,Obj.cells #[.pointer (some ⟨pb,0,none⟩)] 200) (by simp);simp[World.cell?,this]
 refine WK.ctl j rfl (λ_=>stepG_region_end) ?_;refine WK.ctl j rfl (λ_=>stepG_seq) ?_;refine WK.ctl j rfl (λ_=>stepG_seq) ?_;refine WK.ctl j rfl (λ_=>stepG_region) ?_;simp only[yV,List.size_toArray,List.length_cons,List.length_nil,Nat.reduceAdd,Nat.zero_add,List.range,List.range.loop];refine WK.load (v:=.pointer (some ⟨pb,0,none⟩)) j rfl rfl (by k_ne) (λw c=>?_) (λw c e l=>?_) ?_
 ·have p:=(K) w c;go_simp
 ·have p:=(K) w c;simp[go_sem,p]at l;exact .inl ⟨_,_,l,.inl (.inl (.inr rfl))⟩
 walk_nrm;refine WK.val (v:=?_) j rfl rfl (by k_ne) (λw=>?_) (λw=>?_) ?_;rotate_left
 ·go_simp;rfl
 ·go_simp
 walk_nrm;refine WK.val (v:=?_) j rfl rfl (by k_ne) (λw=>?_) (λw=>?_) ?_;rotate_left
 ·go_simp;rfl
 ·go_simp
 walk_nrm;refine WK.load (v:=.slice oa O oc1) j rfl rfl (by k_ne) (λw c=>?_) (λw c e l=>?_) ?_
 ·have p:=(λw c=>(F w c.q).f1) w c;go_simp
 ·have p:=(λw c=>(F w c.q).f1) w c;simp[go_sem,p]at l;exact .inl ⟨_,_,l,.inr (.inl ⟨rfl,I⟩)⟩
 walk_nrm;refine WK.val (v:=?_) j rfl rfl (by k_ne) (λw=>?_) (λw=>?_) ?_;rotate_left
 ·go_simp;rfl
 ·go_simp
 walk_nrm;refine WK.val (v:=.bool false) j rfl rfl (by k_ne) (λw=>?_) (λw=>?_) ?_
 ·go_simp;omega
 ·simp[go_sem]
 walk_nrm;refine WK.ctl j rfl (λ_=>stepG_region_end) ?_;refine WK.ctl j rfl (λ_=>stepG_cond (t:=false) rfl) ?_;simp only[Bool.false_eq_true,if_false];refine WK.ctl j rfl (λ_=>stepG_skip) ?_;refine WK.ctl j rfl (λ_=>stepG_seq) ?_;refine WK.ctl j rfl (λ_=>stepG_region) ?_;simp only[Ey,List.size_toArray,List.length_cons,List.length_nil,Nat.reduceAdd,Nat.zero_add,List.range,List.range.loop];refine WK.Hh (f:=λn=>.chan (some n)) (ob:=.chan 0 #[] false 0 0 false) T B rfl rfl (by k_ne) (λw c=>?_) (λw c e l=>?_) λz _ _=>?_
 ·have:=run_makeChan (P:=PR) (w:=w) (t:=232) (e:=247) (dir:=.both) (i:=i247) (by kernel_rfl) IW .i64 0 (by omega) (by omega);go_simp;first|done|rfl|(rw[this];rfl)
 ·have h:(Instr.makeChan 232 (.int .i64 0)).events PR w #[]=#[]:=by
   have h:=events_makeChan (P:=PR) (w:=w) (t:=232) (e:=247) (dir:=.both) (i:=i247) (by kernel_rfl) IW .i64 0 (by omega) (by omega) #[];simpa using h
  have E:e∈(do Pure.pure (Next.value (<-Instr.makeChan 232 (.int .i64 0))):Sem Next).events PR w #[]:=l;simp at E;rw[h]at E;simp at E
 walk_nrm
 have W:∀x∈[(z,Obj.chan 0 #[] false 0 0 false),(y,Obj.cells #[.slice none 0 0,.int .i64 0,.int .i64 0,.bool false] 199),(r,Obj.cells #[.pointer (some ⟨pb,0,none⟩)] 200)],(λx=>((cC x\/x=r)\/x=y)\/x=z) x.1:=λx s=>by
  rcases List.mem_cons.1 s with rfl|s
  ·exact .inr rfl
  ·exact .inl (T x s)
 refine WK.Hh (f:=λn=>.pointer (some ⟨n,0,none⟩)) (ob:=.cells #[.chan none] 232) W B rfl rfl (by k_ne) (λw c=>?_) (λw c e l=>?_) λu _ _=>?_
 ·go_simp;first|done|rfl
 ·simp[go_sem]at l
 walk_nrm
 have N:∀o,∀x∈[(u,o),(z,Obj.chan 0 #[] false 0 0 false),(y,Obj.cells #[.slice none 0 0,.int .i64 0,.int .i64 0,.bool false] 199),(r,Obj.cells #[.pointer (some ⟨pb,0,none⟩)] 200)],(λx=>(((cC x\/x=r)\/x=y)\/x=z)\/x=u) x.1:=λo x s=>by
  rcases List.mem_cons.1 s with rfl|s
  ·exact .inr rfl
  ·exact .inl (W x s)
 refine WK.MU (pre:=[]) (ob':=.cells #[.chan (some z)] 232) (N _) B (λb k U=>?_) rfl rfl (by k_ne) (λw c=>?_) (λw c e l=>?_) ?_
 ·have:=S b U;rcases k with(((k|k)|k)|k)|k
  ·exact k
  all_goals omega
 ·have p:=c.at_ (u,Obj.cells #[.chan none] 232) (by simp);have c0:w.cell? ⟨u,0,none⟩=some (.chan none):=by simp[World.cell?,p]
  have X:w.frozen? ⟨u,0,none⟩=false:=by simp[World.frozen?,p]
  go_simp;refine⟨by simp[World.setCell],by simp[World.setCell],λd hd=>dN w ⟨u,0,none⟩ _ d hd,?_⟩;simp[World.setCell,Array.getElem?_modify,p]
 ·have p:=c.at_ (u,Obj.cells #[.chan none] 232) (by simp);have c0:w.cell? ⟨u,0,none⟩=some (.chan none):=by simp[World.cell?,p]
  have X:w.frozen? ⟨u,0,none⟩=false:=by simp[World.frozen?,p]
  have H:∀(w:World) (H:Array Event) (a:Addr) (m:Mode) (x:Option Nat),(store a (.chan x) m).events PR w H=storedEv PR w H a (.chan x) m:=λw H a m x=>events_store PR w H a _ m rfl;simp[go_sem,H,c0,X]at l;exact .inl ⟨_,_,l,.inl (.inr rfl)⟩
 walk_nrm;have A:=KO.rely (m0:=m0) (L:=Lv 241 0) (own:=λx=>(((cC x\/x=r)\/x=y)\/x=z)\/x=u) (N (Obj.cells #[.chan (some z)] 232)) B;refine WK.ctl A rfl (λ_=>stepG_region_end) ?_;refine WK.ctl A rfl (λ_=>stepG_seq) ?_;refine WK.ctl A rfl (λ_=>stepG_region) ?_;simp only[Ez,List.size_toArray,List.length_cons,List.length_nil,Nat.reduceAdd,Nat.zero_add,List.range,List.range.loop];refine WK.Hh (f:=λn=>.pointer (some ⟨n,0,none⟩)) (ob:=wgBlock 241 0 0) (N _) B rfl rfl (by k_ne) (λw c=>?_) (λw c e l=>?_) λM _ _=>?_
 ·go_simp;first|done|rfl
 ·simp[go_sem]at l
 walk_nrm
 have h5:∀x∈[(M,wgBlock 241 0 0),(u,Obj.cells #[.chan (some z)] 232),(z,Obj.chan 0 #[] false 0 0 false),(y,Obj.cells #[.slice none 0 0,.int .i64 0,.int .i64 0,.bool false] 199),(r,Obj.cells #[.pointer (some ⟨pb,0,none⟩)] 200)],(λx=>((((cC x\/x=r)\/x=y)\/x=z)\/x=u)\/x=M) x.1:=λx s=>by
  rcases List.mem_cons.1 s with rfl|s
  ·exact .inr rfl
  ·exact .inl (N _ x s)
 have g:=KO.rely (m0:=m0) (L:=Lv 241 0) (own:=λx=>((((cC x\/x=r)\/x=y)\/x=z)\/x=u)\/x=M) h5 B;refine WK.ctl g rfl (λ_=>stepG_region_end) ?_;refine WK.ctl g rfl (λ_=>stepG_seq) ?_;refine WK.ctl g rfl (λ_=>stepG_seq) ?_;refine WK.ctl g rfl (λ_=>stepG_region) ?_;simp only[EB,List.size_toArray,List.length_cons,List.length_nil,Nat.reduceAdd,Nat.zero_add,List.range,List.range.loop];have D:∀w,KO [(M,wgBlock 241 0 0),(u,Obj.cells #[.chan (some z)] 232),(z,Obj.chan 0 #[] false 0 0 false),(y,Obj.cells #[.slice none 0 0,.int .i64 0,.int .i64 0,.bool false] 199),(r,Obj.cells #[.pointer (some ⟨pb,0,none⟩)] 200)] Q m0 w->w.cell? ⟨r,0,none⟩=some (.pointer (some ⟨pb,0,none⟩)):=λw c=>by have:=c.at_ (r,Obj.cells #[.pointer (some ⟨pb,0,none⟩)] 200) (by simp);simp[World.cell?,this]
 refine WK.load (v:=.pointer (some ⟨pb,0,none⟩)) g rfl rfl (by k_ne) (λw c=>?_) (λw c e l=>?_) ?_
 ·have p:=(D) w c;go_simp
 ·have p:=(D) w c;simp[go_sem,p]at l;exact .inl ⟨_,_,l,.inl (.inl (.inl (.inl (.inl (.inr rfl)))))⟩
 walk_nrm;refine WK.val (v:=?_) g rfl rfl (by k_ne) (λw=>?_) (λw=>?_) ?_;rotate_left
 ·go_simp;rfl
 ·go_simp
 walk_nrm;refine WK.val (v:=?_) g rfl rfl (by k_ne) (λw=>?_) (λw=>?_) ?_;rotate_left
 ·go_simp;rfl
 ·go_simp
 walk_nrm;refine WK.load (v:=.slice (some la) L C) g rfl rfl (by k_ne) (λw c=>?_) (λw c e l=>?_) ?_
 ·have p:=(λw c=>(F w c.q).ls.f2) w c;go_simp
 ·have p:=(λw c=>(F w c.q).ls.f2) w c;simp[go_sem,p]at l;exact .inl ⟨_,_,l,.inr (.inl ⟨rfl,I⟩)⟩
 walk_nrm;refine WK.val (v:=.pointer (some la)) g rfl rfl (by k_ne) (λw=>?_) (λw=>?_) ?_
 ·go_simp
 ·simp[go_sem];exact events_indexAt_slice _ _ _ _ _ _ (by kernel_rfl) ⟨by omega,by omega⟩
 walk_nrm;refine WK.load (v:=.slice a0 n c0) g rfl rfl (by k_ne) (λw c=>?_) (λw c e l=>?_) ?_
 ·have p:=(λw c=>(F w c.q).ls.l0) w c;go_simp
 ·have p:=(λw c=>(F w c.q).ls.l0) w c;simp[go_sem,p]at l;exact .inl ⟨_,_,l,.inr (.inl ⟨rfl,R⟩)⟩
 walk_nrm;refine WK.val (v:=?_) g rfl rfl (by k_ne) (λw=>?_) (λw=>?_) ?_;rotate_left
 ·go_simp;rfl
 ·go_simp
 walk_nrm;refine WK.val (v:=?_) g rfl rfl (by k_ne) (λw=>?_) (λw=>?_) ?_;rotate_left
 ·go_simp;rfl
 ·go_simp
 walk_nrm;refine WK.ctl g rfl (λ_=>stepG_region_end) ?_;refine WK.ctl g rfl (λ_=>stepG_block) ?_;refine WK.ctl g rfl (λ_=>stepG_loop) ?_;refine WK.stop g λw c=>⟨⟨_,_,_,_,_,_,_,_,_,_,_,_,_,_,_,_⟩,r,y,u,M,z,0,rfl,rfl,c,λb=>⟨?_,?_⟩⟩
 ·rintro(((((k|k)|k)|k)|k)|k)
  ·exact k.elim
  ·exact .inr (.inr (.inr (.inr k)))
  ·exact .inr (.inr (.inr (.inl k)))
  ·exact .inr (.inr (.inl k))
  ·exact .inr (.inl k)
  ·exact .inl k
 ·rintro(k|k|k|k|k)
  ·exact .inr k
  ·exact .inl (.inr k)
  ·exact .inl (.inl (.inr k))
  ·exact .inl (.inl (.inl (.inr k)))
  ·exact .inl (.inl (.inl (.inl (.inr k))))
theorem za{rc:Nat}{f:Array ce}{a b c d:ce}{w:cd}(g:f[2]? =some (.pointer (some ⟨rc,0,none⟩)))(e:w.heap[rc]? =some (.cells #[a,b,c,d] 199)):(results Tryz.f163 f).run PR w=.ok (.agg #[a,b,c,d]) w:=by
 have h:w.cell? ⟨rc,0,none⟩=some a:=by simp[World.cell?,e]
 have i:w.cell? ⟨rc,1,none⟩=some b:=by simp[World.cell?,e]
 have j:w.cell? ⟨rc,2,none⟩=some c:=by simp[World.cell?,e]
 have k:w.cell? ⟨rc,3,none⟩=some d:=by simp[World.cell?,e]
 simp[results,Tryz.results163,go_sem,g,h,i,j,k]
theorem uA{rc:Nat}{h:Array ce}{a b c d:ce}{w:cd}(i:h[2]? =some (.pointer (some ⟨rc,0,none⟩)))(g:w.heap[rc]? =some (.cells #[a,b,c,d] 199)):∀e∈(results Tryz.f163 h).events PR w #[],∃ad j,e=⟨.cell ad,j,false⟩/\ad.block=rc:=by
 have k:w.cell? ⟨rc,0,none⟩=some a:=by simp[World.cell?,g]
 have l:w.cell? ⟨rc,1,none⟩=some b:=by simp[World.cell?,g]
 have m:w.cell? ⟨rc,2,none⟩=some c:=by simp[World.cell?,g]
 have n:w.cell? ⟨rc,3,none⟩=some d:=by simp[World.cell?,g]
 intro e f;simp[results,Tryz.results163,go_sem,i,k,l,m,n]at f;rcases f with f|f|f|f<;>exact⟨_,_,f,rfl⟩
section
variable{Wg:Nat}{own rd:Nat->Prop}{S:gF}{Q:cd->Prop}{m0 rc:Nat}{bl pre:List (Nat×Obj)}{caller:Frame}{cs:List Frame}{va vb vc vd:ce}{act:Act}
theorem MW{k:List Item}{K:cd->Prop}(a:nN own rd (Lv 241 Wg) K)(f:∀w,K w->w.heap[rc]? =some (.cells #[va,vb,vc,vd] 199))(c:own rc)(g:act.tmps[2]? =some (.pointer (some ⟨rc,0,none⟩)))(i:act.defers=[]) (j:WK PR 241 Wg true rd S own K (G (caller.finish (.agg #[va,vb,vc,vd])) cs)):WK PR 241 Wg true rd S own K (G (jV.at act (.code .ret::k)) (caller::cs)):=by refine WK.ctl (g':=G {jV.at act (.code .ret::k)with mode:=.returning} (caller::cs)) a rfl (λw=>?_) ?_;simp[stepG,stepG.exec,G,Frame.at,jV,base];refine WK.step a rfl λw d=>?_;have l:=za g (f w d);refine⟨G (caller.finish (.agg #[va,vb,vc,vd])) cs,w,seen PR 163 ((results Tryz.f163 act.tmps).events PR w #[]),own,?_,⟨rfl,rfl,rfl,cz _,λb=>⟨.inl,λh=>h.elim id λh=>absurd h.2 (Nat.not_lt.2 h.1)⟩,λ_ _ _=>rfl,λe m=>?_⟩,j w d⟩;simp[stepG,unwind,doReturn,G,Frame.at,jV,base,i,Tryz.func163,mU,l,GStep.after];have:=jQ m;obtain⟨n,o,rfl,p⟩:=uA g (f w d) e this;exact .inl ⟨n,o,rfl,.inl (by rw[p];exact c)⟩
end
abbrev Sp:=Option (List Int×Int×Int)
def lE(x y:Sp):Bool:=match x,y with
 |none,_=>false
 |some _,none=>true
 |some (_,m,k),some (_,a,b)=>if m≠a then decide (m<a)else decide (k<b)
def oC:List Sp->Sp
 |[]=>none
 |x::xs=>xs.foldl (λa y=>if lE y a then y else a) x
def fE(l:List Int)(c:Nat):Array ce:=(l.map (Value.int .i64)++List.replicate (c-l.length) (Value.int .i64 0)).toArray
def MY(b:Nat×Nat):Prop:=∀a,¬DZ b a
def cU(o:Nat->Prop)(w:cd)(s:Sp)(y:SV):Prop:=match s with
 |none=>y=⟨none,0,0,0,0,false⟩
 |some (l,m,k)=>y.m=m/\y.k=k/\y.b=true/\y.sl=l.length/\((l=[]/\y.sa=none/\y.sc=0)\/
  (l≠[]/\∃a,o a/\y.sa=some ⟨a,0,none⟩/\l.length<=y.sc/\y.sc<2^63/\∃c,MY c/\w.heap[a]? =some (.cells (fE l y.sc) 3 c)))
def cU.better{o o':Nat->Prop}{w w':cd}{s t:Sp}{x y:SV}(h:cU o w s x)(k:cU o' w' t y):gG x y=lE s t:=by
 cases s with
 |none=>
  have:x=⟨none,0,0,0,0,false⟩:=h;subst this;cases t with
  |none=>rfl
  |some t=>rfl
 |some s=>
  obtain⟨l,m,n⟩:=s;obtain⟨b,c,a,_⟩:=h;cases t with
  |none=>
   have:y=⟨none,0,0,0,0,false⟩:=k;subst this;simp[gG,lE,a]
  |some t=>
   obtain⟨g,i,j⟩:=t;obtain⟨d,e,f,_⟩:=k;simp[gG,lE,b,c,a,d,e,f]
theorem wT{o:Nat->Prop}{w:cd}:∀(ys:List SV) (ss:List Sp) (x:SV) (s:Sp),cU o w s x->ys.length=ss.length->(∀j (h:j<ys.length) (g:j<ss.length),cU o w ss[j] ys[j])->
 cU o w (ss.foldl (λa y=>if lE y a then y else a) s) (ys.foldl (λa y=>if gG y a then y else a) x)
 |[],[],x,s,h,_,_=>h
 |y::ys,t::ss,x,s,h,b,e=>by simp only[mP];have c:=e 0 (by simp) (by simp);simp only[mS]at c;rw[c.better h];refine wT ys ss _ _ ?_ (by simpa using b) λj f d=>e (j+1) (by simpa using f) (by simpa using d);split;exact c;exact h
 |[],_::_,_,_,_,b,_=>by simp at b
 |_::_,[],_,_,_,b,_=>by simp at b
def EO{o:Nat->Prop}{w:cd}(ys:List SV)(ss:List Sp)(a:ys.length=ss.length)(c:∀j (h:j<ys.length) (e:j<ss.length),cU o w ss[j] ys[j]):cU o w (oC ss) (cP ys):=by
 cases ys with
 |nil=>cases ss with
  |nil=>rfl
  |cons _ _=>simp at a
 |cons y ys=>cases ss with
  |nil=>simp at a
  |cons s ss=>
   exact wT ys ss y s (c 0 (by simp) (by simp)) (by simpa using a) λj d b=>c (j+1) (by simpa using d) (by simpa using b)
def Wy.Ru{P:cf}{ty:cg}{Wg:Nat}{main:Bool}{rd:Nat->Prop}{S:gF}{own:Nat->Prop}{g:cj}{w:cd}(h:Wy P ty Wg main rd S own g w):Wy P ty Wg main rd (λo g w'=>S o g w'/\∀b,own b->o b) own g w:=by
 obtain⟨r,h⟩:=h
 have f:∀B:Nat->Prop,(∀b,B b->own b)->Wy P ty Wg main rd (λo g w'=>S o g w'/\∀b,B b->o b) own g w:=by
  intro B j;induction h with
  |here h=>exact nX λc d=>⟨h c d,j⟩
  |step m n s p=>
   refine kF m λc d=>?_;obtain⟨k,w',l,a,e,i⟩:=n c d;exact⟨k,w',l,a,e,i,p c k w' l a d e i λb q=>(i.owns b).2 (.inl (j b q))⟩
 exact f own λ_ h=>h
end Go.Proofs.W
namespace Go.Proofs.W
open Go.RowKit
def V.iy:V.prog.underlying 27=some (.slice 3):=by rw[V.sR,Tryz.underlying27]
def uB:Tryz.t3.bytes=8:=by kernel_rfl
def J8(w:cd):Calls V.prog 128 #[.slice none 0 0] w λe w'=>e=.returned (.slice none 0 0)/\w'=w:=by have a:=λ(w:cd)=>Go.Lib.run_eql_slice_nil (P:=V.prog) w 27 3 none 0 0 0 0 V.iy;go_enter V.func128,Tryz.ntmps128;go_wp2;go_ret;exact⟨rfl,rfl⟩
def wU(w:cd)(a old:Nat):Nat:=(Question.appendCap a old 3).cut (w.tape w.drawn (.appendCap a old 3))
def MZ(w:cd)(a old:Nat):a<=wU w a old:=by simp[wU,Question.cut]
def M0(w:cd)(a old:Nat)(h:a<=65536):wU w a old<2^63:=by
 have:0<2^63-a:=by omega
 have:=Nat.mod_lt (w.tape w.drawn (.appendCap a old 3)) this;simp only[wU,Question.cut];omega
def A1(n:Nat):Builtin.zeroCells #[.int .i64 0] n=(List.replicate n (Value.int .i64 0)).toArray:=by apply Cz;simp[Builtin.zeroCells];exact List.ext_getElem (by simp) λi a b=>by simp[Nat.mod_one]
def CX(l:List Int)(c:Nat):(l.map (Value.int .i64)).toArray++Builtin.zeroCells #[.int .i64 0] (c-l.length)=fE l c:=by rw[A1];simp[fE]
def Hi(b c:Nat)(l:List Int)(w:cd)(g:0<l.length)(m:l.length<=65536)(n:b<w.heap.size)(d:∀k (h:k<l.length),w.cell? ⟨b,k,none⟩=some (.int .i64 l[k])):
 Calls V.prog 128 #[.slice (some ⟨b,0,none⟩) l.length c] w λe w'=>e=.returned (.slice (some ⟨w.heap.size+1,0,none⟩) l.length (wU w l.length 0))/\
  w'=((w.alloc (.cells #[] 3)).alloc (.cells (fE l (wU w l.length 0)) 3)).drew:=by
 have s:=λ(w:cd)=>Go.Lib.run_eql_slice_nil (P:=V.prog) w 27 3 (some ⟨b,0,none⟩) l.length c 0 0 V.iy;have o:Sem.run V.prog (loadCellsFrom ⟨b,0,none⟩ 0 l.length #[]) (w.alloc (.cells #[] 3)).drew=.ok (l.map (Value.int .i64)).toArray (w.alloc (.cells #[] 3)).drew:=by
  have:=run_loadCellsFrom (P:=V.prog) (w.alloc (.cells #[] 3)).drew ⟨b,0,none⟩ (λj=>.int .i64 (l.getD j 0)) l.length 0 #[] λj f=>by
   have h:=d j f;have e:(w.alloc (.cells #[] 3)).drew.cell? ⟨b,j,none⟩=w.cell? ⟨b,j,none⟩:=fY (w:=w) (w':=(w.alloc (.cells #[] 3)).drew) (ad:=⟨b,j,none⟩) (alloc_old w _ n);have p:(⟨b,0,none⟩:Addr).add j=⟨b,j,none⟩:=by unfold Addr.add;split;rename_i h;subst h;rfl;simp
   simp only[cB];rw[p,e,h,gU,ew f];rfl
  rw[this];congr 1;apply Cz;simp;exact List.ext_getElem (by simp) λi a q=>by simp at a;simp[a]
 have a:¬(9223372036854775807<(l.length:Int)/\Tryz.t3.bytes=0):=by rw[uB];omega
 have q:¬(281474976710656<Builtin.nextslicecap l.length 0*Tryz.t3.bytes):=by rw[uB,nextslicecap_zero g];omega
 have t:¬l.length=0:=by omega
 have r:=Go.Lib.hid (CX l (wU w l.length 0));clear d m;go_enter V.func128,Tryz.ntmps128;go_wp2;go_ret;exact⟨rfl,by rw[<-r.out];rfl⟩
def nZ(x d:Nat):Nat:=x|||(1<<<d)
def rm(x d:Nat):Nat:=x-(x&&&(1<<<d))
theorem P1:∀x:Nat,x<32->∀d:Nat,d<5->bits .or .u8 (x:Int) ((2:Int)^d%256)=(nZ x d:Int):=by decide+kernel
def EP:∀x:Nat,x<32->∀d:Nat,d<5->bits .andNot .u8 (x:Int) ((2:Int)^d%256)=(rm x d:Int):=by decide+kernel
def Hj:∀x,x<32->∀d,d<5->nZ x d<32:=by decide+kernel
def P2:∀x,x<32->∀d,d<5->rm x d<32:=by decide+kernel
theorem EQ(x d:Nat)(w:World)(hx:x<32)(hd:d<5):Calls V.prog 164 #[.int .u8 x,.int .i64 d] w λe w'=>e=.returned (.int .u8 (nZ x d))/\w'=w:=by have h:=Go.Lib.hid (P1 x hx d hd);go_enter V.func164,Tryz.ntmps164;go_wp2;go_ret;exact⟨by rw[h.out];rfl,rfl⟩
def ER(x d:Nat)(w:cd)(a:x<32)(b:d<5):Calls V.prog 228 #[.int .u8 x,.int .i64 d] w λe w'=>e=.returned (.int .u8 (rm x d))/\w'=w:=by have h:=Go.Lib.hid (EP x a d b);go_enter V.func228,Tryz.ntmps228;go_wp2;go_ret;exact⟨by rw[h.out];rfl,rfl⟩
def iQ{α:Type}(n0:Nat->Prop)(E:cd->ce->α->Prop)(z:ce)(t:cg)(w:cd)(v:ce)(l:List α):Prop:=
 (l=[]/\v=.slice none 0 0)\/∃b c a d,n0 b/\v=.slice (some ⟨b,0,none⟩) l.length c/\w.heap[b]? =some (.cells a t d)/\a.size=c/\l.length<=c/\(∀k (h:k<l.length),∃u,a[k]? =some u/\E w u l[k])/\∀k,l.length<=k->k<c->a[k]? =some z
def Uz(_:cd)(u:ce)(n:Nat):Prop:=u=.int .i64 n
abbrev vT(n0:Nat->Prop):=iQ n0 Uz (.int .i64 0) 3
abbrev zb(n0:Nat->Prop):=iQ n0 (vT n0) (.slice none 0 0) 27
abbrev uC(n0:Nat->Prop):=iQ n0 (zb n0) (.slice none 0 0) 66
def iQ.same{α:Type}{n0:Nat->Prop}{E:cd->ce->α->Prop}{z:ce}{t:cg}{w w':cd}{v:ce}{l:List α}(d:∀b,n0 b->w'.heap[b]? =w.heap[b]?)(e:∀u x,E w u x->E w' u x)(h:iQ n0 E z t w v l):iQ n0 E z t w' v l:=by rcases h with h|⟨b,c,f,g,a,i,j,m,n,o,p⟩;exact .inl h;refine .inr ⟨b,c,f,g,a,i,(d b a).trans j,m,n,λk q=>?_,p⟩;obtain⟨u,r,s⟩:=o k q;exact⟨u,r,e _ _ s⟩
def Wm(b:ce):Prop:=b=undef\/∃a,b=.pointer (some a)
structure dR where
 opn:List Nat
 lists:List (List (List Nat))
 counts:List Int
structure dR.Ok(D:dR):Prop where
 len:D.lists.length=D.opn.length
 five:D.opn.length<=5
 nodup:D.opn.Nodup
 door:∀d∈D.opn,d<5
 many:∀ls∈D.lists,ls.length<=65536
 long:∀ls∈D.lists,∀l∈ls,l.length<=65536
 shift:∀ls∈D.lists,∀l∈ls,∀s∈l,s<6
 cnt:D.counts.length=32
 cval:∀c∈D.counts,-1<=c/\c<=5
 zero:D.counts.getD 0 0=0
def dg(b c d:ce)(a:List Int):Array ce:=([b,c,d]++a.map (Value.int .i64)).toArray
structure eV(n0:Nat->Prop)(pb:Nat)(D:dR)(w:cd):Prop where
 ok:D.Ok
 lt:n0 pb
 at_:∃wk u1 u2 fz,Wm wk/\w.heap[pb]? =some (.cells (dg wk u1 u2 D.counts) 207 fz)/\vT n0 w u1 D.opn/\uC n0 w u2 D.lists
theorem eV.same{n0:Nat->Prop}{pb:Nat}{D:dR}{w w':cd}(a:∀b,n0 b->w'.heap[b]? =w.heap[b]?)(h:eV n0 pb D w):eV n0 pb D w':=by obtain⟨c,d,e,f,g,i,j,k⟩:=h.at_;refine⟨h.ok,h.lt,c,d,e,f,g,(a _ h.lt).trans i,j.same a λ_ _ h=>h,k.same a λ_ _ h=>h.same a λ_ _ h=>h.same a λ_ _ h=>h⟩
def IX(T:Nat)(w:cd)(pa:Option Addr)(pc:Nat)(ps:List Nat):Prop:=(pa=none/\ps=[]/\pc=0)\/∃a b,pa=some ⟨a,0,none⟩/\T<a/\w.heap[a]? =some (.cells b 3)/\b.size=pc/\ps.length<=pc/\∀k (h:k<ps.length),b[k]? =some (.int .i64 ps[k])
def By(L:Nat->Nat):List Nat:=[L 0,L 1,L 2,L 3,L 4,L 5]
def M4(L:Nat->Nat):ce:=.agg #[.int .u8 (L 0),.int .u8 (L 1),.int .u8 (L 2),.int .u8 (L 3),.int .u8 (L 4),.int .u8 (L 5)]
def gH(D:dR)(L:Nat->Nat):List Int:=(By L).map λx=>D.counts.getD x 0
def dX(D:dR)(L:Nat->Nat)(ps:List Nat):Sp:=if(gH D L).any (·<0)then none else some (ps.map Int.ofNat,(gH D L).foldl max 0,(gH D L).sum)
def wV(a:Nat)(w:cd)(s:Sp)(y:SV):Prop:=∀l m k,s=some (l,m,k)->l≠[]->∃j,a<=j/\y.sc=(Question.appendCap l.length 0 3).cut (w.tape j (.appendCap l.length 0 3))
def Hk{n0:Nat->Prop}{pb:Nat}{D:dR}{w:cd}(h:eV n0 pb D w)(x:Nat)(i:x<32):w.cell? ⟨pb,3+x,none⟩=some (.int .i64 (D.counts.getD x 0)):=by
 obtain⟨b,c,d,j,_,f,_,_⟩:=h.at_;have k:=h.ok.cnt;have e:(dg b c d D.counts)[3+x]? =some (.int .i64 (D.counts.getD x 0)):=by
  have a:x<D.counts.length:=by omega
  have g:(dg b c d D.counts)[3+x]? =(b::c::d::D.counts.map (Value.int .i64))[3+x]? :=by simp[dg]
  rw[g,show 3+x=x+1+1+1 by omega,Be,Be,Be,mR,ew a,gU,ew a];rfl
 simp only[World.cell?,f];exact e
def Hl(D:dR)(L:Nat->Nat):(gH D L).length=6:=rfl
def zd(D:dR)(L:Nat->Nat)(k:Nat)(h:k<(gH D L).length):(gH D L)[k]=D.counts.getD (L k) 0:=by
 have a:k<6:=h;have:k=0\/k=1\/k=2\/k=3\/k=4\/k=5:=by omega
 rcases this with rfl|rfl|rfl|rfl|rfl|rfl<;>rfl
theorem M5:∀(l:List Int),(∀c∈l,c<=5)->l.any (·<0)=false->0<=l.sum/\l.sum<=5*l.length
 |[],_,_=>by simp
 |x::l,h,a=>by simp only[List.any_cons,Bool.or_eq_false_iff,decide_eq_false_iff_not]at a;have:=M5 l (λc b=>h c (eI _ b)) a.2;have d:=h x (eR ..);simp only[List.sum_cons,dW];omega
theorem M6:∀(l:List Int) (a:Int),(∀c∈l,c<=5)->0<=a->a<=5->0<=l.foldl max a/\l.foldl max a<=5
 |[],a,_,b,d=>⟨b,d⟩
 |x::l,a,h,b,d=>by have f:=h x (eR ..);exact M6 l (max a x) (λc e=>h c (eI _ e)) (by omega) (by omega)
def Bz{D:dR}(h:D.Ok)(x:Nat)(b:x<32): -1<=D.counts.getD x 0/\D.counts.getD x 0<=5:=by
 have a:x<D.counts.length:=by rw[h.cnt];exact b
 rw[gU,ew a];exact h.cval _ (dt a)
def IY{D:dR}(h:D.Ok){L:Nat->Nat}(b:∀s,s<6->L s<32):∀c∈gH D L,c<=5:=by
 intro c d;obtain⟨x,a,rfl⟩:=jj.1 d;have:x<32:=by simp only[By,eQ,sN,ou]at a;rcases a with rfl|rfl|rfl|rfl|rfl|rfl<;>exact b _ (by omega)
 exact(Bz h x this).2
def ES(a0 a b c d e:ce)(w:cd):(Instr.index 204 (.agg #[a0,a,b,c,d,e]) (.int .i64 0)).run V.prog w=.ok a0 w:=by kernel_rfl
def ET(a0 a b c d e:ce)(w:cd):(Instr.index 204 (.agg #[a0,a,b,c,d,e]) (.int .i64 1)).run V.prog w=.ok a w:=by kernel_rfl
def EU(a0 b a c d e:ce)(w:cd):(Instr.index 204 (.agg #[a0,b,a,c,d,e]) (.int .i64 2)).run V.prog w=.ok a w:=by kernel_rfl
def EV(a0 b c a d e:ce)(w:cd):(Instr.index 204 (.agg #[a0,b,c,a,d,e]) (.int .i64 3)).run V.prog w=.ok a w:=by kernel_rfl
def EX(a0 b c d a e:ce)(w:cd):(Instr.index 204 (.agg #[a0,b,c,d,a,e]) (.int .i64 4)).run V.prog w=.ok a w:=by kernel_rfl
def EY(a0 b c d e a:ce)(w:cd):(Instr.index 204 (.agg #[a0,b,c,d,e,a]) (.int .i64 5)).run V.prog w=.ok a w:=by kernel_rfl
def J9(w:cd):(Instr.build 199 #[(3,.bool true)]).run V.prog w=.ok (.agg #[.slice none 0 0,.int .i64 0,.int .i64 0,.bool true]) w:=by kernel_rfl
def Hm(w:cd):(Instr.build 199 #[]).run V.prog w=.ok (.agg #[.slice none 0 0,.int .i64 0,.int .i64 0,.bool false]) w:=by kernel_rfl
def IZ(D:dR)(L:Nat->Nat)(ps:List Nat)(a:Nat)(w:cd)(e:Ending)(w':cd):Prop:=
 ∃y:SV,e=.returned y.val/\cU (λb=>w.heap.size<=b) w' (dX D L ps) y/\wV a w' (dX D L ps) y/\Below w.heap.size w w'/\w.drawn<=w'.drawn
theorem Hn(n0:Nat->Prop)(pb T:Nat)(D:dR)(L:Nat->Nat)(ps:List Nat)(pa:Option Addr)(pc j0:Nat)(w:World)(hP:eV n0 pb D w)(Y3:∀b,n0 b->b<w.heap.size)(hL:∀s,s<6->L s<32)(Rt:IX T w pa pc ps)(PG:ps=[]->pa=none)(er:ps.length<=65536)(hj:j0<=w.drawn):Calls V.prog 229 #[.pointer (some ⟨pb,0,none⟩),.slice pa ps.length pc,M4 L] w (IZ D L ps j0 w):=by
 have UA:=J9;have xJ:=Hm;have Y4:pb<w.heap.size:=Y3 _ hP.lt;unfold M4;go_enter V.func229,Tryz.ntmps229;go_wp2
 go_loopw [13] (λi wr=>∃k:Nat,k<=6/\i=.int .i64 k/\Below w.heap.size w wr/\w.heap.size+3<=wr.heap.size/\wr.heap[w.heap.size+1+1]? =some (dO ⟨none,0,0,((gH D L).take k).foldl max 0,((gH D L).take k).sum,true⟩)/\
  wr.heap[w.heap.size+1]? =some (dO (cP []))/\((gH D L).take k).any (·<0)=false/\wr.drawn=w.drawn) (λi _=>6-(intOf i).toNat)
 case atStart=>
  refine⟨0,by omega,rfl,(((Below.refl _ _).alloc (Nat.le_refl _) _).alloc (by simp) _).alloc (by simp;omega) _,by simp,?_,?_,rfl,rfl⟩
  ·have:=eU ((w.alloc (.cells #[.int .u8 (L 0),.int .u8 (L 1),.int .u8 (L 2),.int .u8 (L 3),.int .u8 (L 4),.int .u8 (L 5)] 204)).alloc (dO (cP []))) (dO ⟨none,0,0,0,0,true⟩);rw[World.size_alloc,World.size_alloc]at this;exact this
  ·have h2:=eU (w.alloc (.cells #[.int .u8 (L 0),.int .u8 (L 1),.int .u8 (L 2),.int .u8 (L 3),.int .u8 (L 4),.int .u8 (L 5)] 204)) (dO (cP []));rw[World.size_alloc]at h2;have h3:=alloc_old ((w.alloc (.cells #[.int .u8 (L 0),.int .u8 (L 1),.int .u8 (L 2),.int .u8 (L 3),.int .u8 (L 4),.int .u8 (L 5)] 204)).alloc (dO (cP []))) (dO ⟨none,0,0,0,0,true⟩) (b:=w.heap.size+1) (by simp);exact h3.trans h2
 case round=>
  obtain⟨k,hk,rfl,hb,XU,ho,hr,SZ,Wn⟩:=hrel;have XW:=M6 ((gH D L).take k) 0 (λc hc=>IY hP.ok hL c (List.mem_of_mem_take hc)) (by omega) (by omega);have Vx:=M5 ((gH D L).take k) (λc hc=>IY hP.ok hL c (List.mem_of_mem_take hc)) SZ;rw[List.length_take,Hl]at Vx;obtain⟨mx,Vy⟩:∃mx,mx=((gH D L).take k).foldl max 0:=⟨_,rfl⟩;obtain⟨sm,Vz⟩:∃sm,sm=((gH D L).take k).sum:=⟨_,rfl⟩;rw[<-Vy,<-Vz]at ho;rw[<-Vy]at XW;rw[<-Vz]at Vx;obtain⟨o1,o2,o3,o4,f1,f2,f3,f4⟩:=dM ho;obtain⟨r1,r2,r3,r4,g1,g2,g3,g4⟩:=dM hr;have HO:=Go.Lib.hid ho;have HR:=Go.Lib.hid hr;have HA:=Go.Lib.hid SZ;have HD:=Go.Lib.hid Wn;have HM:=Go.Lib.hid Vy;have HS:=Go.Lib.hid Vz;clear ho hr SZ Wn Vy Vz;obtain⟨m0,m5⟩:=XW;obtain⟨s0,s5⟩:=Vx;have Z9:sm<=30:=by omega
  clear s5;by_cases AY:k<6
  ·have hx:=hL k AY;have XX:=Bz hP.ok (L k) hx;have M9:wr.cell? ⟨pb,3+L k,none⟩=some (.int .i64 (D.counts.getD (L k) 0)):=((Bt hb).1 _ _ Y4).trans (Hk hP _ hx);obtain⟨cv,Wo⟩:∃cv,cv=D.counts.getD (L k) 0:=⟨_,rfl⟩;rw[<-Wo]at M9 XX;obtain⟨c0,c5⟩:=XX;have Y5:∀w,(Instr.index 204 (.agg #[.int .u8 (L 0),.int .u8 (L 1),.int .u8 (L 2),.int .u8 (L 3),.int .u8 (L 4),.int .u8 (L 5)]) (.int .i64 k)).run V.prog w=.ok (.int .u8 (L k)) w:=by
    intro w;have:k=0\/k=1\/k=2\/k=3\/k=4\/k=5:=by omega
    rcases this with rfl|rfl|rfl|rfl|rfl|rfl
    ·exact ES ..
    ·exact ET ..
    ·exact EU ..
    ·exact EV ..
    ·exact EX ..
    ·exact EY ..
   have HC:=Go.Lib.hid Wo;clear Wo hP Rt;by_cases UB:cv<0
   ·go_wp2;have hp:=jZ (s:=cP []) HR.out;have hB:Below w.heap.size w (gY wr (w.heap.size+1) (cP [])):=j7 hb (Nat.le_succ _);obtain⟨q1,q2,q3,q4,_⟩:=dM hp;simp only[gY,cP]at q1 q2 q3 q4;have wW:dX D L ps=none:=by
     have Wp:cv∈gH D L:=by have h:=zd D L k AY;rw[<-HC.out]at h;exact h▸List.getElem_mem AY
     unfold dX;rw[if_pos (List.any_eq_true.2 ⟨cv,Wp,by simpa using UB⟩)]
    refine bodyPost_ret (v:=(cP []).val) (by simp[results,Tryz.results229,go_sem,q1,q2,q3,q4,SV.val,cP]) rfl ?_;refine(show IZ D L ps j0 w (.returned (cP []).val) (gY wr (w.heap.size+1) (cP []))from⟨cP [],rfl,?_,?_,hB,?_⟩)
    ·rw[wW];rfl
    ·rw[wW];intro l m k h;cases h
    ·show w.drawn<=wr.drawn;rw[HD.out];exact Nat.le_refl _
   ·go_wp2;go_roundw;case rel=>
     have Wq:(if mx<cv then cv else mx)=max mx cv:=by
      by_cases h:mx<cv
      ·rw[if_pos h];omega
      ·rw[if_neg h];omega
     have hp:((wr.setCell ⟨w.heap.size+1+1,1,none⟩ (.int .i64 (if mx<cv then cv else mx))).setCell ⟨w.heap.size+1+1,2,none⟩ (.int .i64 (sm+cv))).heap[w.heap.size+1+1]? =some (dO ⟨none,0,0,if mx<cv then cv else mx,sm+cv,true⟩):=by have:=HO.out;simp[World.setCell,Array.getElem?_modify,this,dO]
     have UC:(gH D L).take (k+1)=(gH D L).take k++[cv]:=by have h:=zd D L k AY;rw[ll _ _ AY,h,HC.out]
     refine⟨k+1,by omega,by go_num,(hb.setCell (Nat.le_succ_of_le (Nat.le_succ _)) _).setCell (Nat.le_succ_of_le (Nat.le_succ _)) _,by simpa[World.setCell]using XU,hp.trans ?_,?_,?_,HD.out⟩
     ·rw[UC,List.foldl_append,List.sum_append,<-HM.out,<-HS.out,Wq];simp
     ·rw[cF.Cr.dN _ _ _ _ (by simp),cF.Cr.dN _ _ _ _ (by simp)];exact HR.out
     ·rw[UC,List.any_append,HA.out];simpa using UB
    case measure=>simp[intOf];omega
  ·obtain rfl:k=6:=by omega
   rcases Rt with⟨rfl,rfl,rfl⟩|⟨PB,cs,rfl,cn,Wr,Y6,hle,UD⟩
   ·go_wp2_with (go_at_call 128;refine(J8 _).mono ?_;rintro e w' ⟨rfl,rfl⟩);have h6:(gH D L).take 6=gH D L:=List.take_of_length_le (Nat.le_refl _);have VA:(w'.setCell ⟨w.heap.size+1+1,0,none⟩ (.slice none 0 0)).heap[w.heap.size+1]? =some (dO (cP [])):=(cF.Cr.dN _ _ _ _ (by simp)).trans HR.out;have hp:=jZ (s:=⟨none,0,0,mx,sm,true⟩) VA;have hB:Below w.heap.size w (gY (w'.setCell ⟨w.heap.size+1+1,0,none⟩ (.slice none 0 0)) (w.heap.size+1) ⟨none,0,0,mx,sm,true⟩):=j7 (hb.setCell (Nat.le_succ_of_le (Nat.le_succ _)) _) (Nat.le_succ _);obtain⟨q1,q2,q3,q4,_⟩:=dM hp;simp only[gY]at q1 q2 q3 q4;have wW:dX D L []=some ([],mx,sm):=by
     have ha:=HA.out;have hm:=HM.out;have hs:=HS.out;rw[h6]at ha hm hs;unfold dX;rw[if_neg (by rw[ha];simp),<-hm,<-hs];rfl
    refine bodyPost_ret (v:=(SV.mk none 0 0 mx sm true).val) (by simp[results,Tryz.results229,go_sem,q1,q2,q3,q4,SV.val]) rfl ?_;refine(show IZ D L [] j0 w (.returned (SV.mk none 0 0 mx sm true).val) (gY (w'.setCell ⟨w.heap.size+1+1,0,none⟩ (.slice none 0 0)) (w.heap.size+1) ⟨none,0,0,mx,sm,true⟩)from⟨_,rfl,?_,?_,hB,?_⟩)
    ·rw[wW];exact⟨rfl,rfl,rfl,rfl,.inl ⟨rfl,rfl,rfl⟩⟩
    ·rw[wW];intro l m k h hl;cases h;exact absurd rfl hl
    ·show w.drawn<=w'.drawn;rw[HD.out];exact Nat.le_refl _
   ·have PL:0<ps.length:=by
     cases ps with
     |nil=>have:=PG rfl;cases this
     |cons=>simp
    obtain⟨l,hl⟩:∃l,l=ps.map Int.ofNat:=⟨_,rfl⟩;have Ws:l.length=ps.length:=by rw[hl];simp
    have Y7:PB<w.heap.size:=cF.lt_of_heap Wr;have Wt:PB<wr.heap.size:=by omega
    have SD:∀k (h:k<l.length),wr.cell? ⟨PB,k,none⟩=some (.int .i64 l[k]):=λk h=>by
     have h':k<ps.length:=by omega
     have e:wr.heap[PB]? =some (.cells cs 3):=(hb.block PB Y7).trans Wr;simp only[World.cell?,e];have:=UD k h';simp only[hl,List.getElem_map];exact this
    have HL:=Go.Lib.hid hl;have Y8:=Go.Lib.hid SD;clear hl SD UD Wr;have wX:=Hi PB pc l wr (by omega) (by omega) Wt Y8.out;have S0:=MZ wr l.length 0;obtain⟨cp,Wu⟩:∃cp,cp=wU wr l.length 0:=⟨_,rfl⟩;rw[<-Wu]at wX S0;rw[Ws]at wX S0;have XY:=Go.Lib.hid Wu;have VB:=Go.Lib.hid Ws;clear Wu Ws;have XZ:∀w',w'=((wr.alloc (.cells #[] 3)).alloc (.cells (fE l cp) 3)).drew->(w'.heap[w.heap.size+1+1]? =some (dO ⟨none,0,0,mx,sm,true⟩)/\w'.heap[w.heap.size+1]? =some (dO (cP []))/\
     Below w.heap.size w w'/\w'.heap[wr.heap.size+1]? =some (.cells (fE l cp) 3)/\w'.drawn=wr.drawn+1/\w'.tape=wr.tape):=by
     rintro w' rfl;refine⟨(alloc_old _ _ (by simp;omega)).trans ((alloc_old _ _ (by omega)).trans HO.out),(alloc_old _ _ (by simp;omega)).trans ((alloc_old _ _ (by omega)).trans HR.out),((hb.alloc (by omega) _).alloc (by simp;omega) _).drew,?_,rfl,rfl⟩;have:=eU (wr.alloc (.cells #[] 3)) (.cells (fE l cp) 3);rw[World.size_alloc]at this;exact this
    go_wp2_with (go_at_call 128;refine wX.mono ?_;clear wX;rintro e w' ⟨rfl,X0⟩;obtain⟨Y9,VA,Za,Wv,Ww,Wx⟩:=XZ w' X0;clear XZ X0;obtain⟨VC,VD,dm,dn,eM,gB,gM,iD⟩:=dM Y9;obtain⟨jO,kS,lR,lS,lT,mo,mG,mM⟩:=dM VA);have VE:(w'.setCell ⟨w.heap.size+1+1,0,none⟩ (.slice (some ⟨wr.heap.size+1,0,none⟩) ps.length cp)).heap[w.heap.size+1]? =some (dO (cP [])):=(cF.Cr.dN _ _ _ _ (by simp)).trans VA;have hp:=jZ (s:=⟨some ⟨wr.heap.size+1,0,none⟩,ps.length,cp,mx,sm,true⟩) VE;have hB:Below w.heap.size w (gY (w'.setCell ⟨w.heap.size+1+1,0,none⟩ (.slice (some ⟨wr.heap.size+1,0,none⟩) ps.length cp)) (w.heap.size+1) ⟨some ⟨wr.heap.size+1,0,none⟩,ps.length,cp,mx,sm,true⟩):=j7 (Za.setCell (Nat.le_succ_of_le (Nat.le_succ _)) _) (Nat.le_succ _);have Zb:(gY (w'.setCell ⟨w.heap.size+1+1,0,none⟩ (.slice (some ⟨wr.heap.size+1,0,none⟩) ps.length cp)) (w.heap.size+1) ⟨some ⟨wr.heap.size+1,0,none⟩,ps.length,cp,mx,sm,true⟩).heap[wr.heap.size+1]? =some (.cells (fE l cp) 3):=
     (oZ _ _ _ (by omega)).trans ((cF.Cr.dN _ _ _ _ (by simp;omega)).trans Wv)
    obtain⟨q1,q2,q3,q4,_⟩:=dM hp;simp only[gY]at q1 q2 q3 q4;have UE:l≠[]:=by intro h;have:=VB.out;rw[h]at this;simp at this;omega
    have wW:dX D L ps=some (l,mx,sm):=by have h6:(gH D L).take 6=gH D L:=List.take_of_length_le (Nat.le_refl _);have ha:=HA.out;have hm:=HM.out;have hs:=HS.out;rw[h6]at ha hm hs;unfold dX;rw[if_neg (by rw[ha];simp),<-hm,<-hs,HL.out]
    have Wz:cp<2^63:=by rw[XY.out];exact M0 wr _ _ (by rw[VB.out];exact er)
    refine bodyPost_ret (v:=(SV.mk (some ⟨wr.heap.size+1,0,none⟩) ps.length cp mx sm true).val) (by simp[results,Tryz.results229,go_sem,q1,q2,q3,q4,SV.val]) rfl ?_;refine(show IZ D L ps j0 w (.returned (SV.mk (some ⟨wr.heap.size+1,0,none⟩) ps.length cp mx sm true).val) (gY (w'.setCell ⟨w.heap.size+1+1,0,none⟩ (.slice (some ⟨wr.heap.size+1,0,none⟩) ps.length cp)) (w.heap.size+1) ⟨some ⟨wr.heap.size+1,0,none⟩,ps.length,cp,mx,sm,true⟩)from⟨_,rfl,?_,?_,hB,?_⟩)
    ·rw[wW];exact⟨rfl,rfl,rfl,VB.out.symm,.inr ⟨UE,wr.heap.size+1,by omega,rfl,VB.out▸S0,Wz,(0,0),λoff h=>absurd h.2 (Nat.not_lt_zero _),Zb⟩⟩
    ·rw[wW];intro l' m' k' h hl;cases h;refine⟨wr.drawn,by rw[HD.out];exact hj,?_⟩;show cp=_;have WA:(gY (w'.setCell ⟨w.heap.size+1+1,0,none⟩ (.slice (some ⟨wr.heap.size+1,0,none⟩) ps.length cp)) (w.heap.size+1) ⟨some ⟨wr.heap.size+1,0,none⟩,ps.length,cp,mx,sm,true⟩).tape=wr.tape:=Wx;rw[WA,XY.out];rfl
    ·show w.drawn<=w'.drawn;rw[Ww,HD.out];exact Nat.le_succ _
def o9(T:Nat)(w:cd)(pa:Option Addr)(pc:Nat)(ps:List Nat):Prop:=(pa=none/\ps=[]/\pc=0)\/∃a b,pa=some ⟨a,0,none⟩/\T<a/\w.heap[a]? =some (.cells b 3)/\b.size=pc/\ps.length<=pc/\pc<2^63/\(∀k (h:k<ps.length),b[k]? =some (.int .i64 ps[k]))
def o9.UF{T:Nat}{w:cd}{pa:Option Addr}{pc:Nat}{ps:List Nat}(h:o9 T w pa pc ps):IX T w pa pc ps:=by rcases h with h|⟨a,b,c,d,e,f,g,_,i⟩;exact .inl h;exact .inr ⟨a,b,c,d,e,f,g,i⟩
structure CY(T:Nat)(w:cd)(ps:List Nat)(i:Nat)(pa:Option Addr)(pc:Nat)(v:ce)(w':cd):Prop where
 val:∃P3 UG,v=.slice P3 (ps.length+1) UG/\o9 T w' P3 UG (ps++[i])/\(P3=pa\/∃b,w.heap.size<=b/\P3=some ⟨b,0,none⟩)
 os:w'.os=w.os
 tape:w'.tape=w.tape
 output:w'.output=w.output
 size:w.heap.size<=w'.heap.size
 block:∀b,b<w.heap.size->pa≠some ⟨b,0,none⟩->w'.heap[b]? =w.heap[b]?
 drawn:w.drawn<=w'.drawn
 old:o9 T w' pa pc ps
 stay:∀b,pa=some ⟨b,0,none⟩->w.cell? ⟨b,ps.length,none⟩=some (.int .i64 i)->w'.heap[b]? =w.heap[b]?
def V.Na:V.prog.info? 3=some Tryz.t3:=by kernel_rfl
def I0:Tryz.t3.zero=some (.int .i64 0):=by kernel_rfl
def sg:Tryz.t3.size=1:=by kernel_rfl
def EZ(T:Nat)(w:cd)(ps:List Nat)(i:Nat)(pa:Option Addr)(pc:Nat)(ty:cg)(B:Nat)(F:o9 T w pa pc ps)(E:T<w.heap.size)(G:w.cell? ⟨B,0,none⟩=some (.int .i64 i))(M:ps.length<65536):∃v w',(Builtin.append_ #[27,27] ty #[.slice pa ps.length pc,.slice (some ⟨B,0,none⟩) 1 1]).run V.prog w=.ok v w'/\CY T w ps i pa pc v w':=by
 have c:∀j v,[Value.int .i64 i][j]? =some v->w.cell? ((⟨B,0,none⟩:Addr).add j)=some v:=by
  intro j v h;cases j with
  |zero=>cases h;exact G
  |succ j=>simp at h
 rcases F with⟨rfl,rfl,rfl⟩|⟨f,m,rfl,p,a,q,z,r,d⟩;have y:=run_append_nil (P:=V.prog) w 27 ty 3 _ _ V.iy V.Na I0 ⟨B,0,none⟩ 1 1 [.int .i64 i] (by rw[sg];rfl) c (by decide) (by decide) (by rw[uB];decide);refine⟨_,_,y,⟨_,_,rfl,.inr ⟨w.heap.size,_,rfl,E,eU w.drew _,?_,grownCap_ge ..,?_,?_⟩,.inr ⟨_,cz _,rfl⟩⟩,rfl,rfl,rfl,?_,?_,?_,?_,?_⟩;have:=grownCap_ge w 1 0 3;simp[size_zeroCells,Value.cells];omega;have:=grownCap_le_maxLen w 1 0 3 (by decide);simp only[maxLen]at this;omega;intro k s;obtain rfl:k=0:=by simpa using s
 rw[vG (by simp)];rfl;rw[World.size_alloc];exact sP _;intro b o _;exact alloc_old w.drew _ o;exact sP _;exact .inl ⟨rfl,rfl,rfl⟩;intro b o;cases o;have A:=cF.lt_of_heap a;by_cases g:ps.length+1<=pc;have t:∀j,j<[Value.int .i64 i].length->w.heap[f]? =some (.cells m 3)/\j=0:=λj u=>⟨a,by simpa using u⟩
 have y:=run_append_room_cells (P:=V.prog) w 27 ty 3 _ V.iy V.Na f 0 ps.length pc ⟨B,0,none⟩ 1 1 [.int .i64 i] (by rw[sg];rfl) c (by simp[Value.oneCell']) g
  (λj u=>by
   obtain⟨_,rfl⟩:=t j u;have:ps.length<m.size:=by omega
   simp[World.cell?,a,sg,this])
  (λj u=>by simp[World.frozen?,a])
 have H:w.setCells f (0+ps.length*Tryz.t3.size) [.int .i64 i]=w.setCell ⟨f,ps.length,none⟩ (.int .i64 i):=by rw[sg];simp[World.setCells]
 rw[H]at y;refine⟨_,_,y,⟨_,_,rfl,.inr ⟨f,m.set! ps.length (.int .i64 i),rfl,p,?_,?_,?_,r,?_⟩,.inl rfl⟩,rfl,rfl,rfl,?_,?_,cz _,?_,?_⟩;simp[World.setCell,sL,a];simpa using q;simpa using g;intro k s;have:ps.length<m.size:=by omega
 by_cases h:k<ps.length;have C:=d k h;have l:ps.length≠k:=by omega
 simp only[Array.set!_eq_setIfInBounds];rw[eY l,C,lI h];obtain rfl:k=ps.length:=by simp at s;omega
 simp[this];simp[World.setCell];intro b o l;exact cF.Cr.dN _ _ _ _ (by rintro rfl;exact l rfl);refine .inr ⟨f,m.set! ps.length (.int .i64 i),rfl,p,?_,by simpa using q,z,r,λk s=>?_⟩;simp[World.setCell,sL,a];have l:ps.length≠k:=by omega
 simp only[Array.set!_eq_setIfInBounds];rw[eY l];exact d k s;intro b o I;obtain rfl:f=b:=cM Addr.block (cE o);have D:ps.length<m.size:=by omega
 have J:m[ps.length]? =some (.int .i64 i):=by simpa[World.cell?,a]using I
 have K:m.setIfInBounds ps.length (.int .i64 i)=m:=L1 λj=>by by_cases e:ps.length=j;subst e;rw[jE D,J];rw[eY e]
 simp[World.setCell,sL,a,K]
 have x:∀j v,(ps.map λn=>Value.int .i64 (n:Nat))[j]? =some v->w.cell? ((⟨f,0,none⟩:Addr).add j)=some v:=by
  intro j v h;have u:j<ps.length:=by have:=(gy.1 h).1;simpa using this
  have C:=d j u;rw[mR,ew u]at h;rw[Addr.add_lit];simp only[World.cell?,a,cB];rw[C];exact h
 have y:=run_append_grow (P:=V.prog) w 27 ty 3 _ _ V.iy V.Na I0 ⟨f,0,none⟩ ps.length pc (ps.map λn=>Value.int .i64 (n:Nat)) (by rw[sg];simp) x ⟨B,0,none⟩ 1 1 [.int .i64 i] (by rw[sg];rfl) c (by omega) (by omega) (growslice_fits (by omega) (by rw[uB];omega));refine⟨_,_,y,⟨_,_,rfl,.inr ⟨w.heap.size,_,rfl,E,eU w.drew _,?_,?_,?_,?_⟩,.inr ⟨_,cz _,rfl⟩⟩,rfl,rfl,rfl,?_,?_,?_,?_,?_⟩;have:=grownCap_ge w (ps.length+1) pc 3;simp[size_zeroCells,Value.cells];omega;have:=grownCap_ge w (ps.length+1) pc 3;simpa using this;have:=grownCap_le_maxLen w (ps.length+1) pc 3 (by simp only[maxLen];omega);simp only[maxLen]at this;omega;intro k s;have L:k<ps.length+1:=by simpa using s
 by_cases h:k<ps.length;rw[vG (by simp;omega),vG (by simpa using h)];simp[h];obtain rfl:k=ps.length:=by omega
 rw[vG (by simp),yr (by simp)];simp;rw[World.size_alloc];exact sP _;intro b o _;exact alloc_old w.drew _ o;exact sP _;exact .inr ⟨f,m,rfl,p,(alloc_old w.drew _ A).trans a,q,z,r,d⟩;intro b o _;obtain rfl:f=b:=cM Addr.block (cE o);exact alloc_old w.drew _ A
structure cN(F:Nat->Prop)(w w':cd):Prop where
 os:w'.os=w.os
 tape:w'.tape=w.tape
 output:w'.output=w.output
 size:w.heap.size<=w'.heap.size
 drawn:w.drawn<=w'.drawn
 block:∀b,b<w.heap.size->¬F b->w'.heap[b]? =w.heap[b]?
def cN.refl(F:Nat->Prop)(w:cd):cN F w w:=⟨rfl,rfl,rfl,cz _,cz _,λ_ _ _=>rfl⟩
theorem cN.trans{F G H:Nat->Prop}{a b c:cd}(h:cN F a b)(k:cN G b c)(i:∀x,x<a.heap.size->F x->H x)(j:∀x,x<a.heap.size->G x->H x):cN H a c:=
 ⟨k.os.trans h.os,k.tape.trans h.tape,k.output.trans h.output,cJ h.size k.size,cJ h.drawn k.drawn,λx d e=>(k.block x (dl d h.size) λg=>e (j x d g)).trans (h.block x d λf=>e (i x d f))⟩
theorem cN.alloc{F:Nat->Prop}{a b:cd}(h:cN F a b)(o:Obj):cN F a (b.alloc o):=
 ⟨h.os,h.tape,h.output,by rw[World.size_alloc];exact Rd h.size,h.drawn,λx c d=>(alloc_old b o (dl c h.size)).trans (h.block x c d)⟩
theorem cN.setCell{F:Nat->Prop}{a b:cd}(h:cN F a b)(ad:Addr)(v:ce)(e:ad.block<a.heap.size->F ad.block):cN F a (b.setCell ad v):=
 ⟨h.os,h.tape,h.output,by simpa[World.setCell]using h.size,h.drawn,λx c d=>(cF.Cr.dN _ _ _ _ (by rintro rfl;exact d (e c))).trans (h.block x c d)⟩
def CY.keep{T:Nat}{w:cd}{ps:List Nat}{i:Nat}{pa:Option Addr}{pc:Nat}{v:ce}{w':cd}(h:CY T w ps i pa pc v w'):cN (λb=>pa=some ⟨b,0,none⟩) w w':=
 ⟨h.os,h.tape,h.output,h.size,h.drawn,h.block⟩
def cN.cell{F:Nat->Prop}{a b:cd}(h:cN F a b){x o:Nat}(c:x<a.heap.size)(d:¬F x):b.cell? ⟨x,o,none⟩=a.cell? ⟨x,o,none⟩:=by simp only[World.cell?,h.block x c d]
def iQ.len{α:Type}{n0:Nat->Prop}{E:cd->ce->α->Prop}{z:ce}{t:cg}{w:cd}{v:ce}{l:List α}(h:iQ n0 E z t w v l):∃a c,v=.slice a l.length c:=by rcases h with⟨rfl,rfl⟩|⟨b,c,e,f,g,d,i,j,k,m,n⟩;exact⟨_,_,rfl⟩;exact⟨_,_,d⟩
def iQ.at_{α:Type}{n0:Nat->Prop}{E:cd->ce->α->Prop}{z:ce}{t:cg}{w:cd}{v:ce}{l:List α}(h:iQ n0 E z t w v l)(k:Nat)(a:k<l.length):∃b c u,v=.slice (some ⟨b,0,none⟩) l.length c/\n0 b/\w.cell? ⟨b,k,none⟩=some u/\E w u l[k]:=by rcases h with⟨rfl,rfl⟩|⟨b,c,m,n,d,e,f,o,p,g,q⟩;cases a;obtain⟨u,i,j⟩:=g k a;exact⟨b,c,u,e,d,by simp only[World.cell?,f];exact i,j⟩
def dY(pb:Nat)(pa:Option Addr)(pl pc:Nat)(L:Nat->Nat)(y:SV):Obj:=
 .cells #[.pointer (some ⟨pb,0,none⟩),.slice pa pl pc,.int .u8 (L 0),.int .u8 (L 1),.int .u8 (L 2),.int .u8 (L 3),.int .u8 (L 4),.int .u8 (L 5),.slice y.sa y.sl y.sc,.int .i64 y.m,.int .i64 y.k,.bool y.b] 245
def gZ{w:cd}{T pb:Nat}{pa:Option Addr}{pl pc:Nat}{L:Nat->Nat}{y:SV}(h:w.heap[T]? =some (dY pb pa pl pc L y)):w.cell? ⟨T,0,none⟩=some (.pointer (some ⟨pb,0,none⟩))/\w.cell? ⟨T,1,none⟩=some (.slice pa pl pc)/\(∀s,s<6->w.cell? ⟨T,2+s,none⟩=some (.int .u8 (L s)))/\xI w T 8 y/\∀o,w.frozen? ⟨T,o,none⟩=false:=by
 refine⟨by simp[World.cell?,h,dY],by simp[World.cell?,h,dY],?_,?_,λo=>by simp[World.frozen?,h,dY]⟩;intro s a;have:s=0\/s=1\/s=2\/s=3\/s=4\/s=5:=by omega
 rcases this with rfl|rfl|rfl|rfl|rfl|rfl<;>simp[World.cell?,h,dY];simp[xI,World.cell?,h,dY]
def Ho(L:Nat->Nat)(s v:Nat):Nat->Nat:=λx=>if x=s then v else L x
def jz(d:Nat)(l:List Nat)(L:Nat->Nat):Nat->Nat:=λs=>if s∈l then nZ (L s) d else L s
def P4:∀x,x<32->∀d,d<5->nZ (nZ x d) d=nZ x d:=by decide+kernel
def CZ{d:Nat}{l:List Nat}{L:Nat->Nat}(c:d<5)(a:∀s,s<6->L s<32):∀s,s<6->jz d l L s<32:=by intro s b;unfold jz;split;exact Hj _ (a s b) _ c;exact a s b
def BA{d:Nat}{l:List Nat}{L:Nat->Nat}(c:d<5)(e:∀s,s<6->L s<32)(k:Nat)(f:k<l.length)(g:l[k]<6):Ho (jz d (l.take k) L) l[k] (nZ (jz d (l.take k) L l[k]) d)=jz d (l.take (k+1)) L:=by
 funext s;have a:∀s,s∈l.take (k+1)↔s∈l.take k\/s=l[k]:=λs=>by rw[ll _ _ f];exact List.mem_append.trans (or_congr l8 fD)
 unfold Ho jz;by_cases b:s=l[k];subst b;rw[cx rfl,cx ((a _).2 (.inr rfl))];split;exact P4 _ (e _ g) _ c;rfl;rw[cr b];by_cases h:s∈l.take k;rw[cx h,cx ((a _).2 (.inl h))];rw[cr h,cr λi=>((a _).1 i).elim h b]
structure Ext(w w':cd):Prop where
 os:w'.os=w.os
 tape:w'.tape=w.tape
 output:w'.output=w.output
 size:w.heap.size<=w'.heap.size
 drawn:w.drawn<=w'.drawn
 block:∀b,b<w.heap.size->w'.heap[b]? =w.heap[b]?
def Ext.refl(w:cd):Ext w w:=⟨rfl,rfl,rfl,cz _,cz _,λ_ _=>rfl⟩
theorem Ext.trans{a b c:cd}(h:Ext a b)(k:Ext b c):Ext a c:=
 ⟨k.os.trans h.os,k.tape.trans h.tape,k.output.trans h.output,cJ h.size k.size,cJ h.drawn k.drawn,λx d=>(k.block x (dl d h.size)).trans (h.block x d)⟩
theorem Ext.drew(w:cd):Ext w w.drew:=⟨rfl,rfl,rfl,cz _,sP _,λ_ _=>rfl⟩
theorem Ext.alloc(w:cd)(o:Obj):Ext w (w.alloc o):=⟨rfl,rfl,rfl,by rw[World.size_alloc];exact sP _,cz _,λx a=>alloc_old w o a⟩
def Ext.keep{w w':cd}(h:Ext w w')(F:Nat->Prop):cN F w w':=⟨h.os,h.tape,h.output,h.size,h.drawn,λb a _=>h.block b a⟩
def cN.ext{w w':cd}{F:Nat->Prop}(h:cN F w w')(c:∀b,b<w.heap.size->¬F b):Ext w w':=⟨h.os,h.tape,h.output,h.size,h.drawn,λb a=>h.block b a (c b a)⟩
def Ext.cell{w w':cd}(h:Ext w w'){ad:Addr}{v:ce}(c:w.cell? ad=some v):w'.cell? ad=some v:=by
 have a:ad.block<w.heap.size:=by refine yB λb=>?_;have:w.heap[ad.block]? =none:=mO b;simp[World.cell?,this]at c
 exact(Go.Proofs.W.fY (h.block _ a)).trans c
def Ext.at_{w w':cd}(h:Ext w w'){b:Nat}{o:Obj}(a:w.heap[b]? =some o):w'.heap[b]? =some o:=(h.block b (cF.lt_of_heap a)).trans a
def kH(a:Act)(j:Nat):a.eval (.tmp j)=(a.tmps[j]?).getD undef:=by show a.tmps.getD j undef=_;simp[yq]
def E7(a:Act)(d j:Nat)(v:ce)(h:d≠j):(a.put (some d) v).eval (.tmp j)=a.eval (.tmp j):=by rw[kH,kH];simp only[Act.put];rw[eY h]
def A2(a:Act)(d:Nat)(v:ce)(h:d<a.tmps.size):(a.put (some d) v).eval (.tmp d)=v:=by rw[kH];simp only[Act.put];rw[jE h];rfl
def pI(a:Act)(d:Option Nat)(j:Nat)(v:ce)(h:d≠some j):(a.put d v).eval (.tmp j)=a.eval (.tmp j):=by
 cases d with
 |none=>rfl
 |some d=>exact E7 a d j v (λe=>h (by rw[e]))
def uD(a:Act)(d:Nat)(v:ce)(h:d<a.tmps.size):(a.put (some d) v).eval (.tmp d)=v:=A2 a d v h
def lZ(a:Act)(d:Option Nat)(v:ce):(a.put d v).tmps.size=a.tmps.size:=by cases d<;>simp[Act.put]
def tA(a:Act)(d:Option Nat)(v:ce):(a.put d v).defers=a.defers:=by cases d<;>rfl
def waits(ops:Array Oper)(k j:Nat):Bool:=match ops[k]? with
 |some o=>o.after.any λe=>e.on==j&&Region.binds .any e
 |none=>false
def Rv(ops:Array Oper)(N m:Nat):Bool:=
 (List.range ops.size).all (λi=>match ops[i]? with
  |some o=>(o.after.all λe=>decide (e.on<i))&&(match o.dst with|some d=>decide (d<N)&&(List.range ops.size).all (λj=>decide (j=i)||match ops[j]? with|some a=>a.dst !=some d|none=>true)|none=>true)
  |none=>true)&&((decide (m=ops.size)||(List.range m).all λj=>(List.range (m+1)).any λk=>decide (j<k)&&waits ops k j)&&(decide (m=ops.size)||decide (m+1=ops.size)))
def wrote(ops:Array Oper)(j:Nat):Bool:=ops.any λo=>o.dst==some j
structure fw(E:cd->cd->Prop):Prop where
 refl:∀w,E w w
 trans:∀a b c,E a b->E b c->E a c
 drew:∀w,E w w.drew
def cO:fw Ext:=⟨Ext.refl,λ_ _ _=>Ext.trans,Ext.drew⟩
def gu(F:Nat->Prop):fw (cN F):=⟨cN.refl F,λ_ _ _ h k=>h.trans k (λ_ _ h=>h) λ_ _ h=>h,λw=>(Ext.drew w).keep F⟩
section
variable{P:cf}{ops:Array Oper}{Q:Exit->Act->cd->Prop}{a0:Act}{w0:cd}{N m:Nat}{sS:Nat->ce->cd->Prop}{E:cd->cd->Prop}
structure Nb(E:cd->cd->Prop)(ops:Array Oper)(a0:Act)(w0:cd)(N m:Nat)(sS:Nat->ce->cd->Prop)(L:Array Bool)(a:Act)(w:cd):Prop where
 size:a.tmps.size=N
 defers:a.defers=a0.defers
 keep:∀j,wrote ops j=false->a.eval (.tmp j)=a0.eval (.tmp j)
 val:∀i o d,i<m->L.getD i false=true->ops[i]? =some o->o.dst=some d->sS i (a.eval (.tmp d)) w
 ext:E w0 w
 tail:∀i,m<=i->L.getD i false=false
 closed:∀i j,L.getD i false=true->waits ops i j=true->L.getD j false=true
def hH(L:Array Bool)(i j:Nat)(h:i<L.size):(L.setIfInBounds i true).getD j false=if i=j then true else L.getD j false:=by by_cases e:i=j;subst e;simp[h];simp[yq,eY e,e]
def Nb.next(y:fw E)(t:Rv ops N m=true)(z:∀i v w w',sS i v w->E w w'->sS i v w'){L:Array Bool}{a:Act}{w:cd}(f:Nb E ops a0 w0 N m sS L a w)(F:L.size=ops.size){i:Nat}{o:Oper}(q:ops[i]? =some o)(G:i<m) {v:ce}{w':cd}(u:E w w')(A:sS i v w')(g:∀j,waits ops i j=true->L.getD j false=true):Nb E ops a0 w0 N m sS (L.setIfInBounds i true) (a.put o.dst v) w':=by have B:i<ops.size:=(eP.1 q).1;simp only[Rv,ez]at t;have c:=jF.1 t.1 i (eJ.2 B);rw[q]at c;simp only[ez]at c;refine⟨by rw[lZ,f.size],by rw[tA,f.defers],λj p=>?_,λk C d h l b r=>?_,y.trans _ _ _ f.ext u,λk h=>?_,λk j h p=>?_⟩;rw[pI,f.keep j p];intro e;have:wrote ops j=true:=sE.2 ⟨o,l7 q,by rw[e];simp⟩;rw[this]at p;cases p;rw[hH _ _ _ (by omega)]at l;by_cases e:i=k;subst e;rw[q]at b;obtain rfl:=cE b;rw[r,uD];exact A;have n:=c.2;rw[r]at n;simp only[ez,jk]at n;rw[f.size];exact n.1;rw[cr e]at l;have s:k<ops.size:=(eP.1 b).1;rw[pI];exact z _ _ _ _ (f.val k C d h l b r) u;intro D;have n:=c.2;rw[D]at n;simp only[ez,jk]at n;have x:=jF.1 n.2 k (eJ.2 s);rw[b]at x;simp[r,fO e]at x;rw[hH _ _ _ (by omega),cr (by omega)];exact f.tail k h;rw[hH _ _ _ (by omega)]at h⊢;split;rfl;by_cases e:i=k;subst e;exact g j p;rw[cr e]at h;exact f.closed k j h p
def zf{i:Nat}{o:Oper}{a:Act}{w:cd}{K:Act->cd->Prop}(f:cm)(args:Array ce)(b:ops[i]? =some o)(d:o.guard=none)(g:(execOp a.eval o).run P w=.ok (.enter f args) w)
 (j:Calls P f args w λe w'=>(∃v,e=.returned v/\K (a.put o.dst v) w')\/∃c,e=.panicked c/\Q (.panic c) a w'):wpOp P ops Q i K a w:=by
 have k:Region.wanted o (yielded ops a.tmps)=true:=by simp[Region.wanted,d]
 unfold wpOp;rw[b];simp only[k,cX];refine .inl ?_;unfold Oper.wp;rw[g];refine j.mono ?_;rintro e w' (⟨v,rfl,h⟩|⟨c,rfl,h⟩);exact h;exact h
end
def P5(E:cd->cd->Prop)(p:ce->cd->Prop):Prop:=∀v w a,p v w->E w a->p v a
def infoAt(ops:Array Oper)(i:Nat):Option (Op×Option (Nat×Bool)):=(ops[i]?).map λo=>(o.op,o.guard)
def Ka{ops:Array Oper}{i:Nat}{o:Oper}{a:Op}{g:Option (Nat×Bool)}(b:ops[i]? =some o)(h:infoAt ops i=some (a,g)):o.op=a/\o.guard=g:=by unfold infoAt at h;rw[b]at h;simp only[iX,fI,Prod.mk.injEq]at h;exact h
def zg{ops:Array Oper}{i:Nat}{o:Oper}{d:Option Tmp}(a:ops[i]? =some o)(h:((ops[i]?).map (·.dst))=some d):o.dst=d:=by rw[a]at h;simpa using h
def vU{ops:Array Oper}{n:Nat}(i:Nat)(h:ops.size=n)(a:i<n):∃o,ops[i]? =some o:=⟨_,ji (by omega)⟩
def boxed(n:Nat)(cs:Array ce)(t:cg):ce->cd->Prop:=λv w=>∃a,v=.pointer (some ⟨a,0,none⟩)/\n<=a/\w.heap[a]? =some (.cells cs t)
def Hp(n:Nat)(cs:Array ce)(t:cg):P5 Ext (boxed n cs t):=λ_ _ _ ⟨a,b,c,d⟩ e=>⟨a,b,c,e.at_ d⟩
def Ext.n4{w w':cd}(h:Ext w w'){ad:Addr}(v:ce)(b:w.heap.size<=ad.block):Ext w (w'.setCell ad v):=
 ⟨h.os,h.tape,h.output,by simpa[World.setCell]using h.size,h.drawn,λx a=>(cF.Cr.dN _ _ _ _ (by omega)).trans (h.block x a)⟩
def cN.ef{F:Nat->Prop}{w w':cd}(h:cN F w w'){ad:Addr}{v:ce}(c:w.cell? ad=some v)(d:¬F ad.block):w'.cell? ad=some v:=by
 have a:ad.block<w.heap.size:=by refine yB λb=>?_;have:w.heap[ad.block]? =none:=mO b;simp[World.cell?,this]at c
 exact(Go.Proofs.W.fY (h.block _ a d)).trans c
def cN.fg{F:Nat->Prop}{w w':cd}(h:cN F w w'){b:Nat}{o:Obj}(a:w.heap[b]? =some o)(c:¬F b):w'.heap[b]? =some o:=(h.block b (cF.lt_of_heap a) c).trans a
section
variable{P:cf}{Q:Exit->Act->cd->Prop}{a:Act}{w:cd}
def Fa{p:Nat->Prop}(h:∃k,p k):∃k,p k/\∀j,p j->k<=j:=by
 obtain⟨k,d⟩:=h;induction k using Nat.strongRecOn with
 |_ k e=>
  by_cases c:∃j,p j/\j<k;obtain⟨j,b,a⟩:=c;exact e j a b;exact⟨k,d,λj b=>Nat.le_of_not_lt λa=>c ⟨j,b,a⟩⟩
def pJ{c:Code}(I:Nat->Act->cd->Prop)(n:Nat)(m:I n a w)
 (b:∀k a w,I k a w->c.wp P (Exit.then (λl w'=>∃f,f<k/\I f l w') Q) a w):(Code.loop c).wp P Q a w:=by
 let g:Act->cd->Nat:=λa w=>by classical exact if h:∃k,I k a w then Classical.choose (Fa h)else 0
 have i:∀a w,(∃k,I k a w)->I (g a w) a w/\∀j,I j a w->g a w<=j:=by intro a w h;have:=iu (Fa h);simp only[g,h,dif_pos];exact this
 refine wp_loop (λa w=>∃k,I k a w) g ⟨n,m⟩ λa w o=>?_;obtain⟨p,r⟩:=i a w o;refine lV (b (g a w) a w p) λe l w' h=>?_;cases e with
 |normal=>
  obtain⟨f,q,d⟩:=h;exact⟨⟨f,d⟩,Nat.lt_of_le_of_lt ((i l w' ⟨f,d⟩).2 f d) q⟩
 |_=>exact h
end
noncomputable def BB(xs:Array ce)(n:Nat):Act:=⟨xs++Array.replicate (n-xs.size) undef,[]⟩
def tB(xs:Array ce)(n:Nat)(h:xs.size<=n):(BB xs n).tmps.size=n:=by simp[BB];omega
def zh(xs:Array ce)(n i:Nat)(v:ce)(h:xs[i]? =some v):(BB xs n).eval (.tmp i)=v:=by have a:i<xs.size:=(eP.1 h).1;rw[kH];show((xs++Array.replicate (n-xs.size) undef)[i]?).getD undef=v;rw[vG a,h];rfl
def Nc{P:cf}{f:cm}{fn:Func}{c:Code}{args:Array ce}{w:cd}{R:Ending->cd->Prop}(n:Nat) (d:P.funcs[f]? =some fn)(e:fn.body=some c)(g:fn.ntmps=n)(h:∀a:Act,a.tmps.size=n->a.defers=[]->(∀i v,args[i]? =some v->a.eval (.tmp i)=v)->c.wp P (bodyPost P fn R) a w)(b:args.size<=n):Calls P f args w R:=by refine calls_of_wp d e ?_;rw[g];exact h (BB args n) (tB _ _ b) rfl λi v j=>zh _ _ _ _ j
def xK{P:cf}{f:cm}{fn:Func}{c:Code}{args:Array ce}{w:cd}{R:Ending->cd->Prop}(n:Nat) (d:P.funcs[f]? =some fn)(e:fn.body=some c)(g:fn.ntmps=n)(h:∀a:Act,a.tmps.size=n->a.defers=[]->(∀i v,args[i]? =some v->a.eval (.tmp i)=v)->c.wp P (bodyPostD P fn R) a w)(b:args.size<=n):Calls P f args w R:=by refine calls_of_wp_defers d e ?_;rw[g];exact h (BB args n) (tB _ _ b) rfl λi v j=>zh _ _ _ _ j
end Go.Proofs.W
