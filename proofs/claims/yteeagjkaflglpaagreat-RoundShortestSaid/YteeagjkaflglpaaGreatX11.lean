/- Laws that the proof needs, part 11. Conditions: none. -/
import Derived.Conc.SmallLaws
import Derived.Outline
import Derived.ArgAppend
import Derived.Defers
import Derived.Test.YteeagjkaflglpaaGreatX10
set_option maxRecDepth 100000
set_option maxHeartbeats 8000000
set_option linter.all false
namespace Go.Proofs.W
open Go.Conc Go.ck Go.ck.Cr Go.ck.Wg Go.RowKit Go.Conc.Lib Go.ConcR.Gen
open Go.ConcN Go.ConcN.Gen
open Go.ConcR (KK wgBlock WgAt stA smA mk DC0)
structure xZ(pb:Nat)(oa:Option Addr)(on oc:Nat)(la:Addr)(L C:Nat)(a0:Option Addr)(n c0:Nat)(w:World):Prop where
 f1:w.cell? ⟨pb,1,none⟩=some (.slice oa on oc)
 ls:Fu pb la L C a0 n c0 w
noncomputable def Ic(o p q r s t u a b c d e f g h i j k l m n:Value):Act:=
 ⟨#[o,p,q,r,s,undef,undef,undef,t,u,a,b,c,d,e,f,g,h,i,j,k,l,m,n,undef,undef,undef,undef,undef,undef,undef,undef,undef,undef,undef,undef,undef,undef,undef,undef,undef,undef,undef,undef,undef,undef,undef,undef,undef,undef,undef,undef],[]⟩
theorem x6(x:Value)(cs:List Frame):G (Frame.enter PR 163 #[x] .normal) cs=G (gT.at (Ic x undef undef undef undef undef undef undef undef undef undef undef undef undef undef undef undef undef undef undef undef) [.code pd]) cs:=by rw[enter_at (fn:=Tryz.f163) (c:=pd) _ Tryz.func163 sD,Tryz.ntmps163];simp only[Ic,List.size_toArray,List.length_cons,List.length_nil,Nat.reduceAdd,Nat.reduceSub,Array.replicate,List.replicate,List.append_toArray,List.cons_append,List.nil_append,gT]
noncomputable def i247:TypeInfo:=(PR.info? 247).getD default
theorem BU:PR.info? 247=some i247:=by kernel_rfl
def K9(pb:Nat)(n:Nat)(Q:World->Prop)(m0:Nat)(cs:List Frame):eK:=λa g w=>
 ∃(e:mU) (d f h i j c:Nat),g=G (gT.at (jd e d h i n 0 undef undef undef undef undef undef) [.code dQ,.inLoop dQ,.inBlock 0,.code fo]) cs/\e.x2=.pointer (some ⟨f,0,none⟩)/\KO [(i,wgBlock 241 0 0),(h,.cells #[.chan (some j)] 232),(j,.chan 0 #[] false c c false),(f,.cells #[.slice none 0 0,.int .i64 0,.int .i64 0,.bool false] 199),(d,.cells #[.pointer (some ⟨pb,0,none⟩)] 200)] Q m0 w/\∀b,a b↔b=i\/b=h\/b=j\/b=f\/b=d
theorem FA{pb O oc1 L C n c0 m0:Nat}{oa a0:Option Addr}{la:Addr}{Q:World->Prop}{rd:Nat->Prop}{cs:List Frame}(B:rm rd Q)(Y:0<O)(hL:0<L) (F:∀w,Q w->xZ pb oa O oc1 la L C a0 n c0 w)(I:rd pb)(R:rd la.block)(S:∀b,rd b->b<m0):WK PR 241 0 true rd (K9 pb n Q m0 cs) ci (KO [] Q m0) (G (Frame.enter PR 163 #[.pointer (some ⟨pb,0,none⟩)] .normal) cs):=by
 rw[x6];have V:∀x∈([]:List (Nat×Obj)),ci x.1:=λx s=>by cases s
 have J:=KO.rely (Q:=Q) (m0:=m0) (rd:=rd) (own:=ci) (L:=Lv 241 0) V B;simp only[pd,Ic];refine WK.ctl J rfl (λ_=>stepG_seq) ?_;refine WK.ctl J rfl (λ_=>stepG_region) ?_;simp only[sx,List.size_toArray,List.length_cons,List.length_nil,Nat.reduceAdd,Nat.zero_add,List.range,List.range.loop];refine WK.AC (f:=λn=>.pointer (some ⟨n,0,none⟩)) (ob:=.cells #[.pointer (some ⟨pb,0,none⟩)] 200) V B rfl rfl (by k_ne) (λw c=>?_) (λw c e l=>?_) λr _ _=>?_
 ·go_simp;first|done|rfl
 ·simp[go_sem]at l
 walk_nrm;have Z:∀x∈[(r,Obj.cells #[.pointer (some ⟨pb,0,none⟩)] 200)],(λx=>ci x\/x=r) x.1:=λx s=>by rw[List.mem_singleton.1 s];exact .inr rfl
 refine WK.AC (f:=λn=>.pointer (some ⟨n,0,none⟩)) (ob:=.cells #[.slice none 0 0,.int .i64 0,.int .i64 0,.bool false] 199) Z B rfl rfl (by k_ne) (λw c=>?_) (λw c e l=>?_) λy _ _=>?_
 ·go_simp;first|done|rfl
 ·simp[go_sem]at l
 walk_nrm
 have T:∀x∈[(y,Obj.cells #[.slice none 0 0,.int .i64 0,.int .i64 0,.bool false] 199),(r,Obj.cells #[.pointer (some ⟨pb,0,none⟩)] 200)],(λx=>(ci x\/x=r)\/x=y) x.1:=λx s=>by
  rcases List.mem_cons.1 s with rfl|s
  ·exact .inr rfl
  ·rw[List.mem_singleton.1 s];exact .inl (.inr rfl)
 have j:=KO.rely (m0:=m0) (L:=Lv 241 0) (own:=λx=>(ci x\/x=r)\/x=y) T B;have K:∀w,KO [(y,Obj.cells #[.slice none 0 0,.int .i64 0,.int .i64 0,.bool false] 199),(r,Obj.cells #[.pointer (some ⟨pb,0,none⟩)] 200)] Q m0 w->w.cell? ⟨r,0,none⟩=some (.pointer (some ⟨pb,0,none⟩)):=λw c=>by have:=c.at_ (r,Obj.cells #[.pointer (some ⟨pb,0,none⟩)] 200) (by simp);simp[World.cell?,this]
 refine WK.ctl j rfl (λ_=>stepG_region_end) ?_;refine WK.ctl j rfl (λ_=>stepG_seq) ?_;refine WK.ctl j rfl (λ_=>stepG_seq) ?_;refine WK.ctl j rfl (λ_=>stepG_region) ?_;simp only[sB,List.size_toArray,List.length_cons,List.length_nil,Nat.reduceAdd,Nat.zero_add,List.range,List.range.loop];refine WK.load (v:=.pointer (some ⟨pb,0,none⟩)) j rfl rfl (by k_ne) (λw c=>?_) (λw c e l=>?_) ?_
 ·have p:=(K) w c;go_simp
 ·have p:=(K) w c;simp[go_sem,p]at l;exact .inl ⟨_,_,l,.inl (.inl (.inr rfl))⟩
 walk_nrm;refine WK.val (v:=?_) j rfl rfl (by k_ne) (λw=>?_) (λw=>?_) ?_;rotate_left
 ·go_simp;rfl
 ·go_simp
 walk_nrm;refine WK.val (v:=?_) j rfl rfl (by k_ne) (λw=>?_) (λw=>?_) ?_;rotate_left
 ·go_simp;rfl
 ·go_simp
 walk_nrm;refine WK.load (v:=.slice oa O oc1) j rfl rfl (by k_ne) (λw c=>?_) (λw c e l=>?_) ?_
 ·have p:=(λw c=>(F w c.q).f1) w c;go_simp
 ·have p:=(λw c=>(F w c.q).f1) w c;simp[go_sem,p]at l;exact .inl ⟨_,_,l,.inr (.inl ⟨rfl,I⟩)⟩
 walk_nrm;refine WK.val (v:=?_) j rfl rfl (by k_ne) (λw=>?_) (λw=>?_) ?_;rotate_left
 ·go_simp;rfl
 ·go_simp
 walk_nrm;refine WK.val (v:=.bool false) j rfl rfl (by k_ne) (λw=>?_) (λw=>?_) ?_
 ·go_simp;omega
 ·simp[go_sem]
 walk_nrm;refine WK.ctl j rfl (λ_=>stepG_region_end) ?_;refine WK.ctl j rfl (λ_=>stepG_cond (t:=false) rfl) ?_;simp only[Bool.false_eq_true,if_false];refine WK.ctl j rfl (λ_=>stepG_skip) ?_;refine WK.ctl j rfl (λ_=>stepG_seq) ?_;refine WK.ctl j rfl (λ_=>stepG_region) ?_;simp only[xM,List.size_toArray,List.length_cons,List.length_nil,Nat.reduceAdd,Nat.zero_add,List.range,List.range.loop];refine WK.AC (f:=λn=>.chan (some n)) (ob:=.chan 0 #[] false 0 0 false) T B rfl rfl (by k_ne) (λw c=>?_) (λw c e l=>?_) λz _ _=>?_
 ·have:=run_makeChan (P:=PR) (w:=w) (t:=232) (e:=247) (dir:=.both) (i:=i247) (by kernel_rfl) BU .i64 0 (by omega) (by omega);go_simp;first|done|rfl|(rw[this];rfl)
 ·have h:(Instr.makeChan 232 (.int .i64 0)).events PR w #[]=#[]:=by
   have h:=events_makeChan (P:=PR) (w:=w) (t:=232) (e:=247) (dir:=.both) (i:=i247) (by kernel_rfl) BU .i64 0 (by omega) (by omega) #[];simpa using h
  have E:e∈(do Pure.pure (Next.value (<-Instr.makeChan 232 (.int .i64 0))):Sem Next).events PR w #[]:=l;simp at E;rw[h]at E;simp at E
 walk_nrm
 have W:∀x∈[(z,Obj.chan 0 #[] false 0 0 false),(y,Obj.cells #[.slice none 0 0,.int .i64 0,.int .i64 0,.bool false] 199),(r,Obj.cells #[.pointer (some ⟨pb,0,none⟩)] 200)],(λx=>((ci x\/x=r)\/x=y)\/x=z) x.1:=λx s=>by
  rcases List.mem_cons.1 s with rfl|s
  ·exact .inr rfl
  ·exact .inl (T x s)
 refine WK.AC (f:=λn=>.pointer (some ⟨n,0,none⟩)) (ob:=.cells #[.chan none] 232) W B rfl rfl (by k_ne) (λw c=>?_) (λw c e l=>?_) λu _ _=>?_
 ·go_simp;first|done|rfl
 ·simp[go_sem]at l
 walk_nrm
 have N:∀o,∀x∈[(u,o),(z,Obj.chan 0 #[] false 0 0 false),(y,Obj.cells #[.slice none 0 0,.int .i64 0,.int .i64 0,.bool false] 199),(r,Obj.cells #[.pointer (some ⟨pb,0,none⟩)] 200)],(λx=>(((ci x\/x=r)\/x=y)\/x=z)\/x=u) x.1:=λo x s=>by
  rcases List.mem_cons.1 s with rfl|s
  ·exact .inr rfl
  ·exact .inl (W x s)
 refine WK.Fz (pre:=[]) (ob':=.cells #[.chan (some z)] 232) (N _) B (λb k U=>?_) rfl rfl (by k_ne) (λw c=>?_) (λw c e l=>?_) ?_
 ·have:=S b U;rcases k with(((k|k)|k)|k)|k
  ·exact k
  all_goals omega
 ·have p:=c.at_ (u,Obj.cells #[.chan none] 232) (by simp);have c0:w.cell? ⟨u,0,none⟩=some (.chan none):=by simp[World.cell?,p]
  have X:w.frozen? ⟨u,0,none⟩=false:=by simp[World.frozen?,p]
  go_simp;refine⟨by simp[World.setCell],by simp[World.setCell],λd hd=>cR w ⟨u,0,none⟩ _ d hd,?_⟩;simp[World.setCell,Array.getElem?_modify,p]
 ·have p:=c.at_ (u,Obj.cells #[.chan none] 232) (by simp);have c0:w.cell? ⟨u,0,none⟩=some (.chan none):=by simp[World.cell?,p]
  have X:w.frozen? ⟨u,0,none⟩=false:=by simp[World.frozen?,p]
  have H:∀(w:World) (H:Array Event) (a:Addr) (m:Mode) (x:Option Nat),(store a (.chan x) m).events PR w H=storedEv PR w H a (.chan x) m:=λw H a m x=>events_store PR w H a _ m rfl;simp[go_sem,H,c0,X]at l;exact .inl ⟨_,_,l,.inl (.inr rfl)⟩
 walk_nrm;have A:=KO.rely (m0:=m0) (L:=Lv 241 0) (own:=λx=>(((ci x\/x=r)\/x=y)\/x=z)\/x=u) (N (Obj.cells #[.chan (some z)] 232)) B;refine WK.ctl A rfl (λ_=>stepG_region_end) ?_;refine WK.ctl A rfl (λ_=>stepG_seq) ?_;refine WK.ctl A rfl (λ_=>stepG_region) ?_;simp only[xN,List.size_toArray,List.length_cons,List.length_nil,Nat.reduceAdd,Nat.zero_add,List.range,List.range.loop];refine WK.AC (f:=λn=>.pointer (some ⟨n,0,none⟩)) (ob:=wgBlock 241 0 0) (N _) B rfl rfl (by k_ne) (λw c=>?_) (λw c e l=>?_) λM _ _=>?_
 ·go_simp;first|done|rfl
 ·simp[go_sem]at l
 walk_nrm
 have h5:∀x∈[(M,wgBlock 241 0 0),(u,Obj.cells #[.chan (some z)] 232),(z,Obj.chan 0 #[] false 0 0 false),(y,Obj.cells #[.slice none 0 0,.int .i64 0,.int .i64 0,.bool false] 199),(r,Obj.cells #[.pointer (some ⟨pb,0,none⟩)] 200)],(λx=>((((ci x\/x=r)\/x=y)\/x=z)\/x=u)\/x=M) x.1:=λx s=>by
  rcases List.mem_cons.1 s with rfl|s
  ·exact .inr rfl
  ·exact .inl (N _ x s)
 have g:=KO.rely (m0:=m0) (L:=Lv 241 0) (own:=λx=>((((ci x\/x=r)\/x=y)\/x=z)\/x=u)\/x=M) h5 B;refine WK.ctl g rfl (λ_=>stepG_region_end) ?_;refine WK.ctl g rfl (λ_=>stepG_seq) ?_;refine WK.ctl g rfl (λ_=>stepG_seq) ?_;refine WK.ctl g rfl (λ_=>stepG_region) ?_;simp only[xO,List.size_toArray,List.length_cons,List.length_nil,Nat.reduceAdd,Nat.zero_add,List.range,List.range.loop];have D:∀w,KO [(M,wgBlock 241 0 0),(u,Obj.cells #[.chan (some z)] 232),(z,Obj.chan 0 #[] false 0 0 false),(y,Obj.cells #[.slice none 0 0,.int .i64 0,.int .i64 0,.bool false] 199),(r,Obj.cells #[.pointer (some ⟨pb,0,none⟩)] 200)] Q m0 w->w.cell? ⟨r,0,none⟩=some (.pointer (some ⟨pb,0,none⟩)):=λw c=>by have:=c.at_ (r,Obj.cells #[.pointer (some ⟨pb,0,none⟩)] 200) (by simp);simp[World.cell?,this]
 refine WK.load (v:=.pointer (some ⟨pb,0,none⟩)) g rfl rfl (by k_ne) (λw c=>?_) (λw c e l=>?_) ?_
 ·have p:=(D) w c;go_simp
 ·have p:=(D) w c;simp[go_sem,p]at l;exact .inl ⟨_,_,l,.inl (.inl (.inl (.inl (.inl (.inr rfl)))))⟩
 walk_nrm;refine WK.val (v:=?_) g rfl rfl (by k_ne) (λw=>?_) (λw=>?_) ?_;rotate_left
 ·go_simp;rfl
 ·go_simp
 walk_nrm;refine WK.val (v:=?_) g rfl rfl (by k_ne) (λw=>?_) (λw=>?_) ?_;rotate_left
 ·go_simp;rfl
 ·go_simp
 walk_nrm;refine WK.load (v:=.slice (some la) L C) g rfl rfl (by k_ne) (λw c=>?_) (λw c e l=>?_) ?_
 ·have p:=(λw c=>(F w c.q).ls.f2) w c;go_simp
 ·have p:=(λw c=>(F w c.q).ls.f2) w c;simp[go_sem,p]at l;exact .inl ⟨_,_,l,.inr (.inl ⟨rfl,I⟩)⟩
 walk_nrm;refine WK.val (v:=.pointer (some la)) g rfl rfl (by k_ne) (λw=>?_) (λw=>?_) ?_
 ·go_simp
 ·simp[go_sem];exact events_indexAt_slice _ _ _ _ _ _ (by kernel_rfl) ⟨by omega,by omega⟩
 walk_nrm;refine WK.load (v:=.slice a0 n c0) g rfl rfl (by k_ne) (λw c=>?_) (λw c e l=>?_) ?_
 ·have p:=(λw c=>(F w c.q).ls.l0) w c;go_simp
 ·have p:=(λw c=>(F w c.q).ls.l0) w c;simp[go_sem,p]at l;exact .inl ⟨_,_,l,.inr (.inl ⟨rfl,R⟩)⟩
 walk_nrm;refine WK.val (v:=?_) g rfl rfl (by k_ne) (λw=>?_) (λw=>?_) ?_;rotate_left
 ·go_simp;rfl
 ·go_simp
 walk_nrm;refine WK.val (v:=?_) g rfl rfl (by k_ne) (λw=>?_) (λw=>?_) ?_;rotate_left
 ·go_simp;rfl
 ·go_simp
 walk_nrm;refine WK.ctl g rfl (λ_=>stepG_region_end) ?_;refine WK.ctl g rfl (λ_=>stepG_block) ?_;refine WK.ctl g rfl (λ_=>stepG_loop) ?_;refine WK.stop g λw c=>⟨⟨_,_,_,_,_,_,_,_,_,_,_,_,_,_,_,_⟩,r,y,u,M,z,0,rfl,rfl,c,λb=>⟨?_,?_⟩⟩
 ·rintro(((((k|k)|k)|k)|k)|k)
  ·exact k.elim
  ·exact .inr (.inr (.inr (.inr k)))
  ·exact .inr (.inr (.inr (.inl k)))
  ·exact .inr (.inr (.inl k))
  ·exact .inr (.inl k)
  ·exact .inl k
 ·rintro(k|k|k|k|k)
  ·exact .inr k
  ·exact .inl (.inr k)
  ·exact .inl (.inl (.inr k))
  ·exact .inl (.inl (.inl (.inr k)))
  ·exact .inl (.inl (.inl (.inl (.inr k))))
theorem sI{rc:Nat}{f:Array Value}{a b c d:Value}{w:World}(g:f[2]? =some (.pointer (some ⟨rc,0,none⟩)))(e:w.heap[rc]? =some (.cells #[a,b,c,d] 199)):(results Tryz.f163 f).run PR w=.ok (.agg #[a,b,c,d]) w:=by
 have h:w.cell? ⟨rc,0,none⟩=some a:=by simp[World.cell?,e]
 have i:w.cell? ⟨rc,1,none⟩=some b:=by simp[World.cell?,e]
 have j:w.cell? ⟨rc,2,none⟩=some c:=by simp[World.cell?,e]
 have k:w.cell? ⟨rc,3,none⟩=some d:=by simp[World.cell?,e]
 simp[results,Tryz.results163,go_sem,g,h,i,j,k]
theorem pi{rc:Nat}{h:Array Value}{a b c d:Value}{w:World}(i:h[2]? =some (.pointer (some ⟨rc,0,none⟩)))(g:w.heap[rc]? =some (.cells #[a,b,c,d] 199)):∀e∈(results Tryz.f163 h).events PR w #[],∃ad j,e=⟨.cell ad,j,false⟩/\ad.block=rc:=by
 have k:w.cell? ⟨rc,0,none⟩=some a:=by simp[World.cell?,g]
 have l:w.cell? ⟨rc,1,none⟩=some b:=by simp[World.cell?,g]
 have m:w.cell? ⟨rc,2,none⟩=some c:=by simp[World.cell?,g]
 have n:w.cell? ⟨rc,3,none⟩=some d:=by simp[World.cell?,g]
 intro e f;simp[results,Tryz.results163,go_sem,i,k,l,m,n]at f;rcases f with f|f|f|f<;>exact⟨_,_,f,rfl⟩
section
variable{Wg:Nat}{own rd:Nat->Prop}{S:eK}{Q:World->Prop}{m0 rc:Nat}{bl pre:List (Nat×Obj)}{caller:Frame}{cs:List Frame}{va vb vc vd:Value}{act:Act}
theorem FB{k:List Item}{K:World->Prop}(a:jV own rd (Lv 241 Wg) K)(f:∀w,K w->w.heap[rc]? =some (.cells #[va,vb,vc,vd] 199))(c:own rc)(g:act.tmps[2]? =some (.pointer (some ⟨rc,0,none⟩)))(i:act.defers=[]) (j:WK PR 241 Wg true rd S own K (G (caller.finish (.agg #[va,vb,vc,vd])) cs)):WK PR 241 Wg true rd S own K (G (gT.at act (.code .ret::k)) (caller::cs)):=by
 refine WK.ctl (g':=G {gT.at act (.code .ret::k)with mode:=.returning} (caller::cs)) a rfl (λw=>?_) ?_
 ·simp[stepG,stepG.exec,G,Frame.at,gT,base]
 ·refine WK.step a rfl λw d=>?_;have l:=sI g (f w d);refine⟨G (caller.finish (.agg #[va,vb,vc,vd])) cs,w,seen PR 163 ((results Tryz.f163 act.tmps).events PR w #[]),own,?_,⟨rfl,rfl,rfl,Nat.le_refl _,λb=>⟨.inl,λh=>h.elim id λh=>absurd h.2 (Nat.not_lt.2 h.1)⟩,λ_ _ _=>rfl,λe m=>?_⟩,j w d⟩
  ·simp[stepG,unwind,doReturn,G,Frame.at,gT,base,i,Tryz.func163,Sem.runT_eq,l,GStep.after]
  ·have:=gJ m;obtain⟨n,o,rfl,p⟩:=pi g (f w d) e this;exact .inl ⟨n,o,rfl,.inl (by rw[p];exact c)⟩
end
abbrev Sp:=Option (List Int×Int×Int)
def iH(x y:Sp):Bool:=match x,y with
 |none,_=>false
 |some _,none=>true
 |some (_,m,k),some (_,a,b)=>if m≠a then decide (m<a)else decide (k<b)
def kJ:List Sp->Sp
 |[]=>none
 |x::xs=>xs.foldl (λa y=>if iH y a then y else a) x
def dZ(l:List Int)(c:Nat):Array Value:=(l.map (Value.int .i64)++List.replicate (c-l.length) (Value.int .i64 0)).toArray
def FC(b:Nat×Nat):Prop:=∀a,¬xj b a
def cz(o:Nat->Prop)(w:World)(s:Sp)(y:SV):Prop:=match s with
 |none=>y=⟨none,0,0,0,0,false⟩
 |some (l,m,k)=>y.m=m/\y.k=k/\y.b=true/\y.sl=l.length/\((l=[]/\y.sa=none/\y.sc=0)\/
  (l≠[]/\∃a,o a/\y.sa=some ⟨a,0,none⟩/\l.length<=y.sc/\y.sc<2^63/\∃c,FC c/\w.heap[a]? =some (.cells (dZ l y.sc) 3 c)))
theorem cz.better{o o':Nat->Prop}{w w':World}{s t:Sp}{x y:SV}(h:cz o w s x)(k:cz o' w' t y):eL x y=iH s t:=by
 cases s with
 |none=>
  have:x=⟨none,0,0,0,0,false⟩:=h;subst this;cases t with
  |none=>rfl
  |some t=>rfl
 |some s=>
  obtain⟨l,m,n⟩:=s;obtain⟨b,c,a,_⟩:=h;cases t with
  |none=>
   have:y=⟨none,0,0,0,0,false⟩:=k;subst this;simp[eL,iH,a]
  |some t=>
   obtain⟨g,i,j⟩:=t;obtain⟨d,e,f,_⟩:=k;simp[eL,iH,b,c,a,d,e,f]
theorem qI{o:Nat->Prop}{w:World}:∀(ys:List SV) (ss:List Sp) (x:SV) (s:Sp),cz o w s x->ys.length=ss.length->(∀j (h:j<ys.length) (g:j<ss.length),cz o w ss[j] ys[j])->
 cz o w (ss.foldl (λa y=>if iH y a then y else a) s) (ys.foldl (λa y=>if eL y a then y else a) x)
 |[],[],x,s,h,_,_=>h
 |y::ys,t::ss,x,s,h,b,e=>by
  simp only[List.foldl_cons];have c:=e 0 (by simp) (by simp);simp only[List.getElem_cons_zero]at c;rw[c.better h];refine qI ys ss _ _ ?_ (by simpa using b) λj f d=>e (j+1) (by simpa using f) (by simpa using d);split
  ·exact c
  ·exact h
 |[],_::_,_,_,_,b,_=>by simp at b
 |_::_,[],_,_,_,b,_=>by simp at b
theorem yd{o:Nat->Prop}{w:World}(ys:List SV)(ss:List Sp)(a:ys.length=ss.length)(c:∀j (h:j<ys.length) (e:j<ss.length),cz o w ss[j] ys[j]):cz o w (kJ ss) (cw ys):=by
 cases ys with
 |nil=>cases ss with
  |nil=>rfl
  |cons _ _=>simp at a
 |cons y ys=>cases ss with
  |nil=>simp at a
  |cons s ss=>
   exact qI ys ss y s (c 0 (by simp) (by simp)) (by simpa using a) λj d b=>c (j+1) (by simpa using d) (by simpa using b)
theorem Wy.JU{P:Program}{ty:TypeId}{Wg:Nat}{main:Bool}{rd:Nat->Prop}{S:eK}{own:Nat->Prop}{g:Goroutine}{w:World}(h:Wy P ty Wg main rd S own g w):Wy P ty Wg main rd (λo g w'=>S o g w'/\∀b,own b->o b) own g w:=by
 obtain⟨r,h⟩:=h
 have f:∀B:Nat->Prop,(∀b,B b->own b)->Wy P ty Wg main rd (λo g w'=>S o g w'/\∀b,B b->o b) own g w:=by
  intro B j;induction h with
  |here h=>exact j9 λc d=>⟨h c d,j⟩
  |step m n s p=>
   refine ia m λc d=>?_;obtain⟨k,w',l,a,e,i⟩:=n c d;exact⟨k,w',l,a,e,i,p c k w' l a d e i λb q=>(i.owns b).2 (.inl (j b q))⟩
 exact f own λ_ h=>h
end Go.Proofs.W
namespace Go.Proofs.W
open Go.RowKit
theorem V.pj:V.prog.underlying 27=some (.slice 3):=by rw[V.nZ,Tryz.underlying27]
theorem pk:Tryz.t3.bytes=8:=by kernel_rfl
theorem C4(w:World):Calls V.prog 128 #[.slice none 0 0] w λe w'=>e=.returned (.slice none 0 0)/\w'=w:=by have a:=λ(w:World)=>Go.Lib.run_eql_slice_nil (P:=V.prog) w 27 3 none 0 0 0 0 V.pj;go_enter V.func128,Tryz.ntmps128;go_wp2;go_ret;exact⟨rfl,rfl⟩
def qJ(w:World)(a old:Nat):Nat:=(Question.appendCap a old 3).cut (w.tape w.drawn (.appendCap a old 3))
theorem FD(w:World)(a old:Nat):a<=qJ w a old:=by simp[qJ,Question.cut]
theorem FE(w:World)(a old:Nat)(h:a<=65536):qJ w a old<2^63:=by
 have:0<2^63-a:=by omega
 have:=Nat.mod_lt (w.tape w.drawn (.appendCap a old 3)) this;simp only[qJ,Question.cut];omega
theorem uj(n:Nat):Builtin.zeroCells #[.int .i64 0] n=(List.replicate n (Value.int .i64 0)).toArray:=by apply Array.ext';simp[Builtin.zeroCells];exact List.ext_getElem (by simp) λi a b=>by simp[Nat.mod_one]
theorem wl(l:List Int)(c:Nat):(l.map (Value.int .i64)).toArray++Builtin.zeroCells #[.int .i64 0] (c-l.length)=dZ l c:=by rw[uj];simp[dZ]
theorem AD(b c:Nat)(l:List Int)(w:World)(g:0<l.length)(m:l.length<=65536)(n:b<w.heap.size)(d:∀k (h:k<l.length),w.cell? ⟨b,k,none⟩=some (.int .i64 l[k])):
 Calls V.prog 128 #[.slice (some ⟨b,0,none⟩) l.length c] w λe w'=>e=.returned (.slice (some ⟨w.heap.size+1,0,none⟩) l.length (qJ w l.length 0))/\
  w'=((w.alloc (.cells #[] 3)).alloc (.cells (dZ l (qJ w l.length 0)) 3)).drew:=by
 have s:=λ(w:World)=>Go.Lib.run_eql_slice_nil (P:=V.prog) w 27 3 (some ⟨b,0,none⟩) l.length c 0 0 V.pj;have o:Sem.run V.prog (loadCellsFrom ⟨b,0,none⟩ 0 l.length #[]) (w.alloc (.cells #[] 3)).drew=.ok (l.map (Value.int .i64)).toArray (w.alloc (.cells #[] 3)).drew:=by
  have:=run_loadCellsFrom (P:=V.prog) (w.alloc (.cells #[] 3)).drew ⟨b,0,none⟩ (λj=>.int .i64 (l.getD j 0)) l.length 0 #[] λj f=>by
   have h:=d j f;have e:(w.alloc (.cells #[] 3)).drew.cell? ⟨b,j,none⟩=w.cell? ⟨b,j,none⟩:=ez (w:=w) (w':=(w.alloc (.cells #[] 3)).drew) (ad:=⟨b,j,none⟩) (alloc_old w _ n);have p:(⟨b,0,none⟩:Addr).add j=⟨b,j,none⟩:=by
    unfold Addr.add;split
    ·next h=>subst h;rfl
    ·simp
   simp only[Nat.zero_add];rw[p,e,h,List.getD_eq_getElem?_getD,List.getElem?_eq_getElem f];rfl
  rw[this];congr 1;apply Array.ext';simp;exact List.ext_getElem (by simp) λi a q=>by simp at a;simp[a]
 have a:¬(9223372036854775807<(l.length:Int)/\Tryz.t3.bytes=0):=by rw[pk];omega
 have q:¬(281474976710656<Builtin.nextslicecap l.length 0*Tryz.t3.bytes):=by rw[pk,nextslicecap_zero g];omega
 have t:¬l.length=0:=by omega
 have r:=Go.Lib.hid (wl l (qJ w l.length 0));clear d m;go_enter V.func128,Tryz.ntmps128;go_wp2;go_ret;exact⟨rfl,by rw[<-r.out];rfl⟩
def mz(x d:Nat):Nat:=x|||(1<<<d)
def mY(x d:Nat):Nat:=x-(x&&&(1<<<d))
theorem Ie:∀x:Nat,x<32->∀d:Nat,d<5->bits .or .u8 (x:Int) ((2:Int)^d%256)=(mz x d:Int):=by decide+kernel
theorem ye:∀x:Nat,x<32->∀d:Nat,d<5->bits .andNot .u8 (x:Int) ((2:Int)^d%256)=(mY x d:Int):=by decide+kernel
theorem AE:∀x,x<32->∀d,d<5->mz x d<32:=by decide+kernel
theorem Ig:∀x,x<32->∀d,d<5->mY x d<32:=by decide+kernel
theorem yf(x d:Nat)(w:World)(hx:x<32)(hd:d<5):Calls V.prog 164 #[.int .u8 x,.int .i64 d] w λe w'=>e=.returned (.int .u8 (mz x d))/\w'=w:=by have h:=Go.Lib.hid (Ie x hx d hd);go_enter V.func164,Tryz.ntmps164;go_wp2;go_ret;exact⟨by rw[h.out];rfl,rfl⟩
theorem yg(x d:Nat)(w:World)(a:x<32)(b:d<5):Calls V.prog 228 #[.int .u8 x,.int .i64 d] w λe w'=>e=.returned (.int .u8 (mY x d))/\w'=w:=by have h:=Go.Lib.hid (ye x a d b);go_enter V.func228,Tryz.ntmps228;go_wp2;go_ret;exact⟨by rw[h.out];rfl,rfl⟩
def fK{α:Type}(n0:Nat->Prop)(E:World->Value->α->Prop)(z:Value)(t:TypeId)(w:World)(v:Value)(l:List α):Prop:=
 (l=[]/\v=.slice none 0 0)\/∃b c a d,n0 b/\v=.slice (some ⟨b,0,none⟩) l.length c/\w.heap[b]? =some (.cells a t d)/\a.size=c/\l.length<=c/\(∀k (h:k<l.length),∃u,a[k]? =some u/\E w u l[k])/\∀k,l.length<=k->k<c->a[k]? =some z
def MY(_:World)(u:Value)(n:Nat):Prop:=u=.int .i64 n
abbrev qc(n0:Nat->Prop):=fK n0 MY (.int .i64 0) 3
abbrev sJ(n0:Nat->Prop):=fK n0 (qc n0) (.slice none 0 0) 27
abbrev pm(n0:Nat->Prop):=fK n0 (sJ n0) (.slice none 0 0) 66
theorem fK.same{α:Type}{n0:Nat->Prop}{E:World->Value->α->Prop}{z:Value}{t:TypeId}{w w':World}{v:Value}{l:List α}(d:∀b,n0 b->w'.heap[b]? =w.heap[b]?)(e:∀u x,E w u x->E w' u x)(h:fK n0 E z t w v l):fK n0 E z t w' v l:=by
 rcases h with h|⟨b,c,f,g,a,i,j,m,n,o,p⟩
 ·exact .inl h
 ·refine .inr ⟨b,c,f,g,a,i,(d b a).trans j,m,n,λk q=>?_,p⟩;obtain⟨u,r,s⟩:=o k q;exact⟨u,r,e _ _ s⟩
def Ox(b:Value):Prop:=b=undef\/∃a,b=.pointer (some a)
structure cU where
 opn:List Nat
 lists:List (List (List Nat))
 counts:List Int
structure cU.Ok(D:cU):Prop where
 len:D.lists.length=D.opn.length
 five:D.opn.length<=5
 nodup:D.opn.Nodup
 door:∀d∈D.opn,d<5
 many:∀ls∈D.lists,ls.length<=65536
 long:∀ls∈D.lists,∀l∈ls,l.length<=65536
 shift:∀ls∈D.lists,∀l∈ls,∀s∈l,s<6
 cnt:D.counts.length=32
 cval:∀c∈D.counts,-1<=c/\c<=5
 zero:D.counts.getD 0 0=0
def cD(b c d:Value)(a:List Int):Array Value:=([b,c,d]++a.map (Value.int .i64)).toArray
structure dA(n0:Nat->Prop)(pb:Nat)(D:cU)(w:World):Prop where
 ok:D.Ok
 lt:n0 pb
 at_:∃wk u1 u2 fz,Ox wk/\w.heap[pb]? =some (.cells (cD wk u1 u2 D.counts) 207 fz)/\qc n0 w u1 D.opn/\pm n0 w u2 D.lists
theorem dA.same{n0:Nat->Prop}{pb:Nat}{D:cU}{w w':World}(a:∀b,n0 b->w'.heap[b]? =w.heap[b]?)(h:dA n0 pb D w):dA n0 pb D w':=by obtain⟨c,d,e,f,g,i,j,k⟩:=h.at_;refine⟨h.ok,h.lt,c,d,e,f,g,(a _ h.lt).trans i,j.same a λ_ _ h=>h,k.same a λ_ _ h=>h.same a λ_ _ h=>h.same a λ_ _ h=>h⟩
def BV(T:Nat)(w:World)(pa:Option Addr)(pc:Nat)(ps:List Nat):Prop:=(pa=none/\ps=[]/\pc=0)\/∃a b,pa=some ⟨a,0,none⟩/\T<a/\w.heap[a]? =some (.cells b 3)/\b.size=pc/\ps.length<=pc/\∀k (h:k<ps.length),b[k]? =some (.int .i64 ps[k])
def uT(L:Nat->Nat):List Nat:=[L 0,L 1,L 2,L 3,L 4,L 5]
def FF(L:Nat->Nat):Value:=.agg #[.int .u8 (L 0),.int .u8 (L 1),.int .u8 (L 2),.int .u8 (L 3),.int .u8 (L 4),.int .u8 (L 5)]
def eM(D:cU)(L:Nat->Nat):List Int:=(uT L).map λx=>D.counts.getD x 0
def cZ(D:cU)(L:Nat->Nat)(ps:List Nat):Sp:=if(eM D L).any (·<0)then none else some (ps.map Int.ofNat,(eM D L).foldl max 0,(eM D L).sum)
def qK(a:Nat)(w:World)(s:Sp)(y:SV):Prop:=∀l m k,s=some (l,m,k)->l≠[]->∃j,a<=j/\y.sc=(Question.appendCap l.length 0 3).cut (w.tape j (.appendCap l.length 0 3))
theorem AF{n0:Nat->Prop}{pb:Nat}{D:cU}{w:World}(h:dA n0 pb D w)(x:Nat)(i:x<32):w.cell? ⟨pb,3+x,none⟩=some (.int .i64 (D.counts.getD x 0)):=by
 obtain⟨b,c,d,j,_,f,_,_⟩:=h.at_;have k:=h.ok.cnt;have e:(cD b c d D.counts)[3+x]? =some (.int .i64 (D.counts.getD x 0)):=by
  have a:x<D.counts.length:=by omega
  have g:(cD b c d D.counts)[3+x]? =(b::c::d::D.counts.map (Value.int .i64))[3+x]? :=by simp[cD]
  rw[g,show 3+x=x+1+1+1 by omega,List.getElem?_cons_succ,List.getElem?_cons_succ,List.getElem?_cons_succ,List.getElem?_map,List.getElem?_eq_getElem a,List.getD_eq_getElem?_getD,List.getElem?_eq_getElem a];rfl
 simp only[World.cell?,f];exact e
theorem AG(D:cU)(L:Nat->Nat):(eM D L).length=6:=rfl
theorem sK(D:cU)(L:Nat->Nat)(k:Nat)(h:k<(eM D L).length):(eM D L)[k]=D.counts.getD (L k) 0:=by
 have a:k<6:=h;have:k=0\/k=1\/k=2\/k=3\/k=4\/k=5:=by omega
 rcases this with rfl|rfl|rfl|rfl|rfl|rfl<;>rfl
theorem FG:∀(l:List Int),(∀c∈l,c<=5)->l.any (·<0)=false->0<=l.sum/\l.sum<=5*l.length
 |[],_,_=>by simp
 |x::l,h,a=>by simp only[List.any_cons,Bool.or_eq_false_iff,decide_eq_false_iff_not]at a;have:=FG l (λc b=>h c (List.mem_cons_of_mem _ b)) a.2;have d:=h x (List.mem_cons_self ..);simp only[List.sum_cons,List.length_cons];omega
theorem FH:∀(l:List Int) (a:Int),(∀c∈l,c<=5)->0<=a->a<=5->0<=l.foldl max a/\l.foldl max a<=5
 |[],a,_,b,d=>⟨b,d⟩
 |x::l,a,h,b,d=>by have f:=h x (List.mem_cons_self ..);exact FH l (max a x) (λc e=>h c (List.mem_cons_of_mem _ e)) (by omega) (by omega)
theorem uU{D:cU}(h:D.Ok)(x:Nat)(b:x<32): -1<=D.counts.getD x 0/\D.counts.getD x 0<=5:=by
 have a:x<D.counts.length:=by rw[h.cnt];exact b
 rw[List.getD_eq_getElem?_getD,List.getElem?_eq_getElem a];exact h.cval _ (List.getElem_mem a)
theorem BW{D:cU}(h:D.Ok){L:Nat->Nat}(b:∀s,s<6->L s<32):∀c∈eM D L,c<=5:=by
 intro c d;obtain⟨x,a,rfl⟩:=List.mem_map.1 d;have:x<32:=by simp only[uT,List.mem_cons,List.not_mem_nil,or_false]at a;rcases a with rfl|rfl|rfl|rfl|rfl|rfl<;>exact b _ (by omega)
 exact(uU h x this).2
theorem yh(a0 a b c d e:Value)(w:World):(Instr.index 204 (.agg #[a0,a,b,c,d,e]) (.int .i64 0)).run V.prog w=.ok a0 w:=by kernel_rfl
theorem yi(a0 a b c d e:Value)(w:World):(Instr.index 204 (.agg #[a0,a,b,c,d,e]) (.int .i64 1)).run V.prog w=.ok a w:=by kernel_rfl
theorem yj(a0 b a c d e:Value)(w:World):(Instr.index 204 (.agg #[a0,b,a,c,d,e]) (.int .i64 2)).run V.prog w=.ok a w:=by kernel_rfl
theorem yn(a0 b c a d e:Value)(w:World):(Instr.index 204 (.agg #[a0,b,c,a,d,e]) (.int .i64 3)).run V.prog w=.ok a w:=by kernel_rfl
theorem yo(a0 b c d a e:Value)(w:World):(Instr.index 204 (.agg #[a0,b,c,d,a,e]) (.int .i64 4)).run V.prog w=.ok a w:=by kernel_rfl
theorem yp(a0 b c d e a:Value)(w:World):(Instr.index 204 (.agg #[a0,b,c,d,e,a]) (.int .i64 5)).run V.prog w=.ok a w:=by kernel_rfl
theorem C5(w:World):(Instr.build 199 #[(3,.bool true)]).run V.prog w=.ok (.agg #[.slice none 0 0,.int .i64 0,.int .i64 0,.bool true]) w:=by kernel_rfl
theorem AH(w:World):(Instr.build 199 #[]).run V.prog w=.ok (.agg #[.slice none 0 0,.int .i64 0,.int .i64 0,.bool false]) w:=by kernel_rfl
def BX(D:cU)(L:Nat->Nat)(ps:List Nat)(a:Nat)(w:World)(e:Ending)(w':World):Prop:=
 ∃y:SV,e=.returned y.val/\cz (λb=>w.heap.size<=b) w' (cZ D L ps) y/\qK a w' (cZ D L ps) y/\Below w.heap.size w w'/\w.drawn<=w'.drawn
theorem AI(n0:Nat->Prop)(pb T:Nat)(D:cU)(L:Nat->Nat)(ps:List Nat)(pa:Option Addr)(pc j0:Nat)(w:World)(hP:dA n0 pb D w)(Qv:∀b,n0 b->b<w.heap.size)(hL:∀s,s<6->L s<32)(JS:BV T w pa pc ps)(HT:ps=[]->pa=none)(dj:ps.length<=65536)(hj:j0<=w.drawn):Calls V.prog 229 #[.pointer (some ⟨pb,0,none⟩),.slice pa ps.length pc,FF L] w (BX D L ps j0 w):=by
 have NJ:=C5;have zW:=AH;have Qw:pb<w.heap.size:=Qv _ hP.lt;unfold FF;go_enter V.func229,Tryz.ntmps229;go_wp2
 go_loopw [13] (λi wr=>∃k:Nat,k<=6/\i=.int .i64 k/\Below w.heap.size w wr/\w.heap.size+3<=wr.heap.size/\wr.heap[w.heap.size+1+1]? =some (cS ⟨none,0,0,((eM D L).take k).foldl max 0,((eM D L).take k).sum,true⟩)/\
  wr.heap[w.heap.size+1]? =some (cS (cw []))/\((eM D L).take k).any (·<0)=false/\wr.drawn=w.drawn) (λi _=>6-(intOf i).toNat)
 case atStart=>
  refine⟨0,by omega,rfl,(((Below.refl _ _).alloc (Nat.le_refl _) _).alloc (by simp) _).alloc (by simp;omega) _,by simp,?_,?_,rfl,rfl⟩
  ·have:=dD ((w.alloc (.cells #[.int .u8 (L 0),.int .u8 (L 1),.int .u8 (L 2),.int .u8 (L 3),.int .u8 (L 4),.int .u8 (L 5)] 204)).alloc (cS (cw []))) (cS ⟨none,0,0,0,0,true⟩);rw[World.size_alloc,World.size_alloc]at this;exact this
  ·have h2:=dD (w.alloc (.cells #[.int .u8 (L 0),.int .u8 (L 1),.int .u8 (L 2),.int .u8 (L 3),.int .u8 (L 4),.int .u8 (L 5)] 204)) (cS (cw []));rw[World.size_alloc]at h2;have h3:=alloc_old ((w.alloc (.cells #[.int .u8 (L 0),.int .u8 (L 1),.int .u8 (L 2),.int .u8 (L 3),.int .u8 (L 4),.int .u8 (L 5)] 204)).alloc (cS (cw []))) (cS ⟨none,0,0,0,0,true⟩) (b:=w.heap.size+1) (by simp);exact h3.trans h2
 case round=>
  obtain⟨k,hk,rfl,hb,PF,ho,hr,La,PH⟩:=hrel;have PI:=FH ((eM D L).take k) 0 (λc hc=>BW hP.ok hL c (List.mem_of_mem_take hc)) (by omega) (by omega);have Oy:=FG ((eM D L).take k) (λc hc=>BW hP.ok hL c (List.mem_of_mem_take hc)) La;rw[List.length_take,AG]at Oy;obtain⟨mx,NK⟩:∃mx,mx=((eM D L).take k).foldl max 0:=⟨_,rfl⟩;obtain⟨sm,NL⟩:∃sm,sm=((eM D L).take k).sum:=⟨_,rfl⟩;rw[<-NK,<-NL]at ho;rw[<-NK]at PI;rw[<-NL]at Oy;obtain⟨o1,o2,o3,o4,f1,f2,f3,f4⟩:=cQ ho;obtain⟨r1,r2,r3,r4,g1,g2,g3,g4⟩:=cQ hr;have HO:=Go.Lib.hid ho;have HR:=Go.Lib.hid hr;have HA:=Go.Lib.hid La;have HD:=Go.Lib.hid PH;have HM:=Go.Lib.hid NK;have HS:=Go.Lib.hid NL;clear ho hr La PH NK NL;obtain⟨m0,m5⟩:=PI;obtain⟨s0,s5⟩:=Oy;have Rn:sm<=30:=by omega
  clear s5;by_cases EC:k<6
  ·have hx:=hL k EC;have PK:=uU hP.ok (L k) hx;have MZ:wr.cell? ⟨pb,3+L k,none⟩=some (.int .i64 (D.counts.getD (L k) 0)):=((uO hb).1 _ _ Qw).trans (AF hP _ hx);obtain⟨cv,Oz⟩:∃cv,cv=D.counts.getD (L k) 0:=⟨_,rfl⟩;rw[<-Oz]at MZ PK;obtain⟨c0,c5⟩:=PK;have Qx:∀w,(Instr.index 204 (.agg #[.int .u8 (L 0),.int .u8 (L 1),.int .u8 (L 2),.int .u8 (L 3),.int .u8 (L 4),.int .u8 (L 5)]) (.int .i64 k)).run V.prog w=.ok (.int .u8 (L k)) w:=by
    intro w;have:k=0\/k=1\/k=2\/k=3\/k=4\/k=5:=by omega
    rcases this with rfl|rfl|rfl|rfl|rfl|rfl
    ·exact yh ..
    ·exact yi ..
    ·exact yj ..
    ·exact yn ..
    ·exact yo ..
    ·exact yp ..
   have HC:=Go.Lib.hid Oz;clear Oz hP JS;by_cases M0:cv<0
   ·go_wp2;have hp:=gX (s:=cw []) HR.out;have hB:Below w.heap.size w (eX wr (w.heap.size+1) (cw [])):=gY hb (Nat.le_succ _);obtain⟨q1,q2,q3,q4,_⟩:=cQ hp;simp only[eX,cw]at q1 q2 q3 q4;have qL:cZ D L ps=none:=by
     have OA:cv∈eM D L:=by have h:=sK D L k EC;rw[<-HC.out]at h;exact h▸List.getElem_mem EC
     unfold cZ;rw[if_pos (List.any_eq_true.2 ⟨cv,OA,by simpa using M0⟩)]
    refine bodyPost_ret (v:=(cw []).val) (by simp[results,Tryz.results229,go_sem,q1,q2,q3,q4,SV.val,cw]) rfl ?_;refine(show BX D L ps j0 w (.returned (cw []).val) (eX wr (w.heap.size+1) (cw []))from⟨cw [],rfl,?_,?_,hB,?_⟩)
    ·rw[qL];rfl
    ·rw[qL];intro l m k h;cases h
    ·show w.drawn<=wr.drawn;rw[HD.out];exact Nat.le_refl _
   ·go_wp2;go_roundw;case rel=>
     have OB:(if mx<cv then cv else mx)=max mx cv:=by
      by_cases h:mx<cv
      ·rw[if_pos h];omega
      ·rw[if_neg h];omega
     have hp:((wr.setCell ⟨w.heap.size+1+1,1,none⟩ (.int .i64 (if mx<cv then cv else mx))).setCell ⟨w.heap.size+1+1,2,none⟩ (.int .i64 (sm+cv))).heap[w.heap.size+1+1]? =some (cS ⟨none,0,0,if mx<cv then cv else mx,sm+cv,true⟩):=by have:=HO.out;simp[World.setCell,Array.getElem?_modify,this,cS]
     have PL:(eM D L).take (k+1)=(eM D L).take k++[cv]:=by have h:=sK D L k EC;rw[iy _ _ EC,h,HC.out]
     refine⟨k+1,by omega,by go_num,(hb.setCell (Nat.le_succ_of_le (Nat.le_succ _)) _).setCell (Nat.le_succ_of_le (Nat.le_succ _)) _,by simpa[World.setCell]using PF,hp.trans ?_,?_,?_,HD.out⟩
     ·rw[PL,List.foldl_append,List.sum_append,<-HM.out,<-HS.out,OB];simp
     ·rw[ck.Cr.cR _ _ _ _ (by simp),ck.Cr.cR _ _ _ _ (by simp)];exact HR.out
     ·rw[PL,List.any_append,HA.out];simpa using M0
    case measure=>simp[intOf];omega
  ·obtain rfl:k=6:=by omega
   rcases JS with⟨rfl,rfl,rfl⟩|⟨PB,cs,rfl,Ro,OC,Qy,hle,M4⟩
   ·go_wp2_with (go_at_call 128;refine(C4 _).mono ?_;rintro e w' ⟨rfl,rfl⟩);have h6:(eM D L).take 6=eM D L:=List.take_of_length_le (Nat.le_refl _);have NM:(w'.setCell ⟨w.heap.size+1+1,0,none⟩ (.slice none 0 0)).heap[w.heap.size+1]? =some (cS (cw [])):=(ck.Cr.cR _ _ _ _ (by simp)).trans HR.out;have hp:=gX (s:=⟨none,0,0,mx,sm,true⟩) NM;have hB:Below w.heap.size w (eX (w'.setCell ⟨w.heap.size+1+1,0,none⟩ (.slice none 0 0)) (w.heap.size+1) ⟨none,0,0,mx,sm,true⟩):=gY (hb.setCell (Nat.le_succ_of_le (Nat.le_succ _)) _) (Nat.le_succ _);obtain⟨q1,q2,q3,q4,_⟩:=cQ hp;simp only[eX]at q1 q2 q3 q4;have qL:cZ D L []=some ([],mx,sm):=by
     have ha:=HA.out;have hm:=HM.out;have hs:=HS.out;rw[h6]at ha hm hs;unfold cZ;rw[if_neg (by rw[ha];simp),<-hm,<-hs];rfl
    refine bodyPost_ret (v:=(SV.mk none 0 0 mx sm true).val) (by simp[results,Tryz.results229,go_sem,q1,q2,q3,q4,SV.val]) rfl ?_;refine(show BX D L [] j0 w (.returned (SV.mk none 0 0 mx sm true).val) (eX (w'.setCell ⟨w.heap.size+1+1,0,none⟩ (.slice none 0 0)) (w.heap.size+1) ⟨none,0,0,mx,sm,true⟩)from⟨_,rfl,?_,?_,hB,?_⟩)
    ·rw[qL];exact⟨rfl,rfl,rfl,rfl,.inl ⟨rfl,rfl,rfl⟩⟩
    ·rw[qL];intro l m k h hl;cases h;exact absurd rfl hl
    ·show w.drawn<=w'.drawn;rw[HD.out];exact Nat.le_refl _
   ·have HY:0<ps.length:=by
     cases ps with
     |nil=>have:=HT rfl;cases this
     |cons=>simp
    obtain⟨l,hl⟩:∃l,l=ps.map Int.ofNat:=⟨_,rfl⟩;have OD:l.length=ps.length:=by rw[hl];simp
    have Qz:PB<w.heap.size:=ck.lt_of_heap OC;have OE:PB<wr.heap.size:=by omega
    have KH:∀k (h:k<l.length),wr.cell? ⟨PB,k,none⟩=some (.int .i64 l[k]):=λk h=>by
     have h':k<ps.length:=by omega
     have e:wr.heap[PB]? =some (.cells cs 3):=(hb.block PB Qz).trans OC;simp only[World.cell?,e];have:=M4 k h';simp only[hl,List.getElem_map];exact this
    have HL:=Go.Lib.hid hl;have QA:=Go.Lib.hid KH;clear hl KH M4 OC;have uV:=AD PB pc l wr (by omega) (by omega) OE QA.out;have Lb:=FD wr l.length 0;obtain⟨cp,OF⟩:∃cp,cp=qJ wr l.length 0:=⟨_,rfl⟩;rw[<-OF]at uV Lb;rw[OD]at uV Lb;have PM:=Go.Lib.hid OF;have NN:=Go.Lib.hid OD;clear OF OD;have PN:∀w',w'=((wr.alloc (.cells #[] 3)).alloc (.cells (dZ l cp) 3)).drew->(w'.heap[w.heap.size+1+1]? =some (cS ⟨none,0,0,mx,sm,true⟩)/\w'.heap[w.heap.size+1]? =some (cS (cw []))/\
     Below w.heap.size w w'/\w'.heap[wr.heap.size+1]? =some (.cells (dZ l cp) 3)/\w'.drawn=wr.drawn+1/\w'.tape=wr.tape):=by
     rintro w' rfl;refine⟨(alloc_old _ _ (by simp;omega)).trans ((alloc_old _ _ (by omega)).trans HO.out),(alloc_old _ _ (by simp;omega)).trans ((alloc_old _ _ (by omega)).trans HR.out),((hb.alloc (by omega) _).alloc (by simp;omega) _).drew,?_,rfl,rfl⟩;have:=dD (wr.alloc (.cells #[] 3)) (.cells (dZ l cp) 3);rw[World.size_alloc]at this;exact this
    go_wp2_with (go_at_call 128;refine uV.mono ?_;clear uV;rintro e w' ⟨rfl,PO⟩;obtain⟨QB,NM,QC,OG,OH,OI⟩:=PN w' PO;clear PN PO;obtain⟨NO,NP,Rp,Rq,Rr,Rs,Rt,Ru⟩:=cQ QB;obtain⟨Rv,Rw,Rx,Ry,Rz,RA,RB,RD⟩:=cQ NM);have NQ:(w'.setCell ⟨w.heap.size+1+1,0,none⟩ (.slice (some ⟨wr.heap.size+1,0,none⟩) ps.length cp)).heap[w.heap.size+1]? =some (cS (cw [])):=(ck.Cr.cR _ _ _ _ (by simp)).trans NM;have hp:=gX (s:=⟨some ⟨wr.heap.size+1,0,none⟩,ps.length,cp,mx,sm,true⟩) NQ;have hB:Below w.heap.size w (eX (w'.setCell ⟨w.heap.size+1+1,0,none⟩ (.slice (some ⟨wr.heap.size+1,0,none⟩) ps.length cp)) (w.heap.size+1) ⟨some ⟨wr.heap.size+1,0,none⟩,ps.length,cp,mx,sm,true⟩):=gY (QC.setCell (Nat.le_succ_of_le (Nat.le_succ _)) _) (Nat.le_succ _);have QD:(eX (w'.setCell ⟨w.heap.size+1+1,0,none⟩ (.slice (some ⟨wr.heap.size+1,0,none⟩) ps.length cp)) (w.heap.size+1) ⟨some ⟨wr.heap.size+1,0,none⟩,ps.length,cp,mx,sm,true⟩).heap[wr.heap.size+1]? =some (.cells (dZ l cp) 3):=
     (lh _ _ _ (by omega)).trans ((ck.Cr.cR _ _ _ _ (by simp;omega)).trans OG)
    obtain⟨q1,q2,q3,q4,_⟩:=cQ hp;simp only[eX]at q1 q2 q3 q4;have M5:l≠[]:=by intro h;have:=NN.out;rw[h]at this;simp at this;omega
    have qL:cZ D L ps=some (l,mx,sm):=by have h6:(eM D L).take 6=eM D L:=List.take_of_length_le (Nat.le_refl _);have ha:=HA.out;have hm:=HM.out;have hs:=HS.out;rw[h6]at ha hm hs;unfold cZ;rw[if_neg (by rw[ha];simp),<-hm,<-hs,HL.out]
    have OJ:cp<2^63:=by rw[PM.out];exact FE wr _ _ (by rw[NN.out];exact dj)
    refine bodyPost_ret (v:=(SV.mk (some ⟨wr.heap.size+1,0,none⟩) ps.length cp mx sm true).val) (by simp[results,Tryz.results229,go_sem,q1,q2,q3,q4,SV.val]) rfl ?_;refine(show BX D L ps j0 w (.returned (SV.mk (some ⟨wr.heap.size+1,0,none⟩) ps.length cp mx sm true).val) (eX (w'.setCell ⟨w.heap.size+1+1,0,none⟩ (.slice (some ⟨wr.heap.size+1,0,none⟩) ps.length cp)) (w.heap.size+1) ⟨some ⟨wr.heap.size+1,0,none⟩,ps.length,cp,mx,sm,true⟩)from⟨_,rfl,?_,?_,hB,?_⟩)
    ·rw[qL];exact⟨rfl,rfl,rfl,NN.out.symm,.inr ⟨M5,wr.heap.size+1,by omega,rfl,NN.out▸Lb,OJ,(0,0),λoff h=>absurd h.2 (Nat.not_lt_zero _),QD⟩⟩
    ·rw[qL];intro l' m' k' h hl;cases h;refine⟨wr.drawn,by rw[HD.out];exact hj,?_⟩;show cp=_;have OK:(eX (w'.setCell ⟨w.heap.size+1+1,0,none⟩ (.slice (some ⟨wr.heap.size+1,0,none⟩) ps.length cp)) (w.heap.size+1) ⟨some ⟨wr.heap.size+1,0,none⟩,ps.length,cp,mx,sm,true⟩).tape=wr.tape:=OI;rw[OK,PM.out];rfl
    ·show w.drawn<=w'.drawn;rw[OH,HD.out];exact Nat.le_succ _
def lj(T:Nat)(w:World)(pa:Option Addr)(pc:Nat)(ps:List Nat):Prop:=(pa=none/\ps=[]/\pc=0)\/∃a b,pa=some ⟨a,0,none⟩/\T<a/\w.heap[a]? =some (.cells b 3)/\b.size=pc/\ps.length<=pc/\pc<2^63/\(∀k (h:k<ps.length),b[k]? =some (.int .i64 ps[k]))
theorem lj.M6{T:Nat}{w:World}{pa:Option Addr}{pc:Nat}{ps:List Nat}(h:lj T w pa pc ps):BV T w pa pc ps:=by
 rcases h with h|⟨a,b,c,d,e,f,g,_,i⟩
 ·exact .inl h
 ·exact .inr ⟨a,b,c,d,e,f,g,i⟩
structure wm(T:Nat)(w:World)(ps:List Nat)(i:Nat)(pa:Option Addr)(pc:Nat)(v:Value)(w':World):Prop where
 val:∃Ih M9,v=.slice Ih (ps.length+1) M9/\lj T w' Ih M9 (ps++[i])/\(Ih=pa\/∃b,w.heap.size<=b/\Ih=some ⟨b,0,none⟩)
 os:w'.os=w.os
 tape:w'.tape=w.tape
 output:w'.output=w.output
 size:w.heap.size<=w'.heap.size
 block:∀b,b<w.heap.size->pa≠some ⟨b,0,none⟩->w'.heap[b]? =w.heap[b]?
 drawn:w.drawn<=w'.drawn
 old:lj T w' pa pc ps
 stay:∀b,pa=some ⟨b,0,none⟩->w.cell? ⟨b,ps.length,none⟩=some (.int .i64 i)->w'.heap[b]? =w.heap[b]?
theorem V.FI:V.prog.info? 3=some Tryz.t3:=by kernel_rfl
theorem BY:Tryz.t3.zero=some (.int .i64 0):=by kernel_rfl
theorem nM:Tryz.t3.size=1:=by kernel_rfl
theorem yq(T:Nat)(w:World)(ps:List Nat)(i:Nat)(pa:Option Addr)(pc:Nat)(ty:TypeId)(B:Nat)(F:lj T w pa pc ps)(E:T<w.heap.size)(G:w.cell? ⟨B,0,none⟩=some (.int .i64 i))(M:ps.length<65536):∃v w',(Builtin.append_ #[27,27] ty #[.slice pa ps.length pc,.slice (some ⟨B,0,none⟩) 1 1]).run V.prog w=.ok v w'/\wm T w ps i pa pc v w':=by
 have c:∀j v,[Value.int .i64 i][j]? =some v->w.cell? ((⟨B,0,none⟩:Addr).add j)=some v:=by
  intro j v h;cases j with
  |zero=>cases h;exact G
  |succ j=>simp at h
 rcases F with⟨rfl,rfl,rfl⟩|⟨f,m,rfl,p,a,q,z,r,d⟩
 ·have y:=run_append_nil (P:=V.prog) w 27 ty 3 _ _ V.pj V.FI BY ⟨B,0,none⟩ 1 1 [.int .i64 i] (by rw[nM];rfl) c (by decide) (by decide) (by rw[pk];decide);refine⟨_,_,y,⟨_,_,rfl,.inr ⟨w.heap.size,_,rfl,E,dD w.drew _,?_,grownCap_ge ..,?_,?_⟩,.inr ⟨_,Nat.le_refl _,rfl⟩⟩,rfl,rfl,rfl,?_,?_,?_,?_,?_⟩
  ·have:=grownCap_ge w 1 0 3;simp[size_zeroCells,Value.cells];omega
  ·have:=grownCap_le_maxLen w 1 0 3 (by decide);simp only[maxLen]at this;omega
  ·intro k s;obtain rfl:k=0:=by simpa using s
   rw[Array.getElem?_append_left (by simp)];rfl
  ·rw[World.size_alloc];exact Nat.le_succ _
  ·intro b o _;exact alloc_old w.drew _ o
  ·exact Nat.le_succ _
  ·exact .inl ⟨rfl,rfl,rfl⟩
  ·intro b o;cases o
 ·have A:=ck.lt_of_heap a;by_cases g:ps.length+1<=pc
  ·have t:∀j,j<[Value.int .i64 i].length->w.heap[f]? =some (.cells m 3)/\j=0:=λj u=>⟨a,by simpa using u⟩
   have y:=run_append_room_cells (P:=V.prog) w 27 ty 3 _ V.pj V.FI f 0 ps.length pc ⟨B,0,none⟩ 1 1 [.int .i64 i] (by rw[nM];rfl) c (by simp[Value.oneCell']) g
    (λj u=>by
     obtain⟨_,rfl⟩:=t j u;have:ps.length<m.size:=by omega
     simp[World.cell?,a,nM,this])
    (λj u=>by simp[World.frozen?,a])
   have H:w.setCells f (0+ps.length*Tryz.t3.size) [.int .i64 i]=w.setCell ⟨f,ps.length,none⟩ (.int .i64 i):=by rw[nM];simp[World.setCells]
   rw[H]at y;refine⟨_,_,y,⟨_,_,rfl,.inr ⟨f,m.set! ps.length (.int .i64 i),rfl,p,?_,?_,?_,r,?_⟩,.inl rfl⟩,rfl,rfl,rfl,?_,?_,Nat.le_refl _,?_,?_⟩
   ·simp[World.setCell,Array.getElem?_modify,a]
   ·simpa using q
   ·simpa using g
   ·intro k s;have:ps.length<m.size:=by omega
    by_cases h:k<ps.length
    ·have C:=d k h;have l:ps.length≠k:=by omega
     simp only[Array.set!_eq_setIfInBounds];rw[Array.getElem?_setIfInBounds_ne l,C,List.getElem_append_left h]
    ·obtain rfl:k=ps.length:=by simp at s;omega
     simp[this]
   ·simp[World.setCell]
   ·intro b o l;exact ck.Cr.cR _ _ _ _ (by rintro rfl;exact l rfl)
   ·refine .inr ⟨f,m.set! ps.length (.int .i64 i),rfl,p,?_,by simpa using q,z,r,λk s=>?_⟩
    ·simp[World.setCell,Array.getElem?_modify,a]
    ·have l:ps.length≠k:=by omega
     simp only[Array.set!_eq_setIfInBounds];rw[Array.getElem?_setIfInBounds_ne l];exact d k s
   ·intro b o I;obtain rfl:f=b:=congrArg Addr.block (Option.some.inj o);have D:ps.length<m.size:=by omega
    have J:m[ps.length]? =some (.int .i64 i):=by simpa[World.cell?,a]using I
    have K:m.setIfInBounds ps.length (.int .i64 i)=m:=Array.ext_getElem? λj=>by
     by_cases e:ps.length=j
     ·subst e;rw[Array.getElem?_setIfInBounds_self_of_lt D,J]
     ·rw[Array.getElem?_setIfInBounds_ne e]
    simp[World.setCell,Array.getElem?_modify,a,K]
  ·have x:∀j v,(ps.map λn=>Value.int .i64 (n:Nat))[j]? =some v->w.cell? ((⟨f,0,none⟩:Addr).add j)=some v:=by
    intro j v h;have u:j<ps.length:=by have:=(List.getElem?_eq_some_iff.1 h).1;simpa using this
    have C:=d j u;rw[List.getElem?_map,List.getElem?_eq_getElem u]at h;rw[Addr.add_lit];simp only[World.cell?,a,Nat.zero_add];rw[C];exact h
   have y:=run_append_grow (P:=V.prog) w 27 ty 3 _ _ V.pj V.FI BY ⟨f,0,none⟩ ps.length pc (ps.map λn=>Value.int .i64 (n:Nat)) (by rw[nM];simp) x ⟨B,0,none⟩ 1 1 [.int .i64 i] (by rw[nM];rfl) c (by omega) (by omega) (growslice_fits (by omega) (by rw[pk];omega));refine⟨_,_,y,⟨_,_,rfl,.inr ⟨w.heap.size,_,rfl,E,dD w.drew _,?_,?_,?_,?_⟩,.inr ⟨_,Nat.le_refl _,rfl⟩⟩,rfl,rfl,rfl,?_,?_,?_,?_,?_⟩
   ·have:=grownCap_ge w (ps.length+1) pc 3;simp[size_zeroCells,Value.cells];omega
   ·have:=grownCap_ge w (ps.length+1) pc 3;simpa using this
   ·have:=grownCap_le_maxLen w (ps.length+1) pc 3 (by simp only[maxLen];omega);simp only[maxLen]at this;omega
   ·intro k s;have L:k<ps.length+1:=by simpa using s
    by_cases h:k<ps.length
    ·rw[Array.getElem?_append_left (by simp;omega),Array.getElem?_append_left (by simpa using h)];simp[h]
    ·obtain rfl:k=ps.length:=by omega
     rw[Array.getElem?_append_left (by simp),Array.getElem?_append_right (by simp)];simp
   ·rw[World.size_alloc];exact Nat.le_succ _
   ·intro b o _;exact alloc_old w.drew _ o
   ·exact Nat.le_succ _
   ·exact .inr ⟨f,m,rfl,p,(alloc_old w.drew _ A).trans a,q,z,r,d⟩
   ·intro b o _;obtain rfl:f=b:=congrArg Addr.block (Option.some.inj o);exact alloc_old w.drew _ A
structure cr(F:Nat->Prop)(w w':World):Prop where
 os:w'.os=w.os
 tape:w'.tape=w.tape
 output:w'.output=w.output
 size:w.heap.size<=w'.heap.size
 drawn:w.drawn<=w'.drawn
 block:∀b,b<w.heap.size->¬F b->w'.heap[b]? =w.heap[b]?
theorem cr.refl(F:Nat->Prop)(w:World):cr F w w:=⟨rfl,rfl,rfl,Nat.le_refl _,Nat.le_refl _,λ_ _ _=>rfl⟩
theorem cr.trans{F G H:Nat->Prop}{a b c:World}(h:cr F a b)(k:cr G b c)(i:∀x,x<a.heap.size->F x->H x)(j:∀x,x<a.heap.size->G x->H x):cr H a c:=
 ⟨k.os.trans h.os,k.tape.trans h.tape,k.output.trans h.output,Nat.le_trans h.size k.size,Nat.le_trans h.drawn k.drawn,λx d e=>(k.block x (Nat.lt_of_lt_of_le d h.size) λg=>e (j x d g)).trans (h.block x d λf=>e (i x d f))⟩
theorem cr.alloc{F:Nat->Prop}{a b:World}(h:cr F a b)(o:Obj):cr F a (b.alloc o):=
 ⟨h.os,h.tape,h.output,by rw[World.size_alloc];exact Nat.le_succ_of_le h.size,h.drawn,λx c d=>(alloc_old b o (Nat.lt_of_lt_of_le c h.size)).trans (h.block x c d)⟩
theorem cr.setCell{F:Nat->Prop}{a b:World}(h:cr F a b)(ad:Addr)(v:Value)(e:ad.block<a.heap.size->F ad.block):cr F a (b.setCell ad v):=
 ⟨h.os,h.tape,h.output,by simpa[World.setCell]using h.size,h.drawn,λx c d=>(ck.Cr.cR _ _ _ _ (by rintro rfl;exact d (e c))).trans (h.block x c d)⟩
theorem wm.keep{T:Nat}{w:World}{ps:List Nat}{i:Nat}{pa:Option Addr}{pc:Nat}{v:Value}{w':World}(h:wm T w ps i pa pc v w'):cr (λb=>pa=some ⟨b,0,none⟩) w w':=
 ⟨h.os,h.tape,h.output,h.size,h.drawn,h.block⟩
theorem cr.cell{F:Nat->Prop}{a b:World}(h:cr F a b){x o:Nat}(c:x<a.heap.size)(d:¬F x):b.cell? ⟨x,o,none⟩=a.cell? ⟨x,o,none⟩:=by simp only[World.cell?,h.block x c d]
theorem fK.len{α:Type}{n0:Nat->Prop}{E:World->Value->α->Prop}{z:Value}{t:TypeId}{w:World}{v:Value}{l:List α}(h:fK n0 E z t w v l):∃a c,v=.slice a l.length c:=by
 rcases h with⟨rfl,rfl⟩|⟨b,c,e,f,g,d,i,j,k,m,n⟩
 ·exact⟨_,_,rfl⟩
 ·exact⟨_,_,d⟩
theorem fK.at_{α:Type}{n0:Nat->Prop}{E:World->Value->α->Prop}{z:Value}{t:TypeId}{w:World}{v:Value}{l:List α}(h:fK n0 E z t w v l)(k:Nat)(a:k<l.length):∃b c u,v=.slice (some ⟨b,0,none⟩) l.length c/\n0 b/\w.cell? ⟨b,k,none⟩=some u/\E w u l[k]:=by
 rcases h with⟨rfl,rfl⟩|⟨b,c,m,n,d,e,f,o,p,g,q⟩
 ·cases a
 ·obtain⟨u,i,j⟩:=g k a;exact⟨b,c,u,e,d,by simp only[World.cell?,f];exact i,j⟩
def c7(pb:Nat)(pa:Option Addr)(pl pc:Nat)(L:Nat->Nat)(y:SV):Obj:=
 .cells #[.pointer (some ⟨pb,0,none⟩),.slice pa pl pc,.int .u8 (L 0),.int .u8 (L 1),.int .u8 (L 2),.int .u8 (L 3),.int .u8 (L 4),.int .u8 (L 5),.slice y.sa y.sl y.sc,.int .i64 y.m,.int .i64 y.k,.bool y.b] 245
theorem eY{w:World}{T pb:Nat}{pa:Option Addr}{pl pc:Nat}{L:Nat->Nat}{y:SV}(h:w.heap[T]? =some (c7 pb pa pl pc L y)):w.cell? ⟨T,0,none⟩=some (.pointer (some ⟨pb,0,none⟩))/\w.cell? ⟨T,1,none⟩=some (.slice pa pl pc)/\(∀s,s<6->w.cell? ⟨T,2+s,none⟩=some (.int .u8 (L s)))/\rn w T 8 y/\∀o,w.frozen? ⟨T,o,none⟩=false:=by
 refine⟨by simp[World.cell?,h,c7],by simp[World.cell?,h,c7],?_,?_,λo=>by simp[World.frozen?,h,c7]⟩
 ·intro s a;have:s=0\/s=1\/s=2\/s=3\/s=4\/s=5:=by omega
  rcases this with rfl|rfl|rfl|rfl|rfl|rfl<;>simp[World.cell?,h,c7]
 ·simp[rn,World.cell?,h,c7]
def AJ(L:Nat->Nat)(s v:Nat):Nat->Nat:=λx=>if x=s then v else L x
def gB(d:Nat)(l:List Nat)(L:Nat->Nat):Nat->Nat:=λs=>if s∈l then mz (L s) d else L s
theorem Ii:∀x,x<32->∀d,d<5->mz (mz x d) d=mz x d:=by decide+kernel
theorem wn{d:Nat}{l:List Nat}{L:Nat->Nat}(c:d<5)(a:∀s,s<6->L s<32):∀s,s<6->gB d l L s<32:=by
 intro s b;unfold gB;split
 ·exact AE _ (a s b) _ c
 ·exact a s b
theorem uW{d:Nat}{l:List Nat}{L:Nat->Nat}(c:d<5)(e:∀s,s<6->L s<32)(k:Nat)(f:k<l.length)(g:l[k]<6):AJ (gB d (l.take k) L) l[k] (mz (gB d (l.take k) L l[k]) d)=gB d (l.take (k+1)) L:=by
 funext s;have a:∀s,s∈l.take (k+1)↔s∈l.take k\/s=l[k]:=λs=>by rw[iy _ _ f];exact List.mem_append.trans (or_congr Iff.rfl List.mem_singleton)
 unfold AJ gB;by_cases b:s=l[k]
 ·subst b;rw[if_pos rfl,if_pos ((a _).2 (.inr rfl))];split
  ·exact Ii _ (e _ g) _ c
  ·rfl
 ·rw[if_neg b];by_cases h:s∈l.take k
  ·rw[if_pos h,if_pos ((a _).2 (.inl h))]
  ·rw[if_neg h,if_neg λi=>((a _).1 i).elim h b]
structure Ext(w w':World):Prop where
 os:w'.os=w.os
 tape:w'.tape=w.tape
 output:w'.output=w.output
 size:w.heap.size<=w'.heap.size
 drawn:w.drawn<=w'.drawn
 block:∀b,b<w.heap.size->w'.heap[b]? =w.heap[b]?
theorem Ext.refl(w:World):Ext w w:=⟨rfl,rfl,rfl,Nat.le_refl _,Nat.le_refl _,λ_ _=>rfl⟩
theorem Ext.trans{a b c:World}(h:Ext a b)(k:Ext b c):Ext a c:=
 ⟨k.os.trans h.os,k.tape.trans h.tape,k.output.trans h.output,Nat.le_trans h.size k.size,Nat.le_trans h.drawn k.drawn,λx d=>(k.block x (Nat.lt_of_lt_of_le d h.size)).trans (h.block x d)⟩
theorem Ext.drew(w:World):Ext w w.drew:=⟨rfl,rfl,rfl,Nat.le_refl _,Nat.le_succ _,λ_ _=>rfl⟩
theorem Ext.alloc(w:World)(o:Obj):Ext w (w.alloc o):=⟨rfl,rfl,rfl,by rw[World.size_alloc];exact Nat.le_succ _,Nat.le_refl _,λx a=>alloc_old w o a⟩
theorem Ext.keep{w w':World}(h:Ext w w')(F:Nat->Prop):cr F w w':=⟨h.os,h.tape,h.output,h.size,h.drawn,λb a _=>h.block b a⟩
theorem cr.ext{w w':World}{F:Nat->Prop}(h:cr F w w')(c:∀b,b<w.heap.size->¬F b):Ext w w':=⟨h.os,h.tape,h.output,h.size,h.drawn,λb a=>h.block b a (c b a)⟩
theorem Ext.cell{w w':World}(h:Ext w w'){ad:Addr}{v:Value}(c:w.cell? ad=some v):w'.cell? ad=some v:=by
 have a:ad.block<w.heap.size:=by refine Nat.lt_of_not_le λb=>?_;have:w.heap[ad.block]? =none:=Array.getElem?_eq_none b;simp[World.cell?,this]at c
 exact(Go.Proofs.W.ez (h.block _ a)).trans c
theorem Ext.at_{w w':World}(h:Ext w w'){b:Nat}{o:Obj}(a:w.heap[b]? =some o):w'.heap[b]? =some o:=(h.block b (ck.lt_of_heap a)).trans a
theorem ig(a:Act)(j:Nat):a.eval (.tmp j)=(a.tmps[j]?).getD undef:=by show a.tmps.getD j undef=_;simp[Array.getD_eq_getD_getElem?]
theorem yr(a:Act)(d j:Nat)(v:Value)(h:d≠j):(a.put (some d) v).eval (.tmp j)=a.eval (.tmp j):=by rw[ig,ig];simp only[Act.put];rw[Array.getElem?_setIfInBounds_ne h]
theorem uk(a:Act)(d:Nat)(v:Value)(h:d<a.tmps.size):(a.put (some d) v).eval (.tmp d)=v:=by rw[ig];simp only[Act.put];rw[Array.getElem?_setIfInBounds_self_of_lt h];rfl
theorem mE(a:Act)(d:Option Nat)(j:Nat)(v:Value)(h:d≠some j):(a.put d v).eval (.tmp j)=a.eval (.tmp j):=by
 cases d with
 |none=>rfl
 |some d=>exact yr a d j v (λe=>h (by rw[e]))
theorem po(a:Act)(d:Nat)(v:Value)(h:d<a.tmps.size):(a.put (some d) v).eval (.tmp d)=v:=uk a d v h
theorem iT(a:Act)(d:Option Nat)(v:Value):(a.put d v).tmps.size=a.tmps.size:=by cases d<;>simp[Act.put]
theorem oB(a:Act)(d:Option Nat)(v:Value):(a.put d v).defers=a.defers:=by cases d<;>rfl
def waits(ops:Array Oper)(k j:Nat):Bool:=match ops[k]? with
 |some o=>o.after.any λe=>e.on==j&&Region.binds .any e
 |none=>false
def JV(ops:Array Oper)(N m:Nat):Bool:=
 (List.range ops.size).all (λi=>match ops[i]? with
  |some o=>(o.after.all λe=>decide (e.on<i))&&(match o.dst with|some d=>decide (d<N)&&(List.range ops.size).all (λj=>decide (j=i)||match ops[j]? with|some a=>a.dst !=some d|none=>true)|none=>true)
  |none=>true)&&((decide (m=ops.size)||(List.range m).all λj=>(List.range (m+1)).any λk=>decide (j<k)&&waits ops k j)&&(decide (m=ops.size)||decide (m+1=ops.size)))
def wrote(ops:Array Oper)(j:Nat):Bool:=ops.any λo=>o.dst==some j
structure dR(E:World->World->Prop):Prop where
 refl:∀w,E w w
 trans:∀a b c,E a b->E b c->E a c
 drew:∀w,E w w.drew
theorem cB:dR Ext:=⟨Ext.refl,λ_ _ _=>Ext.trans,Ext.drew⟩
theorem fg(F:Nat->Prop):dR (cr F):=⟨cr.refl F,λ_ _ _ h k=>h.trans k (λ_ _ h=>h) λ_ _ h=>h,λw=>(Ext.drew w).keep F⟩
section
variable{P:Program}{ops:Array Oper}{Q:Exit->Act->World->Prop}{a0:Act}{w0:World}{N m:Nat}{n4:Nat->Value->World->Prop}{E:World->World->Prop}
structure FJ(E:World->World->Prop)(ops:Array Oper)(a0:Act)(w0:World)(N m:Nat)(n4:Nat->Value->World->Prop)(L:Array Bool)(a:Act)(w:World):Prop where
 size:a.tmps.size=N
 defers:a.defers=a0.defers
 keep:∀j,wrote ops j=false->a.eval (.tmp j)=a0.eval (.tmp j)
 val:∀i o d,i<m->L.getD i false=true->ops[i]? =some o->o.dst=some d->n4 i (a.eval (.tmp d)) w
 ext:E w0 w
 tail:∀i,m<=i->L.getD i false=false
 closed:∀i j,L.getD i false=true->waits ops i j=true->L.getD j false=true
theorem fL(L:Array Bool)(i j:Nat)(h:i<L.size):(L.setIfInBounds i true).getD j false=if i=j then true else L.getD j false:=by
 by_cases e:i=j
 ·subst e;simp[h]
 ·simp[Array.getD_eq_getD_getElem?,Array.getElem?_setIfInBounds_ne e,e]
theorem FJ.next(y:dR E)(t:JV ops N m=true)(z:∀i v w w',n4 i v w->E w w'->n4 i v w'){L:Array Bool}{a:Act}{w:World}(f:FJ E ops a0 w0 N m n4 L a w)(F:L.size=ops.size){i:Nat}{o:Oper}(q:ops[i]? =some o)(G:i<m) {v:Value}{w':World}(u:E w w')(A:n4 i v w')(g:∀j,waits ops i j=true->L.getD j false=true):FJ E ops a0 w0 N m n4 (L.setIfInBounds i true) (a.put o.dst v) w':=by
 have B:i<ops.size:=(Array.getElem?_eq_some_iff.1 q).1;simp only[JV,Bool.and_eq_true]at t;have c:=List.all_eq_true.1 t.1 i (List.mem_range.2 B);rw[q]at c;simp only[Bool.and_eq_true]at c;refine⟨by rw[iT,f.size],by rw[oB,f.defers],λj p=>?_,λk C d h l b r=>?_,y.trans _ _ _ f.ext u,λk h=>?_,λk j h p=>?_⟩
 ·rw[mE,f.keep j p];intro e;have:wrote ops j=true:=Array.any_eq_true'.2 ⟨o,Array.mem_of_getElem? q,by rw[e];simp⟩;rw[this]at p;cases p
 ·rw[fL _ _ _ (by omega)]at l;by_cases e:i=k
  ·subst e;rw[q]at b;obtain rfl:=Option.some.inj b;rw[r,po]
   ·exact A
   ·have n:=c.2;rw[r]at n;simp only[Bool.and_eq_true,decide_eq_true_eq]at n;rw[f.size];exact n.1
  ·rw[if_neg e]at l;have s:k<ops.size:=(Array.getElem?_eq_some_iff.1 b).1;rw[mE]
   ·exact z _ _ _ _ (f.val k C d h l b r) u
   ·intro D;have n:=c.2;rw[D]at n;simp only[Bool.and_eq_true,decide_eq_true_eq]at n;have x:=List.all_eq_true.1 n.2 k (List.mem_range.2 s);rw[b]at x;simp[r,Ne.symm e]at x
 ·rw[fL _ _ _ (by omega),if_neg (by omega)];exact f.tail k h
 ·rw[fL _ _ _ (by omega)]at h⊢;split
  ·rfl
  ·by_cases e:i=k
   ·subst e;exact g j p
   ·rw[if_neg e]at h;exact f.closed k j h p
theorem sL{i:Nat}{o:Oper}{a:Act}{w:World}{K:Act->World->Prop}(f:FuncId)(args:Array Value)(b:ops[i]? =some o)(d:o.guard=none)(g:(execOp a.eval o).run P w=.ok (.enter f args) w)
 (j:Calls P f args w λe w'=>(∃v,e=.returned v/\K (a.put o.dst v) w')\/∃c,e=.panicked c/\Q (.panic c) a w'):wpOp P ops Q i K a w:=by
 have k:Region.wanted o (yielded ops a.tmps)=true:=by simp[Region.wanted,d]
 unfold wpOp;rw[b];simp only[k,if_true];refine .inl ?_;unfold Oper.wp;rw[g];refine j.mono ?_;rintro e w' (⟨v,rfl,h⟩|⟨c,rfl,h⟩)
 ·exact h
 ·exact h
end
def Ij(E:World->World->Prop)(p:Value->World->Prop):Prop:=∀v w a,p v w->E w a->p v a
def infoAt(ops:Array Oper)(i:Nat):Option (Op×Option (Nat×Bool)):=(ops[i]?).map λo=>(o.op,o.guard)
theorem C6{ops:Array Oper}{i:Nat}{o:Oper}{a:Op}{g:Option (Nat×Bool)}(b:ops[i]? =some o)(h:infoAt ops i=some (a,g)):o.op=a/\o.guard=g:=by unfold infoAt at h;rw[b]at h;simp only[Option.map_some,Option.some.injEq,Prod.mk.injEq]at h;exact h
theorem sM{ops:Array Oper}{i:Nat}{o:Oper}{d:Option Tmp}(a:ops[i]? =some o)(h:((ops[i]?).map (·.dst))=some d):o.dst=d:=by rw[a]at h;simpa using h
theorem qd{ops:Array Oper}{n:Nat}(i:Nat)(h:ops.size=n)(a:i<n):∃o,ops[i]? =some o:=⟨_,Array.getElem?_eq_getElem (by omega)⟩
def boxed(n:Nat)(cs:Array Value)(t:TypeId):Value->World->Prop:=λv w=>∃a,v=.pointer (some ⟨a,0,none⟩)/\n<=a/\w.heap[a]? =some (.cells cs t)
theorem AK(n:Nat)(cs:Array Value)(t:TypeId):Ij Ext (boxed n cs t):=λ_ _ _ ⟨a,b,c,d⟩ e=>⟨a,b,c,e.at_ d⟩
theorem Ext.kh{w w':World}(h:Ext w w'){ad:Addr}(v:Value)(b:w.heap.size<=ad.block):Ext w (w'.setCell ad v):=
 ⟨h.os,h.tape,h.output,by simpa[World.setCell]using h.size,h.drawn,λx a=>(ck.Cr.cR _ _ _ _ (by omega)).trans (h.block x a)⟩
theorem cr.dn{F:Nat->Prop}{w w':World}(h:cr F w w'){ad:Addr}{v:Value}(c:w.cell? ad=some v)(d:¬F ad.block):w'.cell? ad=some v:=by
 have a:ad.block<w.heap.size:=by refine Nat.lt_of_not_le λb=>?_;have:w.heap[ad.block]? =none:=Array.getElem?_eq_none b;simp[World.cell?,this]at c
 exact(Go.Proofs.W.ez (h.block _ a d)).trans c
theorem cr.ef{F:Nat->Prop}{w w':World}(h:cr F w w'){b:Nat}{o:Obj}(a:w.heap[b]? =some o)(c:¬F b):w'.heap[b]? =some o:=(h.block b (ck.lt_of_heap a) c).trans a
section
variable{P:Program}{Q:Exit->Act->World->Prop}{a:Act}{w:World}
theorem yu{p:Nat->Prop}(h:∃k,p k):∃k,p k/\∀j,p j->k<=j:=by
 obtain⟨k,d⟩:=h;induction k using Nat.strongRecOn with
 |_ k e=>
  by_cases c:∃j,p j/\j<k
  ·obtain⟨j,b,a⟩:=c;exact e j a b
  ·exact⟨k,d,λj b=>Nat.le_of_not_lt λa=>c ⟨j,b,a⟩⟩
theorem lT{c:Code}(I:Nat->Act->World->Prop)(n:Nat)(m:I n a w)
 (b:∀k a w,I k a w->c.wp P (Exit.then (λl w'=>∃f,f<k/\I f l w') Q) a w):(Code.loop c).wp P Q a w:=by
 let g:Act->World->Nat:=λa w=>by classical exact if h:∃k,I k a w then Classical.choose (yu h)else 0
 have i:∀a w,(∃k,I k a w)->I (g a w) a w/\∀j,I j a w->g a w<=j:=by intro a w h;have:=Classical.choose_spec (yu h);simp only[g,h,dif_pos];exact this
 refine wp_loop (λa w=>∃k,I k a w) g ⟨n,m⟩ λa w o=>?_;obtain⟨p,r⟩:=i a w o;refine wp_mono (b (g a w) a w p) λe l w' h=>?_;cases e with
 |normal=>
  obtain⟨f,q,d⟩:=h;exact⟨⟨f,d⟩,Nat.lt_of_le_of_lt ((i l w' ⟨f,d⟩).2 f d) q⟩
 |_=>exact h
end
noncomputable def uX(xs:Array Value)(n:Nat):Act:=⟨xs++Array.replicate (n-xs.size) undef,[]⟩
theorem oC(xs:Array Value)(n:Nat)(h:xs.size<=n):(uX xs n).tmps.size=n:=by simp[uX];omega
theorem sN(xs:Array Value)(n i:Nat)(v:Value)(h:xs[i]? =some v):(uX xs n).eval (.tmp i)=v:=by have a:i<xs.size:=(Array.getElem?_eq_some_iff.1 h).1;rw[ig];show((xs++Array.replicate (n-xs.size) undef)[i]?).getD undef=v;rw[Array.getElem?_append_left a,h];rfl
theorem FK{P:Program}{f:FuncId}{fn:Func}{c:Code}{args:Array Value}{w:World}{R:Ending->World->Prop}(n:Nat) (d:P.funcs[f]? =some fn)(e:fn.body=some c)(g:fn.ntmps=n)(h:∀a:Act,a.tmps.size=n->a.defers=[]->(∀i v,args[i]? =some v->a.eval (.tmp i)=v)->c.wp P (bodyPost P fn R) a w)(b:args.size<=n):Calls P f args w R:=by refine calls_of_wp d e ?_;rw[g];exact h (uX args n) (oC _ _ b) rfl λi v j=>sN _ _ _ _ j
theorem rp{P:Program}{f:FuncId}{fn:Func}{c:Code}{args:Array Value}{w:World}{R:Ending->World->Prop}(n:Nat) (d:P.funcs[f]? =some fn)(e:fn.body=some c)(g:fn.ntmps=n)(h:∀a:Act,a.tmps.size=n->a.defers=[]->(∀i v,args[i]? =some v->a.eval (.tmp i)=v)->c.wp P (bodyPostD P fn R) a w)(b:args.size<=n):Calls P f args w R:=by refine calls_of_wp_defers d e ?_;rw[g];exact h (uX args n) (oC _ _ b) rfl λi v j=>sN _ _ _ _ j
end Go.Proofs.W
