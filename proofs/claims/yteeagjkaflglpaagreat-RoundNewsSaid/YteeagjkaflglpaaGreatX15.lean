/- Laws that the proof needs, part 15. Conditions: none. -/
import Derived.Test.YteeagjkaflglpaaGreatX14
set_option maxRecDepth 100000
set_option maxHeartbeats 8000000
set_option linter.all false
namespace Go.Proofs.W
open Go.RowKit
def UM:List (Nat×List Nat):=[(24,[0,1,2,3,4,5,6]),(29,[0,1]),(56,[0,1]),(81,[0,1,2]),(84,[0,1,2]),(101,[0,1,2,3]),(121,[0,1,2]),(125,[0,1,2,3,4]),(141,[0,1,2]),(166,[0,1,2,3,4,7]),(173,[0,1,2,3,4]),(184,[0,1]),(186,[0,7,43,44,45]),(199,[0,1,2,3]),(207,[0,1,2,3]),(220,[0,1]),(245,[0,1,2,8]),(247,[0,1])]
def Qe:List (Nat×List Nat)->Nat->Nat->Option Nat
 |[],_,_=>none
 |p::r,S,i=>match Nat.beq p.1 S with
  |true=>nth p.2 i
  |false=>Qe r S i
def Hy:BC:=⟨Qe UM⟩
noncomputable def I7(p:Nat×List Nat):Bool:=match Tryz.prog.underlying p.1 with
 |some (.struct a)=>(List.range p.2.length).all λi=>match nth p.2 i,a[i]? with
  |some d,some f=>f.offset==d&&(match Tryz.prog.info? f.type with
   |some x=>x.size !=0
   |none=>false)
  |_,_=>false
 |_=>false
def WG:UM.all I7=true:=by kernel_rfl
theorem Fy:∀(l:List (Nat×List Nat)) (S i d:Nat),Qe l S i=some d->∃p∈l,p.1=S/\nth p.2 i=some d
 |p::r,S,i,d,h=>by simp only[Qe]at h;split at h;rename_i a;exact⟨p,eR,gE a,h⟩;obtain⟨q,b,c⟩:=Fy r S i d h;exact⟨q,eI _ b,c⟩
theorem No{α:Type}:∀{l:List α} {i:Nat} {d:α},nth l i=some d->i<l.length
 |_::_,0,_,_=>Nat.succ_pos _
 |_::r,n+1,_,h=>Nat.succ_lt_succ (No (l:=r) h)
def fZ{t:cg}{d:TypeDesc}(h:Tryz.prog.underlying t=some d)(w:cd):Sem.run V.prog (underlying t) w=.ok d w:=by rw[V.vJ];unfold underlying;rw[Sem.run_bind,run_program,Result.andThen_ok,h,Sem.run_pure]
def Fz{t:cg}{x:TypeInfo}(h:Tryz.prog.info? t=some x)(w:cd):Sem.run V.prog (typeInfo t) w=.ok x w:=by rw[V.D5];unfold typeInfo;rw[Sem.run_bind,run_program,Result.andThen_ok,h,Sem.run_pure]
def Hz{t:cg}{x:TypeInfo}(h:Tryz.prog.info? t=some x)(w:cd):Sem.run V.prog (sizeOf t) w=.ok x.size w:=by unfold sizeOf;rw[Sem.run_bind,Fz h,Result.andThen_ok,Sem.run_pure]
def Np{t:cg}{x:TypeInfo}{z:ce}(h:Tryz.prog.info? t=some x)(a:x.zero=some z)(w:cd):Sem.run V.prog (zeroValue t) w=.ok z w:=by unfold zeroValue;rw[Sem.run_bind,Fz h,Result.andThen_ok,a,Sem.run_pure]
def jG:n5 V.prog Hy:=⟨λS i d h b o w=>by
 obtain⟨p,l,rfl,k⟩:=Fy _ _ _ _ h;have c:=jF.1 WG p l;unfold I7 at c;split at c;rename_i r m;have a:=jF.1 c i (eJ.2 (No k));rw[k]at a;split at a;rename_i s f e n;obtain rfl:=cE e;simp only[ez,qM]at a;obtain⟨rfl,g⟩:=a;split at g;rename_i x q;have j:x.size≠0:=by simpa using g
 unfold Instr.fieldAt;rw[Sem.run_bind,fZ m,Result.andThen_ok];simp only[n,Instr.sureAddr,pure_bind,fieldPlace,Sem.run_bind,Hz q,Result.andThen_ok,cr j,Sem.run_pure];simp[Addr.add];cases g;cases a;cases c⟩
structure TI where
 kd:Nat
 sz:Nat
 es:Nat
 ln:Nat
def X6:List (Nat×TI):=[(3,⟨0,1,0,0⟩),(4,⟨0,1,0,0⟩),(22,⟨3,1,3,0⟩),(24,⟨1,7,0,0⟩),(25,⟨3,1,3,0⟩),(26,⟨3,1,2,0⟩),(27,⟨3,1,1,0⟩),(29,⟨1,2,0,0⟩),(31,⟨0,1,0,0⟩),(38,⟨0,1,0,0⟩),(43,⟨3,1,7,0⟩),(44,⟨3,1,1,0⟩),(45,⟨3,1,1,0⟩),(56,⟨1,2,0,0⟩),(60,⟨0,1,0,0⟩),(64,⟨3,1,1,0⟩),(66,⟨3,1,1,0⟩),(81,⟨1,3,0,0⟩),(84,⟨1,3,0,0⟩),(95,⟨3,1,4,0⟩),(101,⟨1,4,0,0⟩),(112,⟨0,1,0,0⟩),(117,⟨3,1,1,0⟩),(119,⟨0,1,0,0⟩),(121,⟨1,3,0,0⟩),(125,⟨1,5,0,0⟩),(133,⟨0,1,0,0⟩),(138,⟨0,1,0,0⟩),(139,⟨3,1,8,0⟩),(141,⟨1,3,0,0⟩),(154,⟨0,1,0,0⟩),(164,⟨2,3,1,3⟩),(166,⟨1,8,0,0⟩),(173,⟨1,5,0,0⟩),(178,⟨2,6,1,6⟩),(179,⟨2,36,6,6⟩),(180,⟨0,1,0,0⟩),(181,⟨0,1,0,0⟩),(182,⟨0,1,0,0⟩),(184,⟨1,2,0,0⟩),(186,⟨1,47,0,0⟩),(199,⟨1,4,0,0⟩),(200,⟨0,1,0,0⟩),(204,⟨2,6,1,6⟩),(205,⟨2,32,1,32⟩),(207,⟨1,35,0,0⟩),(209,⟨0,1,0,0⟩),(217,⟨2,5,1,5⟩),(220,⟨1,2,0,0⟩),(222,⟨3,1,1,0⟩),(225,⟨3,1,1,0⟩),(243,⟨0,1,0,0⟩),(245,⟨1,12,0,0⟩),(247,⟨1,5,0,0⟩),(248,⟨3,1,4,0⟩)]
def VI:List (Nat×TI)->Nat->Option TI
 |[],_=>none
 |p::r,S=>match Nat.beq p.1 S with
  |true=>some p.2
  |false=>VI r S
def ty(t:Nat):Option TI:=VI X6 t
noncomputable def zv(t n:Nat):Bool:=match Tryz.prog.info? t with
 |some x=>x.size==n
 |none=>false
noncomputable def TY(p:Nat×TI):Bool:=zv p.1 p.2.sz&&(match Tryz.prog.underlying p.1 with
 |some (.struct _)=>p.2.kd==1
 |some (.array n e)=>p.2.kd==2&&p.2.ln==n&&zv e p.2.es
 |some (.slice e)=>p.2.kd==3&&zv e p.2.es
 |some _=>p.2.kd==0
 |none=>false)
def WH:X6.all TY=true:=by kernel_rfl
theorem I8:∀(l:List (Nat×TI)) (S:Nat) (d:TI),VI l S=some d->(S,d)∈l
 |p::r,S,d,h=>by simp only[VI]at h;split at h;rename_i a;obtain rfl:=gE a;obtain rfl:=cE h;exact eR;exact eI _ (I8 r S d h)
def I9{t:Nat}{x:TI}(h:ty t=some x):TY (t,x)=true:=jF.1 WH _ (I8 _ _ _ h)
def lq{t n:Nat}(h:zv t n=true)(w:cd):Sem.run V.prog (sizeOf t) w=.ok n w:=by unfold zv at h;split at h;rename_i x a;rw[Hz a,qM.1 h];cases h
def Qf{t:Nat}{x:TI}(h:ty t=some x)(w:cd):Sem.run V.prog (sizeOf t) w=.ok x.sz w:=by have:=I9 h;simp only[TY,ez]at this;exact lq this.1 w
def S7{t:Nat}{x:TI}(h:ty t=some x)(w:cd):Sem.run V.prog (isAgg t) w=.ok (x.kd==1||x.kd==2) w:=by
 have:=I9 h;simp only[TY,ez]at this;have a:=this.2;unfold isAgg;cases b:Tryz.prog.underlying t with
 |none=>rw[b]at a;cases a
 |some d=>
  rw[b]at a;rw[Sem.run_bind,fZ b,Result.andThen_ok];cases d<;>simp only[ez,qM]at a<;>simp[a]
def rA{t:Nat}{x:TI}(h:ty t=some x)(c:x.kd=3):∃e,Tryz.prog.underlying t=some (.slice e)/\zv e x.es=true:=by
 have:=I9 h;simp only[TY,ez]at this;have a:=this.2;cases b:Tryz.prog.underlying t with
 |none=>rw[b]at a;cases a
 |some d=>
  rw[b]at a;cases d<;>simp only[ez,qM]at a<;>first|(exfalso;omega)|skip
  exact⟨_,rfl,a.2⟩
def FA{t:Nat}{x:TI}(h:ty t=some x)(c:x.kd=2):∃e,Tryz.prog.underlying t=some (.array x.ln e)/\zv e x.es=true:=by
 have:=I9 h;simp only[TY,ez]at this;have a:=this.2;cases b:Tryz.prog.underlying t with
 |none=>rw[b]at a;cases a
 |some d=>
  rw[b]at a;cases d<;>simp only[ez,qM]at a<;>first|(exfalso;omega)|skip
  exact⟨_,by rw[a.1.2],a.2⟩
def zL:List (Nat×List ce):=[(3,[.int .i64 0]),(24,[.int .i64 0,.int .i64 0,.int .i64 0,.int .i64 0,.int .i64 0,.int .i64 0,.slice none 0 0]),(27,[.slice none 0 0]),(29,[.int .i64 0,.slice none 0 0]),(31,[.nilFunc]),(56,[.int .i64 0,.int .i64 0]),(66,[.slice none 0 0]),(81,[.int .i64 0,.int .i64 0,.int .i64 0]),(84,[.int .i64 0,.int .i64 0,.bool false]),(101,[.int .i64 0,.int .i64 0,.bool false,.bool false]),(125,[.bool false,.int .i64 0,.int .i64 0,.slice none 0 0,.slice none 0 0]),(141,[.pointer none,.slice none 0 0,.int .i64 0]),(166,[.int .i64 0,.int .i64 0,.int .i64 0,.bool false,.bool false,.bool false,.bool false,.bool false]),(173,[.bool false,.int .i64 0,.int .i64 0,.int .i64 0,.int .i64 0]),(178,[.int .i64 0,.int .i64 0,.int .i64 0,.int .i64 0,.int .i64 0,.int .i64 0]),(186,[.int .i64 0,.int .i64 0,.int .i64 0,.int .i64 0,.int .i64 0,.int .i64 0,.slice none 0 0,.int .i64 0,.int .i64 0,.int .i64 0,.int .i64 0,.int .i64 0,.int .i64 0,.int .i64 0,.int .i64 0,.int .i64 0,.int .i64 0,.int .i64 0,.int .i64 0,.int .i64 0,.int .i64 0,.int .i64 0,.int .i64 0,.int .i64 0,.int .i64 0,.int .i64 0,.int .i64 0,.int .i64 0,.int .i64 0,.int .i64 0,.int .i64 0,.int .i64 0,.int .i64 0,.int .i64 0,.int .i64 0,.int .i64 0,.int .i64 0,.int .i64 0,.int .i64 0,.int .i64 0,.int .i64 0,.int .i64 0,.int .i64 0,.map none,.map none,.nilFunc,.nilFunc]),(199,[.slice none 0 0,.int .i64 0,.int .i64 0,.bool false]),(204,[.int .u8 0,.int .u8 0,.int .u8 0,.int .u8 0,.int .u8 0,.int .u8 0]),(209,[.nilFunc]),(217,[.bool false,.bool false,.bool false,.bool false,.bool false]),(220,[.slice none 0 0,.bool false]),(225,[.slice none 0 0]),(247,[.int .i64 0,.slice none 0 0,.int .i64 0,.int .i64 0,.bool false])]
def zG:List (Nat×List ce)->Nat->Option (List ce)
 |[],_=>none
 |p::r,S=>match Nat.beq p.1 S with
  |true=>some p.2
  |false=>zG r S
def zc(t:Nat):Option (List ce):=zG zL t
noncomputable def VJ(t:Nat):Option ce:=(Tryz.prog.info? t).bind (·.zero)
def Zf:(zL.map λp=>(VJ p.1).map (·.cells.toList))=zL.map λp=>some p.2:=by kernel_rfl
theorem RF:∀(l:List (Nat×List ce)),(l.map λp=>(VJ p.1).map (·.cells.toList))=(l.map λp=>some p.2)->∀t cs,zG l t=some cs->(VJ t).map (·.cells.toList)=some cs
 |p::r,h,t,cs,a=>by simp only[jP,qm]at h;simp only[zG]at a;split at a;rename_i b;obtain rfl:=gE b;obtain rfl:=cE a;exact h.1;exact RF r h.2 t cs a
def S8{t:Nat}{cs:List ce}(h:zc t=some cs):∃z,z.cells=cs.toArray/\∀w,Sem.run V.prog (zeroValue t) w=.ok z w:=by
 have a:=RF _ Zf t cs h;unfold VJ at a;cases b:Tryz.prog.info? t with
 |none=>rw[b]at a;cases a
 |some x=>
  rw[b]at a;simp only[vI]at a;cases c:x.zero with
  |none=>rw[c]at a;cases a
  |some z=>
   rw[c]at a;refine⟨z,?_,λw=>Np b c w⟩;have:=cE a;rw[<-this]
section
variable{w:cd}{k:ce->cd->Prop}{s:cd->Prop}
def Qg(a b:Nat):(a==b)=Nat.beq a b:=by
 cases h:Nat.beq a b with
 |true=>simpa using gE h
 |false=>simpa using vH h
def HB(t:Nat):Option Bool:=match ty t with
 |some x=>match Nat.beq x.kd 1 with
  |true=>some true
  |false=>some (Nat.beq x.kd 2)
 |none=>none
def zw{t:Nat}{b:Bool}(h:HB t=some b)(w:cd):Sem.run V.prog (isAgg t) w=.ok b w:=by
 unfold HB at h;split at h;rename_i x c;rw[S7 c];split at h;rename_i a;obtain rfl:=cE h;have:x.kd=1:=gE a;simp[this];rename_i a;obtain rfl:=cE h;have:x.kd≠1:=vH a;have e:(x.kd==1)=false:=by simpa using this
 rw[e,Bool.false_or,Qg];cases h
def RG(t:Nat):Option Nat:=match ty t with
 |some x=>some x.sz
 |none=>none
def C5{t n:Nat}(h:RG t=some n)(w:cd):Sem.run V.prog (sizeOf t) w=.ok n w:=by unfold RG at h;split at h;rename_i x a;obtain rfl:=cE h;exact Qf a w;cases h
def cu{t:cg}{ad:Addr}{v:ce}(c0:w.cell? ad=some v)(h:k v w)(a:HB t=some false:=by rfl):iO V.prog (Instr.loadAt t (.pointer (some ad))) w k:=by refine⟨v,w,?_,h⟩;simp only[Instr.loadAt,Instr.sureAddr,pure_bind,loadVar,Sem.run_bind,zw a,Result.andThen_ok,iq,eo];go_simp
def fL(b o j:Nat):(⟨b,o,none⟩:Addr).add j=⟨b,o+j,none⟩:=by unfold Addr.add;split<;>simp_all
def dP{t:cg}{b o:Nat}{vs:List ce}(c0:∀j v,vs[j]? =some v->w.cell? ⟨b,o+j,none⟩=some v)(h:k (.agg vs.toArray) w)(a:HB t=some true:=by rfl)(c:RG t=some vs.length:=by rfl):
 iO V.prog (Instr.loadAt t (.pointer (some ⟨b,o,none⟩))) w k:=by
 refine⟨_,w,?_,h⟩;have d:=run_loadCells_list (P:=V.prog) w ⟨b,o,none⟩ vs λj v e=>by rw[fL];exact c0 j v e
 simp only[Instr.loadAt,Instr.sureAddr,pure_bind,loadVar,Sem.run_bind,zw a,C5 c,Result.andThen_ok,cX,d,Sem.run_pure]
def fT(cs:Array ce)(o:Nat):List ce->Array ce
 |[]=>cs
 |v::r=>fT (cs.setIfInBounds o v) (o+1) r
theorem rB:∀(vs:List ce) (w:cd) (b o:Nat) (cs:Array ce) (t:cg) (a:Nat×Nat),w.heap[b]? =some (.cells cs t a)->(w.setCells b o vs).heap[b]? =some (.cells (fT cs o vs) t a)
 |[],w,b,o,cs,t,a,h=>h
 |v::r,w,b,o,cs,t,a,h=>rB r (w.setCell ⟨b,o,none⟩ v) b (o+1) (cs.setIfInBounds o v) t a (by simp[World.setCell,sL,h])
theorem oF:∀(vs:List ce) (w w0:cd) (b o:Nat),cN (λx=>x=b) w0 w->cN (λx=>x=b) w0 (w.setCells b o vs)
 |[],_,_,_,_,h=>h
 |v::r,w,w0,b,o,h=>oF r _ w0 b (o+1) (h.setCell _ _ λ_=>rfl)
def iA{t:cg}{b o:Nat}{v:ce}{cs:Array ce}{a:cg}(c:w.heap[b]? =some (.cells cs a))(k:o+v.cells.size<=cs.size)(h:∀w',cN (λx=>x=b) w w'->w'.heap[b]? =some (.cells (fT cs o v.cells.toList) a)->s w')
 (f:∀u∈v.cells.toList,u.oneCell'=true:=by simp[Value.cells])(g:RG t=some v.cells.size:=by rfl):DR V.prog (Instr.storeAt t (.pointer (some ⟨b,o,none⟩)) v) w s:=by
 have i:=run_storeCells_cells (P:=V.prog) b o v.cells.toList 0 w (λj e=>by
  have d:o+0+j<cs.size:=by
   have:j<v.cells.size:=by simpa using e
   omega
  simp only[World.cell?,c];simpa using d) (λj e=>by simp[World.frozen?,c]) f
 refine⟨_,?_,h (w.setCells b o v.cells.toList) (oF _ _ _ _ _ (cN.refl _ w)) (rB _ _ _ _ _ _ _ c)⟩;simp only[Instr.storeAt,Instr.sureAddr,pure_bind,storeVar,Sem.run_bind,C5 g,Result.andThen_ok,ne_eq,not_true_eq_false,eo];exact i
def qC:List ce->Bool
 |[]=>true
 |v::r=>match v.oneCell' with
  |true=>qC r
  |false=>false
theorem fU:∀{l:List ce},qC l=true->∀u∈l,u.oneCell'=true
 |v::r,h,u,a=>by simp only[qC]at h;split at h;rename_i b;rcases eQ.1 a with rfl|a;exact b;exact fU h u a;cases h
def cZ{t:cg}{b o:Nat}{v:ce}{cs:Array ce}{a:cg}(c:w.heap[b]? =some (.cells cs a))(h:∀w',cN (λx=>x=b) w w'->w'.heap[b]? =some (.cells (fT cs o v.cells.toList) a)->s w')
 (d:Nat.ble (o+v.cells.size) cs.size=true:=by rfl)(e:qC v.cells.toList=true:=by rfl)(f:RG t=some v.cells.size:=by rfl):DR V.prog (Instr.storeAt t (.pointer (some ⟨b,o,none⟩)) v) w s:=
 iA c (sO d) h (fU e) f
def sH(t:Nat):List ce:=match zc t with
 |some a=>a
 |none=>[]
def WI(t:Nat):Bool:=match zc t with
 |some _=>true
 |none=>false
def eF{t:cg}(h:∀w' a,Ext w w'->w.heap.size<=a->w'.heap[a]? =some (.cells (sH t).toArray t)->k (.pointer (some ⟨a,0,none⟩)) w')(b:WI t=true:=by rfl):iO V.prog (Instr.alloc t true (.tuple #[])) w k:=by
 unfold WI at b;cases c:zc t with
 |none=>rw[c]at b;cases b
 |some e=>
  have d:sH t=e:=by simp[sH,c]
  obtain⟨z,f,g⟩:=S8 c;rw[d]at h;refine⟨_,w.alloc (.cells e.toArray t),?_,h _ w.heap.size (Ext.alloc _ _) (cz _) (eU _ _)⟩;simp only[Instr.alloc,Sem.run_bind,g,Result.andThen_ok,newVar,newRow,f];go_simp
def fo{t:cg}{v:ce}(h:∀w' a,Ext w w'->w.heap.size<=a->w'.heap[a]? =some (.cells v.cells t)->k (.pointer (some ⟨a,0,none⟩)) w'):iO V.prog (Instr.box t v) w k:=by refine⟨_,w.alloc (.cells v.cells t),?_,h _ w.heap.size (Ext.alloc _ _) (cz _) (eU _ _)⟩;simp only[Instr.box,newVar,newRow];go_simp
def fF{t b o l c:Nat}(a es:Nat){i:Int}(p:a<l)(h:k (.pointer (some ⟨b,o+a*es,none⟩)) w)(g:i=(a:Nat):=by rfl)(j:ty t=some ⟨3,1,es,0⟩:=by rfl):iO V.prog (Instr.indexAt t (.slice (some ⟨b,o,none⟩) l c) (.int .i64 i)) w k:=by
 subst g;obtain⟨e,m,n⟩:=rA j rfl;refine⟨_,w,?_,h⟩;have d:(a:Int)<(l:Int):=by omega
 have f:(0:Int)<=(a:Int):=by omega
 unfold Instr.indexAt;simp only[asIntOf,pure_bind,Sem.run_bind,fZ m,Result.andThen_ok,Sem.run_pure,f,d,and_self,cX,lq n,ql,fL]
def uF{t b o:Nat}(a es n:Nat){f:Nat}{i:Int}(p:a<n)(h:k (.pointer (some ⟨b,o+a*es,none⟩)) w)(g:i=(a:Nat):=by rfl)(j:ty t=some ⟨2,f,es,n⟩:=by rfl):iO V.prog (Instr.indexAt t (.pointer (some ⟨b,o,none⟩)) (.int .i64 i)) w k:=by
 subst g;obtain⟨e,l,m⟩:=FA j rfl;refine⟨_,w,?_,h⟩;have c:(a:Int)<(n:Int):=by omega
 have d:(0:Int)<=(a:Int):=by omega
 unfold Instr.indexAt;simp only[asIntOf,Instr.sureAddr,pure_bind,Sem.run_bind,fZ l,Result.andThen_ok,Sem.run_pure,d,c,and_self,cX,lq m,ql,fL]
def dI{t b o l c:Nat}(a:Nat){i:Int}(d:a<l)(h:k (.pointer (some ⟨b,o+a,none⟩)) w)(e:i=(a:Nat):=by rfl)(f:ty t=some ⟨3,1,1,0⟩:=by rfl):iO V.prog (Instr.indexAt t (.slice (some ⟨b,o,none⟩) l c) (.int .i64 i)) w k:=
 fF a 1 d (by rw[ot];exact h) e f
def rC{t b o:Nat}(a n:Nat){i:Int}(c:a<n)(h:k (.pointer (some ⟨b,o+a,none⟩)) w)(d:i=(a:Nat):=by rfl)(e:ty t=some ⟨2,n,1,n⟩:=by rfl):iO V.prog (Instr.indexAt t (.pointer (some ⟨b,o,none⟩)) (.int .i64 i)) w k:=
 uF a 1 n c (by rw[ot];exact h) d e
def cD{t a:cg}{cs:Array Bool}{ad:Option Addr}{l c es:Nat}(h:k (.int .i64 l) w)(b:ty a=some ⟨3,1,es,0⟩:=by rfl):wY V.prog (builtin .len #[a] t cs #[.slice ad l c]) w k:=by
 obtain⟨e,d,_⟩:=rA b rfl;refine⟨_,w,?_,h⟩;have f:Sem.run V.prog (Builtin.len_ #[a] t #[.slice ad l c]) w=.ok (.int .i64 l) w:=by unfold Builtin.len_;simp only[IB,L8,Sem.run_bind,fZ d,Result.andThen_ok,Sem.run_pure];rfl
 unfold builtin;simp only[Sem.run_bind,f,Result.andThen_ok,Sem.run_pure]
def eu{b:Bool}(h:k (.bool (!b)) w):iO V.prog (Op.unary .not (.bool b)) w k:=⟨_,w,by go_simp,h⟩
section
variable{t:cg}{x y:dj}{m n:Int}{κ:IntKind}
def cq(h:k (.int .i64 (m+n)) w)(a: -9223372036854775808<=m+n/\m+n<=9223372036854775807:=by omega):iO V.prog (do eqGuard .add t x y (.int .i64 m) (.int .i64 n);binOp .add t (.int .i64 m) (.int .i64 n)) w k:=
 ⟨_,w,by go_simp;exact IntWalk.i64_in _ a,h⟩
def fx(h:k (.int .i64 (m-n)) w)(a: -9223372036854775808<=m-n/\m-n<=9223372036854775807:=by omega):iO V.prog (do eqGuard .sub t x y (.int .i64 m) (.int .i64 n);binOp .sub t (.int .i64 m) (.int .i64 n)) w k:=
 ⟨_,w,by go_simp;exact IntWalk.i64_in _ a,h⟩
def tE(h:k (.int .i64 (m*n)) w)(a: -9223372036854775808<=m*n/\m*n<=9223372036854775807:=by omega):iO V.prog (do eqGuard .mul t x y (.int .i64 m) (.int .i64 n);binOp .mul t (.int .i64 m) (.int .i64 n)) w k:=
 ⟨_,w,by go_simp;exact IntWalk.i64_in _ a,h⟩
def cV(h:k (.bool (decide (m<n))) w):iO V.prog (do eqGuard .lss t x y (.int κ m) (.int κ n);binOp .lss t (.int κ m) (.int κ n)) w k:=⟨_,w,by go_simp,h⟩
def sW(h:k (.bool (decide (m<=n))) w):iO V.prog (do eqGuard .leq t x y (.int κ m) (.int κ n);binOp .leq t (.int κ m) (.int κ n)) w k:=⟨_,w,by go_simp,h⟩
def ny(h:k (.bool (decide (n<m))) w):iO V.prog (do eqGuard .gtr t x y (.int κ m) (.int κ n);binOp .gtr t (.int κ m) (.int κ n)) w k:=⟨_,w,by go_simp,h⟩
def n6(h:k (.bool (decide (n<=m))) w):iO V.prog (do eqGuard .geq t x y (.int κ m) (.int κ n);binOp .geq t (.int κ m) (.int κ n)) w k:=⟨_,w,by go_simp,h⟩
def eh(h:k (.bool (decide (m=n))) w):iO V.prog (do eqGuard .eql t x y (.int κ m) (.int κ n);binOp .eql t (.int κ m) (.int κ n)) w k:=⟨_,w,by go_simp;rw[Bool.eq_iff_iff];simp,h⟩
def eG(h:k (.bool (decide (m≠n))) w):iO V.prog (do eqGuard .neq t x y (.int κ m) (.int κ n);binOp .neq t (.int κ m) (.int κ n)) w k:=⟨_,w,by go_simp;rw[Bool.eq_iff_iff];simp,h⟩
end
@[simp] def Zg (v:ce):one [v]=v:=rfl
@[simp] def Zh (u v:ce):one [u,v]=.tuple #[u,v]:=rfl
def rD{a:Array cg}{t:cg}{cs:Array Bool}{m n:Int}(h:k (.int .i64 (max m n)) w):wY V.prog (builtin .max a t cs #[.int .i64 m,.int .i64 n]) w k:=by
 refine⟨_,w,?_,h⟩;have b:Sem.run V.prog (Builtin.max_ a t #[.int .i64 m,.int .i64 n]) w=.ok (.int .i64 (max m n)) w:=by unfold Builtin.max_;simp only[List.foldlM_cons,List.foldlM_nil,Builtin.max2,pure_bind,Sem.run_pure];congr 2;show(if n>m then n else m)=_;omega
 unfold builtin;simp only[Sem.run_bind,b,Result.andThen_ok,Sem.run_pure]
def n7{t:cg}{a:Option Addr}{l c:Nat}(i:Nat){x:Int}(n:i<=c)(h:k (.slice a i c) w)(f:x=(i:Nat):=by rfl){es:Nat}(g:ty t=some ⟨3,1,es,0⟩:=by rfl):iO V.prog (Instr.sliceAt t (.slice a l c) none (some (.int .i64 x)) none) w k:=by
 subst f;obtain⟨e,j,m⟩:=rA g rfl;refine⟨_,w,?_,h⟩;have b:(i:Int)<=(c:Int):=by omega
 have d:(0:Int)<=(i:Int):=by omega
 unfold Instr.sliceAt Instr.slice;simp only[Sem.run_bind,fZ j,Result.andThen_ok,Instr.sliceBounds,Instr.sliceBound,asIntOf,pure_bind,d,b,and_self,cX,Sem.run_pure,lq m,ql,Nat.sub_zero];cases a<;>simp[Addr.add]
def fy(R:ce->cd->Prop):Ending->cd->Prop:=λe w=>∃v,e=.returned v/\R v w
def ck{f:cm}{args:List ce}{R:ce->cd->Prop}{pan:List PanicEntry->cd->Prop}(b:Calls V.prog f args.toArray w (fy R))(h:∀v w',R v w'->k v w')(a:∀xs w,Sem.run V.prog (callFunc f xs) w=.ok (.enter f xs) w:=by intro _ _;kernel_rfl):P9 V.prog f args w k pan:=by refine⟨a,b.mono ?_⟩;rintro e w' ⟨v,rfl,c⟩;exact h v w' c
end
def cS{f:cm}{args:List ce}{v0:ce}{w:cd}{k:ce->cd->Prop}{pan:List PanicEntry->cd->Prop}(b:Calls V.prog f args.toArray w (fy λv w'=>v=v0/\w'=w))(h:k v0 w)(a:∀xs w,Sem.run V.prog (callFunc f xs) w=.ok (.enter f xs) w:=by intro _ _;kernel_rfl):P9 V.prog f args w k pan:=
 ck b (λv w' c=>by obtain⟨rfl,rfl⟩:=c;exact h) a
def dq{f:cm}{args:List ce}{v0:ce}{w:cd}{k:ce->cd->Prop}{pan:List PanicEntry->cd->Prop}(c:Calls V.prog f args.toArray w (fy λv w'=>v=v0/\Ext w w'))(h:∀w',Ext w w'->k v0 w')(a:∀xs w,Sem.run V.prog (callFunc f xs) w=.ok (.enter f xs) w:=by intro _ _;kernel_rfl):P9 V.prog f args w k pan:=
 ck c (λv w' b=>by obtain⟨rfl,b⟩:=b;exact h _ b) a
def iR{b:Bool}{A B:Prop}(h:b=true)(k:A):(b=true->A)/\(b=false->B):=⟨λ_=>k,λa=>by rw[h]at a;cases a⟩
def iG{b:Bool}{A B:Prop}(h:b=false)(k:B):(b=true->A)/\(b=false->B):=⟨λa=>(by rw[h]at a;cases a),λ_=>k⟩
def ei{N b y c n:Nat}{f h z:Code}{l:L}{w:cd}{Q:QW}(d:Nat->L)(J:Nat->cd->Prop)(A:Sub (d 0) l/\J 0 w)
 (q:∀k w,k<=n->J k w->WC V.prog Hy N f (λe l' w'=>e=.normal/\lk l' c=some (.bool (decide ((k:Int)<(n:Int))))/\Sub (d k) l'/\J k w') (d k) w)
 (i:∀k w,k<n->J k w->WC V.prog Hy N (.seq (.block y h) z) (λe l' w'=>match e with
  | .normal=>Sub (d (k+1)) l'/\J (k+1) w'
  |e=>kJ b Q e l' w') (d k) w)
 (r:∀w,J n w->Q .normal (d n) w):kq V.prog N (Code.block b (Code.loop (f.seq ((Code.cond (.tmp c) Code.skip (Code.exit b)).seq ((Code.block y h).seq z))))) l w Q:=by
 refine⟨λa t=>?_⟩;refine wp_block ?_;refine pJ (λj a w=>∃k,k<=n/\j=n-k/\Fr N (d k) a/\J k w) n ⟨0,fN _,by omega,t.sub A.1,A.2⟩ ?_;rintro j a w ⟨k,C,rfl,t,D⟩;refine jU (lV (hZ jG _ _ _ a w t (q k w C D)) ?_);rintro e E w' ⟨l',m,rfl,F,B,s⟩;refine jU (wp_cond_split (m.at_ c _ F) (λG=>?_) λH=>?_);have u:k<n:=by simpa using G
 refine wp_skip ?_;refine lV (hZ jG _ _ _ E w' (m.sub B) (i k w' u s)) ?_;rintro e K M ⟨v,g,o⟩;cases e with
 |normal=>exact⟨n-(k+1),by omega,k+1,by omega,rfl,g.sub o.1,o.2⟩
 |exit j=>
  simp only[Exit.then,Exit.inBlock];by_cases p:j=b;subst p;rw[cx rfl];simp only[kJ,yA]at o;exact⟨v,g,o⟩;rw[cr p];have:Nat.beq j b=false:=by
   cases I:Nat.beq j b with
   |false=>rfl
   |true=>exact absurd (gE I) p
  simp only[kJ,this]at o;exact⟨v,g,o⟩
 |_=>exact⟨v,g,o⟩
 have x:k=n:=by
  have:¬k<n:=by simpa using H
  omega
 subst x;refine wp_exit ?_;simp only[Exit.then,Exit.inBlock,cX];exact⟨_,m.sub B,r w' s⟩
def gC{u:Type}{N b B c n:Nat}{f h C:Code}{l:L}{w:cd}{Q:QW}(d:Nat->u->L)(J:Nat->u->cd->Prop)(v:u)(D:Sub (d 0 v) l/\J 0 v w)
 (q:∀k s w,k<=n->J k s w->WC V.prog Hy N f (λe l' w'=>e=.normal/\lk l' c=some (.bool (decide ((k:Int)<(n:Int))))/\Sub (d k s) l'/\J k s w') (d k s) w)
 (i:∀k s w,k<n->J k s w->WC V.prog Hy N (.seq (.block B h) C) (λe l' w'=>match e with
  | .normal=>∃s',Sub (d (k+1) s') l'/\J (k+1) s' w'
  |e=>kJ b Q e l' w') (d k s) w)
 (r:∀s w,J n s w->Q .normal (d n s) w):kq V.prog N (Code.block b (Code.loop (f.seq ((Code.cond (Operand.tmp c) Code.skip (Code.exit b)).seq ((Code.block B h).seq C))))) l w Q:=by
 refine⟨λa x=>?_⟩;refine wp_block ?_;refine pJ (λj a w=>∃k s,k<=n/\j=n-k/\Fr N (d k s) a/\J k s w) n ⟨0,v,fN _,by omega,x.sub D.1,D.2⟩ ?_;rintro j a w ⟨k,s,F,rfl,x,G⟩;refine jU (lV (hZ jG _ _ _ a w x (q k s w F G)) ?_);rintro e H w' ⟨l',m,rfl,I,E,t⟩;refine jU (wp_cond_split (m.at_ c _ I) (λK=>?_) λM=>?_);have y:k<n:=by simpa using K
 refine wp_skip ?_;refine lV (hZ jG _ _ _ H w' (m.sub E) (i k s w' y t)) ?_;rintro e S T ⟨z,g,p⟩;cases e with
 |normal=>
  obtain⟨s',O,P⟩:=p;exact⟨n-(k+1),by omega,k+1,s',by omega,rfl,g.sub O,P⟩
 |exit j=>
  simp only[Exit.then,Exit.inBlock];by_cases o:j=b;subst o;rw[cx rfl];simp only[kJ,yA]at p;exact⟨z,g,p⟩;rw[cr o];have:Nat.beq j b=false:=by
   cases R:Nat.beq j b with
   |false=>rfl
   |true=>exact absurd (gE R) o
  simp only[kJ,this]at p;exact⟨z,g,p⟩
 |_=>exact⟨z,g,p⟩
 have A:k=n:=by
  have:¬k<n:=by simpa using M
  omega
 subst A;refine wp_exit ?_;simp only[Exit.then,Exit.inBlock,cX];exact⟨_,m.sub E,r s w' t⟩
def go{f:cm}{fn:Func}{c:Code}{xs:Array ce}{w:cd}{R:Ending->cd->Prop}{N:Nat}(b:V.prog.funcs[f]? =some fn)(d:fn.ntmps=N)(h:WC V.prog Hy N c (QR V.prog fn.results.toList R) (xs.toList.zipIdx.map λp=>(p.2,p.1)) w)
 (e:fn.body=some c:=by rfl)(a:Nat.ble xs.toList.length N=true:=by rfl):Calls V.prog f xs w R:=by
 have:=UI jG (args:=xs.toList) N b e d (sO a) h;simpa using this
def HE{f:cm}{xs:Array ce}{w:cd}{v:ce}{S:cd->Prop}(h:Calls V.prog f xs w λe w'=>e=.returned v/\S w'):Calls V.prog f xs w (fy λu w'=>u=v/\S w'):=h.mono λe w' h=>⟨v,h.1,rfl,h.2⟩
def fy.same{f:cm}{xs:Array ce}{w:cd}{v:ce}(h:Calls V.prog f xs w (fy λu w'=>u=v/\w'=w)):Calls V.prog f xs w (fy λu w'=>u=v/\Ext w w'):=h.mono λe w' ⟨v,h,a,b⟩=>⟨v,h,a,b▸Ext.refl _⟩
def fV{N id:Nat}{ops:Array Oper}{l:L}{w:cd}{Q:QW}{E E':cd->cd->Prop}(sp:Nat)(j:fw E)(f:fw E')(g:∀a b,E a b->E' a b)(h:DW V.prog Hy N (λc w'=>Q (.panic c) [] w') E E' sp ops.toList w l (λl w'=>Q .normal l w') 0 ops.toList [] (xe ops.toList l) [] [] [] [])(k:lN ops N (sV ops.toList)=true:=by kernel_rfl):
 kq V.prog N (.region id ops true) l w Q:=
 ⟨λa i=>Fx jG (λc a w m n o=>⟨[],⟨m,n.trans i.defers,λt v p=>by cases p⟩,o⟩) j f g (by kernel_rfl) k rfl i.b (λl r w e q=>⟨l,⟨e.b.size,e.d.trans i.defers,e.b.at_⟩,q⟩) h⟩
def cQ{N id:Nat}{ops:Array Oper}{l:L}{w:cd}{Q:QW}{E:cd->cd->Prop}(a:fw E)(h:DW V.prog Hy N (λc w'=>Q (.panic c) [] w') E E 1000 ops.toList w l (λl w'=>Q .normal l w') 0 ops.toList [] (xe ops.toList l) [] [] [] [])(b:lN ops N (sV ops.toList)=true:=by kernel_rfl):
 kq V.prog N (.region id ops true) l w Q:=fV 1000 a a (λ_ _ h=>h) h b
section
variable{E:cd->cd->Prop}{w:cd}{kx:ce->Prop}{kr kp kl:fW->Prop}{lb ea:Bool}
def dx{s:Sem ce}(v:ce)(h:∀w1,E w w1->iO V.prog s w1 λu a=>u=v/\E w1 a)(k:kx v):zr E E w (λw1 κ=>iO V.prog s w1 κ) kx kr kp lb kl ea:=.exact v h k
def VK{s:Sem Next}(v:ce)(h:∀w1,E w w1->wY V.prog s w1 λu a=>u=v/\E w1 a)(k:kx v):zr E E w (λw1 κ=>wY V.prog s w1 κ) kx kr kp lb kl ea:=.exact v h k
def je{f:cm}{args:List ce}{pan:List PanicEntry->cd->Prop}(v:ce)(b:∀w1,E w w1->Calls V.prog f args.toArray w1 (fy λu c=>u=v/\E w1 c))(k:kx v)(a:∀xs w,Sem.run V.prog (callFunc f xs) w=.ok (.enter f xs) w:=by intro _ _;kernel_rfl):zr E E w (λw1 κ=>P9 V.prog f args w1 κ pan) kx kr kp lb kl ea:=
 .exact v (λw1 e=>ck (b w1 e) (λ_ _ h=>h) a) k
def ia{f:cm}{args:List ce}{pan:List PanicEntry->cd->Prop}(c:fw E)(v:ce)(d:∀w1,E w w1->Calls V.prog f args.toArray w1 (fy λu b=>u=v/\b=w1))(k:kx v)(a:∀xs w,Sem.run V.prog (callFunc f xs) w=.ok (.enter f xs) w:=by intro _ _;kernel_rfl):zr E E w (λw1 κ=>P9 V.prog f args w1 κ pan) kx kr kp lb kl ea:=
 .exact v (λw1 e=>ck (d w1 e) (λu b h=>⟨h.1,by rw[h.2];exact c.refl _⟩) a) k
def cG{t:cg}{ad:Addr}{v:ce}(c0:w.cell? ad=some v)(k:kx v)(a:HB t=some false:=by rfl):zr Ext Ext w (λw1 κ=>iO V.prog (Instr.loadAt t (.pointer (some ad))) w1 κ) kx kr kp lb kl ea:=
 dx v (λw1 e=>cu (e.cell c0) ⟨rfl,Ext.refl _⟩ a) k
variable{t:cg}{x y:dj}{m n:Int}{κ:IntKind}
def rE{b:Bool}(h:kx (.bool (!b)))(a:fw E:=by first|exact cO|exact gu _):zr E E w (λw1 f=>iO V.prog (Op.unary .not (.bool b)) w1 f) kx kr kp lb kl ea:=
 dx _ (λw1 _=>eu ⟨rfl,a.refl _⟩) h
def zx(h:kx (.int .i64 (m+n)))(a: -9223372036854775808<=m+n/\m+n<=9223372036854775807:=by omega)(b:fw E:=by first|exact cO|exact gu _):zr E E w (λw1 f=>iO V.prog (do eqGuard .add t x y (.int .i64 m) (.int .i64 n);binOp .add t (.int .i64 m) (.int .i64 n)) w1 f) kx kr kp lb kl ea:=
 dx _ (λw1 _=>cq ⟨rfl,b.refl _⟩ a) h
def vX(h:kx (.int .i64 (m-n)))(a: -9223372036854775808<=m-n/\m-n<=9223372036854775807:=by omega)(b:fw E:=by first|exact cO|exact gu _):zr E E w (λw1 f=>iO V.prog (do eqGuard .sub t x y (.int .i64 m) (.int .i64 n);binOp .sub t (.int .i64 m) (.int .i64 n)) w1 f) kx kr kp lb kl ea:=
 dx _ (λw1 _=>fx ⟨rfl,b.refl _⟩ a) h
def Nq(h:kx (.int .i64 (m*n)))(a: -9223372036854775808<=m*n/\m*n<=9223372036854775807:=by omega)(b:fw E:=by first|exact cO|exact gu _):zr E E w (λw1 f=>iO V.prog (do eqGuard .mul t x y (.int .i64 m) (.int .i64 n);binOp .mul t (.int .i64 m) (.int .i64 n)) w1 f) kx kr kp lb kl ea:=
 dx _ (λw1 _=>tE ⟨rfl,b.refl _⟩ a) h
def RH(h:kx (.bool (decide (m<n))))(a:fw E:=by first|exact cO|exact gu _):zr E E w (λw1 f=>iO V.prog (do eqGuard .lss t x y (.int κ m) (.int κ n);binOp .lss t (.int κ m) (.int κ n)) w1 f) kx kr kp lb kl ea:=
 dx _ (λw1 _=>cV ⟨rfl,a.refl _⟩) h
def RI(h:kx (.bool (decide (m<=n))))(a:fw E:=by first|exact cO|exact gu _):zr E E w (λw1 f=>iO V.prog (do eqGuard .leq t x y (.int κ m) (.int κ n);binOp .leq t (.int κ m) (.int κ n)) w1 f) kx kr kp lb kl ea:=
 dx _ (λw1 _=>sW ⟨rfl,a.refl _⟩) h
def FB(h:kx (.bool (decide (n<m))))(a:fw E:=by first|exact cO|exact gu _):zr E E w (λw1 f=>iO V.prog (do eqGuard .gtr t x y (.int κ m) (.int κ n);binOp .gtr t (.int κ m) (.int κ n)) w1 f) kx kr kp lb kl ea:=
 dx _ (λw1 _=>ny ⟨rfl,a.refl _⟩) h
def Ja(h:kx (.bool (decide (m=n))))(a:fw E:=by first|exact cO|exact gu _):zr E E w (λw1 f=>iO V.prog (do eqGuard .eql t x y (.int κ m) (.int κ n);binOp .eql t (.int κ m) (.int κ n)) w1 f) kx kr kp lb kl ea:=
 dx _ (λw1 _=>eh ⟨rfl,a.refl _⟩) h
def RJ(h:kx (.bool (decide (m≠n))))(a:fw E:=by first|exact cO|exact gu _):zr E E w (λw1 f=>iO V.prog (do eqGuard .neq t x y (.int κ m) (.int κ n);binOp .neq t (.int κ m) (.int κ n)) w1 f) kx kr kp lb kl ea:=
 dx _ (λw1 _=>eG ⟨rfl,a.refl _⟩) h
def kK{t b o l c:Nat}(a es:Nat){i:Int}(d:a<l)(h:kx (.pointer (some ⟨b,o+a*es,none⟩)))(e:i=(a:Nat):=by rfl)(g:ty t=some ⟨3,1,es,0⟩:=by rfl)(j:fw E:=by first|exact cO|exact gu _):zr E E w (λw1 f=>iO V.prog (Instr.indexAt t (.slice (some ⟨b,o,none⟩) l c) (.int .i64 i)) w1 f) kx kr kp lb kl ea:=
 dx _ (λw1 _=>fF a es d ⟨rfl,j.refl _⟩ e g) h
def Jb{t b o:Nat}(a es n:Nat){c:Nat}{i:Int}(d:a<n)(h:kx (.pointer (some ⟨b,o+a*es,none⟩)))(e:i=(a:Nat):=by rfl)(g:ty t=some ⟨2,c,es,n⟩:=by rfl)(j:fw E:=by first|exact cO|exact gu _):zr E E w (λw1 f=>iO V.prog (Instr.indexAt t (.pointer (some ⟨b,o,none⟩)) (.int .i64 i)) w1 f) kx kr kp lb kl ea:=
 dx _ (λw1 _=>uF a es n d ⟨rfl,j.refl _⟩ e g) h
def me{t b o l c:Nat}(a:Nat){i:Int}(d:a<l)(h:kx (.pointer (some ⟨b,o+a,none⟩)))(e:i=(a:Nat):=by rfl)(g:ty t=some ⟨3,1,1,0⟩:=by rfl)(j:fw E:=by first|exact cO|exact gu _):zr E E w (λw1 f=>iO V.prog (Instr.indexAt t (.slice (some ⟨b,o,none⟩) l c) (.int .i64 i)) w1 f) kx kr kp lb kl ea:=
 dx _ (λw1 _=>dI a d ⟨rfl,j.refl _⟩ e g) h
def pM{t b o:Nat}(a n:Nat){i:Int}(c:a<n)(h:kx (.pointer (some ⟨b,o+a,none⟩)))(d:i=(a:Nat):=by rfl)(e:ty t=some ⟨2,n,1,n⟩:=by rfl)(g:fw E:=by first|exact cO|exact gu _):zr E E w (λw1 f=>iO V.prog (Instr.indexAt t (.pointer (some ⟨b,o,none⟩)) (.int .i64 i)) w1 f) kx kr kp lb kl ea:=
 dx _ (λw1 _=>rC a n c ⟨rfl,g.refl _⟩ d e) h
def jW{t a:cg}{cs:Array Bool}{ad:Option Addr}{l c es:Nat}(h:kx (.int .i64 l))(b:ty a=some ⟨3,1,es,0⟩:=by rfl)(d:fw E:=by first|exact cO|exact gu _):zr E E w (λw1 f=>wY V.prog (builtin .len #[a] t cs #[.slice ad l c]) w1 f) kx kr kp lb kl ea:=
 VK _ (λw1 _=>cD ⟨rfl,d.refl _⟩ b) h
end
def jX(n a b:Int):Bool:=decide (a<=n)&&decide (n<=b)
def ej(n a b:Int)(w:cd):Calls V.prog 106 #[.int .i64 n,.int .i64 a,.int .i64 b] w (fy λv w'=>v=.bool (jX n a b)/\w'=w):=by refine go V.func106 Tryz.ntmps106 ?_;refine sW ⟨λh=>sW ⟨_,rfl,?_,rfl⟩,λh=>⟨_,rfl,?_,rfl⟩⟩<;>simp[jX,h]
def uG(l:List Nat)(k:Nat):Nat:=if k=0 then 0 else l.getD (k-1) 0+1
def tF(W:Nat->Nat->Int)(l:List Nat):Nat->Int
 |0=>0
 |k+1=>tF W l k+W (uG l k) (l.getD k 0+1)
def pN(W:Nat->Nat->Int)(l:List Nat):Int:=tF W l l.length+W (uG l l.length) 0
def Nr{l:List Nat}(h:∀d∈l,d<5)(k:Nat)(b:k<=l.length):uG l k<6:=by
 unfold uG;split;omega;have a:k-1<l.length:=by omega
 have:=h _ (dt a);rw[gU,ew a];simp only[kC];omega
theorem ye{W:Nat->Nat->Int}(a:∀i j,0<=W i j/\W i j<=1000)(l:List Nat):∀k,0<=tF W l k/\tF W l k<=1000*k
 |0=>by simp[tF]
 |k+1=>by have b:=ye a l k;have c:=a (uG l k) (l.getD k 0+1);simp only[tF];omega
def pO{W:Nat->Nat->Int}(a:∀i j,0<=W i j/\W i j<=1000)(l:List Nat):0<=pN W l/\pN W l<=1000*l.length+1000:=by have b:=ye a l l.length;have c:=a (uG l l.length) 0;unfold pN;omega
def tG(W:Nat->Nat->Int)(a:Int)(l:List Nat):Int:=pN W l+(l.length:Int)*a
def getD_eq{α:Type}{l:List α}{k:Nat}{d:α}(h:k<l.length):l.getD k d=l[k]:=by rw[gU,ew h];rfl
def zy(g:Nat)(W:Nat->Nat->Int)(l:List Nat)(la:Option Addr)(lc:Nat)(w:cd)(a:∀i j,i<6->j<6->w.cell? ⟨g,7+i*6+j,none⟩=some (.int .i64 (W i j)))(m:∀i j,0<=W i j/\W i j<=1000) (p:∀d∈l,d<5)(q:l.length<=100000)(e:∀k (h:k<l.length),∃b o,la=some ⟨b,o,none⟩/\w.cell? ⟨b,o+k,none⟩=some (.int .i64 l[k])):
 Calls V.prog 161 #[.pointer (some ⟨g,0,none⟩),.slice la l.length lc] w (fy λv w'=>v=.int .i64 (pN W l)/\w'=w):=by
 have r:=ye m l;refine go V.func161 Tryz.ntmps161 ?_;refine cD (ei (n:=l.length) (λk=>[(0,.pointer (some ⟨g,0,none⟩)),(9,.slice la l.length lc),(10,.int .i64 l.length),(11,.int .i64 k),(5,.int .i64 (tF W l k)),(6,.int .i64 (uG l k))]) (λ_ w'=>w'=w) ?_ ?_ ?_ ?_);exact⟨⟨rfl,rfl,rfl,rfl,rfl,rfl,trivial⟩,rfl⟩;rintro k w' f rfl;exact cV ⟨rfl,rfl,⟨rfl,rfl,rfl,rfl,rfl,rfl,trivial⟩,rfl⟩;rintro k w' f rfl;obtain⟨b,o,rfl,t⟩:=e k f;have y:=p _ (dt f);have c:=Nr p k (by omega);have u:=r k;have x:=m (uG l k) (l[k]+1);refine dI k f (cu t (cq (uF (uG l k) 6 6 c (rC (l[k]+1) 6 (by omega) (cu (a _ (l[k]+1) c (by omega)) (cq (cq (cq ?_))))))));have s:l.getD k 0=l[k]:=getD_eq f;refine⟨⟨rfl,rfl,rfl,rfl,?_,?_,trivial⟩,rfl⟩;show _=some (Value.int .i64 (tF W l k+W (uG l k) (l.getD k 0+1)));rw[s];rfl;show _=some (Value.int .i64 ((l.getD k 0+1:Nat):Int));rw[s];rfl;rintro w' rfl;have c:=Nr p l.length (cz _);have u:=r l.length;have x:=m (uG l l.length) 0;exact uF (uG l l.length) 6 6 c (rC 0 6 (by omega) (cu (a _ 0 c (by omega)) (cq ⟨_,rfl,rfl,rfl⟩)))
def Kk(m:Nat)(W:Nat->Nat->Int)(n:Int)(l:List Nat)(la:Option Addr)(lc:Nat)(w:cd)(p:w.cell? ⟨m,2,none⟩=some (.int .i64 n))(a:∀i j,i<6->j<6->w.cell? ⟨m,7+i*6+j,none⟩=some (.int .i64 (W i j)))(q:∀i j,0<=W i j/\W i j<=1000) (u:∀d∈l,d<5)(c:l.length<=100000)(f:∀k (h:k<l.length),∃b o,la=some ⟨b,o,none⟩/\w.cell? ⟨b,o+k,none⟩=some (.int .i64 l[k]))(g:0<=n/\n<=1000):
 Calls V.prog 114 #[.pointer (some ⟨m,0,none⟩),.slice la l.length lc] w (fy λv w'=>v=.int .i64 (tG W n l)/\Ext w w'):=by
 have r:=pO q l;have s:=Int.mul_le_mul_of_nonneg_left g.2 (Int.natCast_nonneg l.length);have z:=yx (Int.natCast_nonneg l.length) g.1;refine go V.func114 Tryz.ntmps114 ?_;refine cQ cO ?_;refine ia cO _ (λt e=>zy m W l la lc t (λi j x y=>e.cell (a i j x y)) q u c λk h=>by obtain⟨b,o,r,s⟩:=f k h;exact⟨b,o,r,e.cell s⟩) (jW (cG p (Nq (zx λt e=>⟨_,rfl,rfl,e⟩))))
def l5(a b:Int):Int:=max (a-b) (b-a)
def Jc(a b:Int)(w:cd)(c:0<=a/\a<=1000000)(d:0<=b/\b<=1000000):Calls V.prog 178 #[.int .i64 a,.int .i64 b] w (fy λv w'=>v=.int .i64 (l5 a b)/\w'=w):=by refine go V.func178 Tryz.ntmps178 ?_;exact fx (fx (rD ⟨_,rfl,rfl,rfl⟩))
def HF(b:Nat)(n T:Int)(w:cd)(a:w.cell? ⟨b,5,none⟩=some (.int .i64 T)):Calls V.prog 179 #[.int .i64 n,.pointer (some ⟨b,0,none⟩)] w (fy λv w'=>v=.bool (decide (T<=n))/\w'=w):=by refine go V.func179 Tryz.ntmps179 ?_;exact cu a (n6 ⟨_,rfl,rfl,rfl⟩)
def HG(b:Nat)(m n T:Int)(w:cd)(c:w.cell? ⟨b,5,none⟩=some (.int .i64 T)):Calls V.prog 180 #[.int .i64 m,.int .i64 n,.pointer (some ⟨b,0,none⟩)] w (fy λv w'=>v=.bool (decide (T<2)||(decide (0<m)&&decide (0<n)))/\w'=w):=by refine go V.func180 Tryz.ntmps180 ?_;refine cu c (cV ⟨λh=>?_,λh=>?_⟩);exact⟨_,rfl,by simp[h],rfl⟩;refine ny ⟨λa=>ny ⟨_,rfl,by simp[h,a],rfl⟩,λa=>⟨_,rfl,by simp[h,a],rfl⟩⟩
def Ns(a:Nat)(D:Int)(w:cd)(b:w.cell? ⟨a,4,none⟩=some (.int .i64 D))(c:0<=D/\D<=1000):Calls V.prog 107 #[.pointer (some ⟨a,0,none⟩)] w (fy λv w'=>v=.int .i64 (2*D-1)/\w'=w):=by refine go V.func107 Tryz.ntmps107 ?_;exact cu b (tE (fx ⟨_,rfl,rfl,rfl⟩))
def ja(w:cd)(a:Option Addr)(l:List Int):Prop:=∀k (h:k<l.length),∃b o,a=some ⟨b,o,none⟩/\w.cell? ⟨b,o+k,none⟩=some (.int .i64 l[k])
def ja.ext{w w':cd}{a:Option Addr}{l:List Int}(h:ja w a l)(e:Ext w w'):ja w' a l:=λk c=>by obtain⟨b,o,d,f⟩:=h k c;exact⟨b,o,d,e.cell f⟩
theorem ja.take{w:cd}{a:Option Addr}{l:List Int}(h:ja w a l)(i:Nat):ja w a (l.take i):=λk d=>by
 have c:k<l.length:=by simp at d;omega
 obtain⟨b,o,e,f⟩:=h k c;exact⟨b,o,e,by rw[f];simp⟩
def A6(x:Int):List Int->Nat->Int
 |[],_=> -1
 |y::r,i=>if x=y then i else A6 x r (i+1)
def Kl(x:Int)(l:List Int)(k:Nat)(a:k<l.length):A6 x (l.drop k) k=if x=l[k]then(k:Int)else A6 x (l.drop (k+1)) (k+1):=by rw[qH a];rfl
def Km(l:List Int)(x:Int)(la:Option Addr)(lc:Nat)(w:cd)(e:ja w la l)(d:l.length<=100000):Calls V.prog 176 #[.slice la l.length lc,.int .i64 x] w (fy λv w'=>v=.int .i64 (A6 x l 0)/\w'=w):=by
 refine go V.func176 Tryz.ntmps176 ?_;refine cD (ei (n:=l.length) (λk=>[(0,.slice la l.length lc),(1,.int .i64 x),(7,.int .i64 l.length),(8,.int .i64 k)]) (λk w'=>w'=w/\A6 x l 0=A6 x (l.drop k) k) ⟨⟨rfl,rfl,rfl,rfl,trivial⟩,rfl,rfl⟩ ?_ ?_ ?_);rintro k w' c ⟨rfl,a⟩;exact cV ⟨rfl,rfl,⟨rfl,rfl,rfl,rfl,trivial⟩,rfl,a⟩;rintro k w' c ⟨rfl,a⟩;obtain⟨b,o,rfl,f⟩:=e k c;rw[Kl x l k c]at a;refine dI k c (cu f (eh ⟨λh=>?_,λh=>?_⟩));have h:x=l[k]:=by simpa using h
 exact⟨_,rfl,by rw[a,cx h];rfl,rfl⟩;have h:¬x=l[k]:=by simpa using h
 rw[cr h]at a;exact cq ⟨⟨rfl,rfl,rfl,rfl,trivial⟩,rfl,a⟩;rintro w' ⟨rfl,a⟩;exact⟨_,rfl,by rw[a];simp[A6],rfl⟩
structure Dr where
 st:Int
 at_:Int
 talk:Int
structure Gd where
 streets:Int
 corner:Int
 knock:Int
 minutes:Int
 days:Int
 tries:Int
 doors:List Dr
def dL(d:Dr):List ce:=[.int .i64 d.st,.int .i64 d.at_,.int .i64 d.talk]
def gD(w:cd)(a:Option Addr)(l:List Dr):Prop:=∀k (h:k<l.length),∃b o,a=some ⟨b,o,none⟩/\w.cell? ⟨b,o+k*3,none⟩=some (.int .i64 l[k].st)/\w.cell? ⟨b,o+k*3+1,none⟩=some (.int .i64 l[k].at_)/\w.cell? ⟨b,o+k*3+2,none⟩=some (.int .i64 l[k].talk)
def gD.ext{w w':cd}{a:Option Addr}{l:List Dr}(h:gD w a l)(e:Ext w w'):gD w' a l:=λk c=>by obtain⟨b,o,d,f,g,i⟩:=h k c;exact⟨b,o,d,e.cell f,e.cell g,e.cell i⟩
def gL(G:Gd)(a:Option Addr)(dc:Nat):List ce:=[.int .i64 G.streets,.int .i64 G.corner,.int .i64 G.knock,.int .i64 G.minutes,.int .i64 G.days,.int .i64 G.tries,.slice a G.doors.length dc]
def gV(G:Gd)(a:Option Addr)(dc:Nat):ce:=.agg (gL G a dc).toArray
def pg(G:Gd):Bool:=jX G.streets 1 3&&(jX G.corner 1 9&&(jX G.knock 1 5&&(jX G.minutes 1 90&&(jX G.days 1 3&&jX G.tries 1 G.days))))
def rF(n:Int)(d:Dr):Int:=if jX d.st 0 (n-1)then(if jX d.at_ 0 20&&jX d.talk 1 9 then 0 else 1)else 3
def nz(n:Int):List Dr->Int
 |[]=>0
 |d::r=>if rF n d=0 then nz n r else rF n d
def eg(G:Gd):Int:=if pg G then(if(5:Int)<G.doors.length then 6 else nz G.streets G.doors)else 1
def FC(n:Int)(l:List Dr)(k:Nat)(a:k<l.length):nz n (l.drop k)=if rF n l[k]=0 then nz n (l.drop (k+1))else rF n l[k]:=by rw[qH a];rfl
theorem Ko        (G : Gd) (da : Option Addr) (dc : Nat) (w : World) (hd : gD   w da G.doors) (hlen : G.doors.length ≤ 100000) (hs : -1000000 ≤ G.streets ∧ G.streets ≤ 1000000) : Calls V.prog 146 #[gV G da dc] w (fy  fun v w' => v = .int .i64 (eg     G) ∧ Ext w w') := by
  refine go V.func146 Tryz.ntmps146 ?_
  refine fo    fun w1 gb e1 WJ  hb => ?_
  have bad : ∀ {b : Bool}, pg    G = false → ∃ v, Ending.returned (one [Value.int .i64 1]) = .returned v ∧ v = Value.int .i64 (eg     G) ∧ Ext w w1 := fun h => ⟨_, rfl, by simp [eg,     h], e1⟩
  refine cu    (ci    hb rfl) (cS       (ej          _ _ _ _) (eu     ⟨fun h => iR  h (bad (b := true) (by simp at h; simp [pg,    h])), fun h1 => ?_⟩))
  refine cu    (ci    hb rfl) (cS       (ej          _ _ _ _) (eu     ⟨fun h => iR  h (bad (b := true) (by simp at h; simp [pg,    h])), fun h2 => ?_⟩))
  refine cu    (ci    hb rfl) (cS       (ej          _ _ _ _) (eu     ⟨fun h => iR  h (bad (b := true) (by simp at h; simp [pg,    h])), fun h3 => ?_⟩))
  refine cu    (ci    hb rfl) (cS       (ej          _ _ _ _) (eu     ⟨fun h => iR  h (bad (b := true) (by simp at h; simp [pg,    h])), fun h4 => ?_⟩))
  refine cu    (ci    hb rfl) (cS       (ej          _ _ _ _) (eu     ⟨fun h => iR  h (bad (b := true) (by simp at h; simp [pg,    h])), fun h5 => ?_⟩))
  refine cu    (ci    hb rfl) (cu    (ci    hb rfl) (cS       (ej          _ _ _ _) (eu     ⟨fun h => (bad (b := true) (by simp at h; simp [pg,    h])), fun h6 => ?_⟩)))
  have hh : pg    G = true := by simp at h1 h2 h3 h4 h5 h6; simp [pg,    *]
  refine cu    (ci    hb rfl) (cD     (ny    ⟨fun h => ⟨_, rfl, by simp at h; simp [eg,     hh, h], e1⟩, fun h7 => ?_⟩))
  have h7 : ¬ (5 : Int) < G.doors.length := by simpa using h7
  have Zi  : eg     G = nz     G.streets G.doors := by simp [eg,     hh, h7]
  refine cu    (ci    hb rfl) (cD     (ei       (n := G.doors.length) (fun k => [(1, .pointer (some ⟨gb, 0, none⟩)), (38, .slice da G.doors.length dc), (39, .int .i64 G.doors.length), (40, .int .i64 k)]) (fun k w' => Ext w1 w' ∧ eg     G = nz     G.streets (G.doors.drop k)) ⟨⟨rfl, rfl, rfl, rfl, trivial⟩, Ext.refl _, by rw [Zi];  rfl⟩ ?_ ?_ ?_))
  · rintro k w' hk ⟨e, hi⟩
    exact cV    ⟨rfl, rfl, ⟨rfl, rfl, rfl, rfl, trivial⟩, e, hi⟩
  · rintro k w' hk ⟨e, hi⟩
    obtain ⟨b, o, rfl, ha, xJ,  hc⟩ := (hd.ext (e1.trans e)) k hk
    rw [FC          _ _ k hk] at hi
    refine fF     k 3 hk (dP     (vs := dL G.doors[k]) (fun j v hj => ?_) (eF    fun w2 db e2 X7  Zj  => cZ    Zj  fun w3 k3 WL  => ?_))
    · match j, hj with
      | 0, hj => cases hj; exact ha
      | 1, hj => cases hj; exact xJ
      | 2, hj => cases hj; exact hc
    · have e3 : Ext w1 w3 := (e.trans e2).cy        k3 (Nat.le_trans e.size X7)
      have S9  := e3.at_ hb
      refine cu    (ci    WL  rfl) (cu    (ci    S9  rfl) (fx     (cS       (ej          _ _ _ _) (eu     ⟨fun h => ?_, fun h1 => ?_⟩))))
      · exact ⟨_, rfl, by simp at h; rw [hi]; simp [rF,    h], e1.trans e3⟩
      · simp at h1
        refine cu    (ci    WL  rfl) (cS       (ej          _ _ _ _) (eu     ⟨fun h => iR  h ?_, fun h2 => ?_⟩))
        · exact ⟨_, rfl, by simp at h; rw [hi]; simp [rF,    h1, h], e1.trans e3⟩
        · simp at h2
          refine cu    (ci    WL  rfl) (cS       (ej          _ _ _ _) (eu     ⟨fun h => ?_, fun h3 => ?_⟩))
          · exact ⟨_, rfl, by simp at h; rw [hi]; simp [rF,    h1, h], e1.trans e3⟩
          · simp at h3
            exact cq     ⟨⟨rfl, rfl, rfl, rfl, trivial⟩, e3, by rw [hi]; simp [rF,    h1, h2, h3]⟩
  · rintro w' ⟨e, hi⟩
    exact ⟨_, rfl, by rw [hi]; simp [nz],     e1.trans e⟩
section
variable{w:cd}{k:ce->cd->Prop}
def RL{t:cg}(h:∀w' a,Ext w w'->w.heap.size<=a->w'.heap[a]? =some (.map #[] 0)->k (.map (some a)) w'):iO V.prog (Instr.makeMap t none) w k:=
 ⟨_,_,run_makeMap t w,h _ w.heap.size (Ext.alloc _ _) (cz _) (eU _ _)⟩
def dA{s:Sem ce}(v:ce)(h:k v w)(a:∀w,Sem.run V.prog s w=.ok v w:=by intro _;kernel_rfl):iO V.prog s w k:=⟨v,w,a w,h⟩
def dJ{t:cg}{n:Nat}{a:Array (Nat×ce)}(cs:List ce)(e:cg)(h:∀w' b,Ext w w'->w.heap.size<=b->w'.heap[b]? =some (.cells cs.toArray e)->k (.slice (some ⟨b,0,none⟩) n n) w')
 (c:∀w,Sem.run V.prog (Instr.buildSlice t n a) w=.ok (.slice (some ⟨w.heap.size,0,none⟩) n n) (w.alloc (.cells cs.toArray e)):=by intro _;kernel_rfl):iO V.prog (Instr.buildSlice t n a) w k:=
 ⟨_,_,c w,h _ w.heap.size (Ext.alloc _ _) (cz _) (eU _ _)⟩
def FD(a e:cg)(zs:List ce):Prop:=V.prog.underlying a=some (.slice e)/\∃i z,V.prog.info? e=some i/\i.zero=some z/\z.cells=zs.toArray/\i.size=zs.length/\i.bytes<=256/\0<zs.length
def Tb:FD 22 81 [.int .i64 0,.int .i64 0,.int .i64 0]:=⟨by kernel_rfl,Tryz.t81,_,by kernel_rfl,rfl,by kernel_rfl,by kernel_rfl,by decide+kernel,by decide⟩
def oG:FD 27 3 [.int .i64 0]:=⟨by kernel_rfl,Tryz.t3,_,by kernel_rfl,rfl,by kernel_rfl,by kernel_rfl,by decide+kernel,by decide⟩
def Nt:FD 66 27 [.slice none 0 0]:=⟨by kernel_rfl,Tryz.t27,_,by kernel_rfl,rfl,by kernel_rfl,by kernel_rfl,by decide+kernel,by decide⟩
def zz{n t e:cg}{zs:List ce}{q:Array Bool}(r:FD n e zs){n0:Nat}{v:ce}{d:Nat}{p:List ce}(h:cA n0 e zs w v d p)(o:n0<=w.heap.size){a:Addr}{m c:Nat}{news:List ce}(s:news.length=m*zs.length)(x:0<m) (f:∀j u,news[j]? =some u->w.cell? (a.add j)=some u)(y:∀u∈news,u.oneCell'=true)(l:d+m<=1000000) (A:∀g w',cA n0 e zs w' g (d+m) (p++news)->cN (cw v) w w'->(∀b,cw g b->cw v b\/w.heap.size<=b)->k g w'):wY V.prog (builtin .append #[n,n] t q #[v,.slice (some a) m c]) w k:=by obtain⟨B,i,z,C,D,E,F,G,H⟩:=r;obtain⟨g,w',I,J,K,L⟩:=Hs (ty:=t) B C D E F G H h o (c:=c) s x f y l;refine⟨g,w',?_,A g w' J K L⟩;unfold builtin;simp only[Sem.run_bind,I,Result.andThen_ok,Sem.run_pure]
def fP{g t e:cg}{zs:List ce}{n:Array Bool}(o:FD g e zs){n0:Nat}{v:ce}{d:Nat}{m:List ce}(h:cA n0 e zs w v d m)(i:n0<=w.heap.size){b c:Nat}{news:List ce}{a:cg}(p:w.heap[b]? =some (.cells news.toArray a))(f:d+1<=1000000)
 (q:∀l w',cA n0 e zs w' l (d+1) (m++news)->cN (cw v) w w'->(∀b,cw l b->cw v b\/w.heap.size<=b)->k l w')(r:Nat.beq news.length zs.length=true:=by rfl)(s:qC news=true:=by rfl):wY V.prog (builtin .append #[g,g] t n #[v,.slice (some ⟨b,0,none⟩) 1 c]) w k:=
 zz o h i (by rw[Nat.one_mul];exact gE r) (by omega) (λj u x=>by rw[fL,cB];exact ci p (by simpa using x)) (fU s) f q
def uH{d t e:cg}{zs:List ce}{j:Array Bool}(m:FD d e zs){a b:Option Addr}{l c c':Nat}(n:l<=c)(h:k (.slice a l c) w):wY V.prog (builtin .append #[d,d] t j #[.slice a l c,.slice b 0 c']) w k:=by
 obtain⟨f,i,z,g,q,r,s,u,v⟩:=m;refine⟨_,w,?_,h⟩;rw[V.sR]at f;rw[V.IE]at g;have o:Sem.run V.prog (sizeOf e) w=.ok i.size w:=Hz g w;have p:Sem.run V.prog (Builtin.append_ #[d,d] t #[.slice a l c,.slice b 0 c']) w=.ok (.slice a l c) w:=by unfold Builtin.append_;simp only[IB,L8,Be,Sem.run_bind,fZ f,Result.andThen_ok,o,Sem.run_pure];simp only[iq,eo,Builtin.lenOf,Sem.run_pure,Result.andThen_ok,mT,n,cX,Bool.not_false];cases b<;>cases a<;>simp[Builtin.firstCells,loadCells,loadCellsFrom,storeCells,Sem.run_bind,Sem.run_pure]<;>(intro h;omega)
 unfold builtin;simp only[Sem.run_bind,p,Result.andThen_ok,Sem.run_pure]
end
def dH(G:Gd):List Dr:=⟨0,0,0⟩::G.doors
def vY(c:Int)(a b:Dr):Int:=if a.st=b.st then l5 a.at_ b.at_ else a.at_+b.at_+c*l5 a.st b.st
def jK(G:Gd)(i j:Nat):Int:=match(dH G)[i]?,(dH G)[j]? with
 |some a,some b=>vY G.corner a b
 |_,_=>0
def RM(f a:Nat):ce:=.func (.func f) #[] #[.pointer (some ⟨a,0,none⟩)]
def FE(G:Gd)(a:Option Addr)(dc mk ms:Nat)(b c:ce)(f:Nat->Nat->Int)(j:Nat):ce:=
 if j<7 then(gL G a dc).getD j undef else if j<43 then .int .i64 (f ((j-7)/6) ((j-7)%6))else if j=43 then .map (some mk)else if j=44 then .map (some ms)else if j=45 then b else c
structure nA(gp:Nat)(C:Nat->ce)(w:cd):Prop where
 out:∃cs,w.heap[gp]? =some (.cells cs 186)/\cs.size=47/\∀j,j<47->cs[j]? =some (C j)
def nA.cell{a:Nat}{C:Nat->ce}{w:cd}(h:nA a C w)(j:Nat)(b:j<47:=by omega):w.cell? ⟨a,j,none⟩=some (C j):=by obtain⟨e,c,f,d⟩:=h.out;exact ci c (d j b)
def nA.ext{a:Nat}{C:Nat->ce}{w w':cd}(h:nA a C w)(e:Ext w w'):nA a C w':=by obtain⟨b,c,d,f⟩:=h.out;exact⟨b,e.at_ c,d,f⟩
def nA.mono{a:Nat}{C b:Nat->ce}{w:cd}(h:nA a C w)(e:∀j,j<47->C j=b j):nA a b w:=by obtain⟨d,f,g,i⟩:=h.out;exact⟨d,f,g,λj c=>by rw[i j c,e j c]⟩
theorem nB:∀(vs:List ce) (cs:Array ce) (o j:Nat),o+vs.length<=cs.size->(fT cs o vs)[j]? =if o<=j/\j<o+vs.length then vs[j-o]? else cs[j]?
 |[],cs,o,j,_=>by simp[fT];omega
 |v::r,cs,o,j,h=>by simp only[dW]at h;have c:=nB r (cs.setIfInBounds o v) (o+1) j (by simp;omega);simp only[fT,c,dW];by_cases a:o+1<=j/\j<o+1+r.length;rw[cx a,cx (by omega)];rw[show j-o=(j-(o+1))+1 by omega];simp;rw[cr a];by_cases b:o=j;subst b;rw[cx (by omega),jE (by omega)];simp;rw[cr (by omega),eY b]
theorem n8:∀(vs:List ce) (cs:Array ce) (o:Nat),(fT cs o vs).size=cs.size
 |[],_,_=>rfl
 |v::r,cs,o=>by rw[fT,n8 r];simp
def Nu{w:cd}{s:cd->Prop}{a:Nat}{C:Nat->ce}(h:nA a C w){t:cg}{o:Nat}{v:ce}(m:o+v.cells.size<=47)(b:∀w',cN (λx=>x=a) w w'->nA a (λj=>if o<=j/\j<o+v.cells.size then v.cells.toList.getD (j-o) undef else C j) w'->s w')
 (c:qC v.cells.toList=true:=by rfl)(d:RG t=some v.cells.size:=by rfl):DR V.prog (Instr.storeAt t (.pointer (some ⟨a,o,none⟩)) v) w s:=by
 obtain⟨n,e,f,g⟩:=h.out;refine iA e (by omega) (λw' k i=>b w' k ⟨_,i,by rw[n8];exact f,λj l=>?_⟩) (fU c) d;rw[nB _ _ _ _ (by simp;omega)];simp only[Array.length_toList];split;rename_i p;have:j-o<v.cells.toList.length:=by simp;omega
 rw[gU,ew this];rfl;exact g j l
structure oR(gp mk ms:Nat)(G:Gd)(w:cd):Prop where
 at_:∃da dc gb,nA gp (FE G da dc mk ms (RM 179 gb) (RM 180 gb) (jK G)) w/\gD w da G.doors/\w.cell? ⟨gb,5,none⟩=some (.int .i64 G.tries)
 ok:eg G=0
 mlt:mk<w.heap.size
 slt:ms<w.heap.size
 ne:mk≠ms
 gk:gp≠mk/\gp≠ms
theorem oR.ext{gp mk ms:Nat}{G:Gd}{w w':cd}(h:oR gp mk ms G w)(e:Ext w w'):oR gp mk ms G w':=by obtain⟨a,b,c,d,f,g⟩:=h.at_;exact⟨⟨a,b,c,d.ext e,f.ext e,e.cell g⟩,h.ok,dl h.mlt e.size,dl h.slt e.size,h.ne,h.gk⟩
structure Gd.Ok(G:Gd):Prop where
 streets:1<=G.streets/\G.streets<=3
 corner:1<=G.corner/\G.corner<=9
 knock:1<=G.knock/\G.knock<=5
 minutes:1<=G.minutes/\G.minutes<=90
 days:1<=G.days/\G.days<=3
 tries:1<=G.tries/\G.tries<=G.days
 many:G.doors.length<=5
 door:∀d∈G.doors,(0<=d.st/\d.st<=2)/\(0<=d.at_/\d.at_<=20)/\1<=d.talk/\d.talk<=9
theorem BJ{n:Int}(c:n<=3):∀{l:List Dr},nz n l=0->∀d∈l,(0<=d.st/\d.st<=2)/\(0<=d.at_/\d.at_<=20)/\1<=d.talk/\d.talk<=9
 |x::r,h,d,b=>by simp only[nz]at h;split at h;rename_i a;rcases eQ.1 b with rfl|b;simp only[rF]at a;split at a;split at a;rename_i e f;simp[jX]at e f;omega;omega;omega;exact BJ c h d b;rename_i a;exact absurd h a
def ek{G:Gd}(h:eg G=0):G.Ok:=by simp only[eg]at h;split at h;rename_i a;split at h;omega;rename_i b;simp[pg,jX]at a;refine⟨by omega,by omega,by omega,by omega,by omega,by omega,by omega,BJ (by omega) h⟩;omega
def mq{G:Gd}(h:G.Ok)(i j:Nat):0<=jK G i j/\jK G i j<=1000:=by
 have f:∀d∈dH G,(0<=d.st/\d.st<=2)/\(0<=d.at_/\d.at_<=20):=λd c=>by rcases eQ.1 c with rfl|c;simp;exact⟨(h.door d c).1,(h.door d c).2.1⟩
 unfold jK;split;rename_i a b g k;have m:=f a (nR g);have n:=f b (nR k);have l:=h.corner;unfold vY;split;unfold l5;omega;have e:0<=l5 a.st b.st/\l5 a.st b.st<=2:=by unfold l5;omega
 have:=Int.mul_le_mul l.2 e.2 e.1 (by omega);have:=yx (show 0<=G.corner by omega) e.1;omega;omega
end Go.Proofs.W
