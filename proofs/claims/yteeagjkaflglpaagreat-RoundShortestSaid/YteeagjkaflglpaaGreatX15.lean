/- Laws that the proof needs, part 15. Conditions: none. -/
import Derived.Test.YteeagjkaflglpaaGreatX14
set_option maxRecDepth 100000
set_option maxHeartbeats 8000000
set_option linter.all false
namespace Go.Proofs.W
open Go.RowKit
def Nh:List (Nat×List Nat):=[(24,[0,1,2,3,4,5,6]),(29,[0,1]),(56,[0,1]),(81,[0,1,2]),(84,[0,1,2]),(101,[0,1,2,3]),(121,[0,1,2]),(125,[0,1,2,3,4]),(141,[0,1,2]),(166,[0,1,2,3,4,7]),(173,[0,1,2,3,4]),(184,[0,1]),(186,[0,7,43,44,45]),(199,[0,1,2,3]),(207,[0,1,2,3]),(220,[0,1]),(245,[0,1,2,8]),(247,[0,1])]
def Ir:List (Nat×List Nat)->Nat->Nat->Option Nat
 |[],_,_=>none
 |p::r,S,i=>match Nat.beq p.1 S with
  |true=>nth p.2 i
  |false=>Ir r S i
def AU:uY:=⟨Ir Nh⟩
noncomputable def B6(p:Nat×List Nat):Bool:=match Tryz.prog.underlying p.1 with
 |some (.struct a)=>(List.range p.2.length).all λi=>match nth p.2 i,a[i]? with
  |some d,some f=>f.offset==d&&(match Tryz.prog.info? f.type with
   |some x=>x.size !=0
   |none=>false)
  |_,_=>false
 |_=>false
theorem OO:Nh.all B6=true:=by kernel_rfl
theorem yP:∀(l:List (Nat×List Nat)) (S i d:Nat),Ir l S i=some d->∃p∈l,p.1=S/\nth p.2 i=some d
 |p::r,S,i,d,h=>by
  simp only[Ir]at h;split at h
  ·rename_i a;exact⟨p,List.mem_cons_self,Nat.eq_of_beq_eq_true a,h⟩
  ·obtain⟨q,b,c⟩:=yP r S i d h;exact⟨q,List.mem_cons_of_mem _ b,c⟩
theorem FW{α:Type}:∀{l:List α} {i:Nat} {d:α},nth l i=some d->i<l.length
 |_::_,0,_,_=>Nat.succ_pos _
 |_::r,n+1,_,h=>Nat.succ_lt_succ (FW (l:=r) h)
theorem eA{t:TypeId}{d:TypeDesc}(h:Tryz.prog.underlying t=some d)(w:World):Sem.run V.prog (underlying t) w=.ok d w:=by rw[V.pS];unfold underlying;rw[Sem.run_bind,run_program,Result.andThen_ok,h,Sem.run_pure]
theorem yQ{t:TypeId}{x:TypeInfo}(h:Tryz.prog.info? t=some x)(w:World):Sem.run V.prog (typeInfo t) w=.ok x w:=by rw[V.xk];unfold typeInfo;rw[Sem.run_bind,run_program,Result.andThen_ok,h,Sem.run_pure]
theorem AV{t:TypeId}{x:TypeInfo}(h:Tryz.prog.info? t=some x)(w:World):Sem.run V.prog (sizeOf t) w=.ok x.size w:=by unfold sizeOf;rw[Sem.run_bind,yQ h,Result.andThen_ok,Sem.run_pure]
theorem FX{t:TypeId}{x:TypeInfo}{z:Value}(h:Tryz.prog.info? t=some x)(a:x.zero=some z)(w:World):Sem.run V.prog (zeroValue t) w=.ok z w:=by unfold zeroValue;rw[Sem.run_bind,yQ h,Result.andThen_ok,a,Sem.run_pure]
theorem gG:ki V.prog AU:=⟨λS i d h b o w=>by
 obtain⟨p,l,rfl,k⟩:=yP _ _ _ _ h;have c:=List.all_eq_true.1 OO p l;unfold B6 at c;split at c
 ·rename_i r m;have a:=List.all_eq_true.1 c i (List.mem_range.2 (FW k));rw[k]at a;split at a
  ·rename_i s f e n;obtain rfl:=Option.some.inj e;simp only[Bool.and_eq_true,beq_iff_eq]at a;obtain⟨rfl,g⟩:=a;split at g
   ·rename_i x q;have j:x.size≠0:=by simpa using g
    unfold Instr.fieldAt;rw[Sem.run_bind,eA m,Result.andThen_ok];simp only[n,Instr.sureAddr,pure_bind,fieldPlace,Sem.run_bind,AV q,Result.andThen_ok,if_neg j,Sem.run_pure];simp[Addr.add]
   ·cases g
  ·cases a
 ·cases c⟩
structure TI where
 kd:Nat
 sz:Nat
 es:Nat
 ln:Nat
def PS:List (Nat×TI):=[(3,⟨0,1,0,0⟩),(4,⟨0,1,0,0⟩),(22,⟨3,1,3,0⟩),(24,⟨1,7,0,0⟩),(25,⟨3,1,3,0⟩),(26,⟨3,1,2,0⟩),(27,⟨3,1,1,0⟩),(29,⟨1,2,0,0⟩),(31,⟨0,1,0,0⟩),(38,⟨0,1,0,0⟩),(43,⟨3,1,7,0⟩),(44,⟨3,1,1,0⟩),(45,⟨3,1,1,0⟩),(56,⟨1,2,0,0⟩),(60,⟨0,1,0,0⟩),(64,⟨3,1,1,0⟩),(66,⟨3,1,1,0⟩),(81,⟨1,3,0,0⟩),(84,⟨1,3,0,0⟩),(95,⟨3,1,4,0⟩),(101,⟨1,4,0,0⟩),(112,⟨0,1,0,0⟩),(117,⟨3,1,1,0⟩),(119,⟨0,1,0,0⟩),(121,⟨1,3,0,0⟩),(125,⟨1,5,0,0⟩),(133,⟨0,1,0,0⟩),(138,⟨0,1,0,0⟩),(139,⟨3,1,8,0⟩),(141,⟨1,3,0,0⟩),(154,⟨0,1,0,0⟩),(164,⟨2,3,1,3⟩),(166,⟨1,8,0,0⟩),(173,⟨1,5,0,0⟩),(178,⟨2,6,1,6⟩),(179,⟨2,36,6,6⟩),(180,⟨0,1,0,0⟩),(181,⟨0,1,0,0⟩),(182,⟨0,1,0,0⟩),(184,⟨1,2,0,0⟩),(186,⟨1,47,0,0⟩),(199,⟨1,4,0,0⟩),(200,⟨0,1,0,0⟩),(204,⟨2,6,1,6⟩),(205,⟨2,32,1,32⟩),(207,⟨1,35,0,0⟩),(209,⟨0,1,0,0⟩),(217,⟨2,5,1,5⟩),(220,⟨1,2,0,0⟩),(222,⟨3,1,1,0⟩),(225,⟨3,1,1,0⟩),(243,⟨0,1,0,0⟩),(245,⟨1,12,0,0⟩),(247,⟨1,5,0,0⟩),(248,⟨3,1,4,0⟩)]
def NU:List (Nat×TI)->Nat->Option TI
 |[],_=>none
 |p::r,S=>match Nat.beq p.1 S with
  |true=>some p.2
  |false=>NU r S
def ty(t:Nat):Option TI:=NU PS t
noncomputable def sZ(t n:Nat):Bool:=match Tryz.prog.info? t with
 |some x=>x.size==n
 |none=>false
noncomputable def Mm(p:Nat×TI):Bool:=sZ p.1 p.2.sz&&(match Tryz.prog.underlying p.1 with
 |some (.struct _)=>p.2.kd==1
 |some (.array n e)=>p.2.kd==2&&p.2.ln==n&&sZ e p.2.es
 |some (.slice e)=>p.2.kd==3&&sZ e p.2.es
 |some _=>p.2.kd==0
 |none=>false)
theorem OP:PS.all Mm=true:=by kernel_rfl
theorem B7:∀(l:List (Nat×TI)) (S:Nat) (d:TI),NU l S=some d->(S,d)∈l
 |p::r,S,d,h=>by
  simp only[NU]at h;split at h
  ·rename_i a;obtain rfl:=Nat.eq_of_beq_eq_true a;obtain rfl:=Option.some.inj h;exact List.mem_cons_self
  ·exact List.mem_cons_of_mem _ (B7 r S d h)
theorem B8{t:Nat}{x:TI}(h:ty t=some x):Mm (t,x)=true:=List.all_eq_true.1 OP _ (B7 _ _ _ h)
theorem iA{t n:Nat}(h:sZ t n=true)(w:World):Sem.run V.prog (sizeOf t) w=.ok n w:=by
 unfold sZ at h;split at h
 ·rename_i x a;rw[AV a,beq_iff_eq.1 h]
 ·cases h
theorem Is{t:Nat}{x:TI}(h:ty t=some x)(w:World):Sem.run V.prog (sizeOf t) w=.ok x.sz w:=by have:=B8 h;simp only[Mm,Bool.and_eq_true]at this;exact iA this.1 w
theorem Lh{t:Nat}{x:TI}(h:ty t=some x)(w:World):Sem.run V.prog (isAgg t) w=.ok (x.kd==1||x.kd==2) w:=by
 have:=B8 h;simp only[Mm,Bool.and_eq_true]at this;have a:=this.2;unfold isAgg;cases b:Tryz.prog.underlying t with
 |none=>rw[b]at a;cases a
 |some d=>
  rw[b]at a;rw[Sem.run_bind,eA b,Result.andThen_ok];cases d<;>simp only[Bool.and_eq_true,beq_iff_eq]at a<;>simp[a]
theorem nf{t:Nat}{x:TI}(h:ty t=some x)(c:x.kd=3):∃e,Tryz.prog.underlying t=some (.slice e)/\sZ e x.es=true:=by
 have:=B8 h;simp only[Mm,Bool.and_eq_true]at this;have a:=this.2;cases b:Tryz.prog.underlying t with
 |none=>rw[b]at a;cases a
 |some d=>
  rw[b]at a;cases d<;>simp only[Bool.and_eq_true,beq_iff_eq]at a<;>first|(exfalso;omega)|skip
  exact⟨_,rfl,a.2⟩
theorem yR{t:Nat}{x:TI}(h:ty t=some x)(c:x.kd=2):∃e,Tryz.prog.underlying t=some (.array x.ln e)/\sZ e x.es=true:=by
 have:=B8 h;simp only[Mm,Bool.and_eq_true]at this;have a:=this.2;cases b:Tryz.prog.underlying t with
 |none=>rw[b]at a;cases a
 |some d=>
  rw[b]at a;cases d<;>simp only[Bool.and_eq_true,beq_iff_eq]at a<;>first|(exfalso;omega)|skip
  exact⟨_,by rw[a.1.2],a.2⟩
def zL:List (Nat×List Value):=[(3,[.int .i64 0]),(24,[.int .i64 0,.int .i64 0,.int .i64 0,.int .i64 0,.int .i64 0,.int .i64 0,.slice none 0 0]),(27,[.slice none 0 0]),(29,[.int .i64 0,.slice none 0 0]),(31,[.nilFunc]),(56,[.int .i64 0,.int .i64 0]),(66,[.slice none 0 0]),(81,[.int .i64 0,.int .i64 0,.int .i64 0]),(84,[.int .i64 0,.int .i64 0,.bool false]),(101,[.int .i64 0,.int .i64 0,.bool false,.bool false]),(125,[.bool false,.int .i64 0,.int .i64 0,.slice none 0 0,.slice none 0 0]),(141,[.pointer none,.slice none 0 0,.int .i64 0]),(166,[.int .i64 0,.int .i64 0,.int .i64 0,.bool false,.bool false,.bool false,.bool false,.bool false]),(173,[.bool false,.int .i64 0,.int .i64 0,.int .i64 0,.int .i64 0]),(178,[.int .i64 0,.int .i64 0,.int .i64 0,.int .i64 0,.int .i64 0,.int .i64 0]),(186,[.int .i64 0,.int .i64 0,.int .i64 0,.int .i64 0,.int .i64 0,.int .i64 0,.slice none 0 0,.int .i64 0,.int .i64 0,.int .i64 0,.int .i64 0,.int .i64 0,.int .i64 0,.int .i64 0,.int .i64 0,.int .i64 0,.int .i64 0,.int .i64 0,.int .i64 0,.int .i64 0,.int .i64 0,.int .i64 0,.int .i64 0,.int .i64 0,.int .i64 0,.int .i64 0,.int .i64 0,.int .i64 0,.int .i64 0,.int .i64 0,.int .i64 0,.int .i64 0,.int .i64 0,.int .i64 0,.int .i64 0,.int .i64 0,.int .i64 0,.int .i64 0,.int .i64 0,.int .i64 0,.int .i64 0,.int .i64 0,.int .i64 0,.map none,.map none,.nilFunc,.nilFunc]),(199,[.slice none 0 0,.int .i64 0,.int .i64 0,.bool false]),(204,[.int .u8 0,.int .u8 0,.int .u8 0,.int .u8 0,.int .u8 0,.int .u8 0]),(209,[.nilFunc]),(217,[.bool false,.bool false,.bool false,.bool false,.bool false]),(220,[.slice none 0 0,.bool false]),(225,[.slice none 0 0]),(247,[.int .i64 0,.slice none 0 0,.int .i64 0,.int .i64 0,.bool false])]
def zG:List (Nat×List Value)->Nat->Option (List Value)
 |[],_=>none
 |p::r,S=>match Nat.beq p.1 S with
  |true=>some p.2
  |false=>zG r S
def zc(t:Nat):Option (List Value):=zG zL t
noncomputable def NV(t:Nat):Option Value:=(Tryz.prog.info? t).bind (·.zero)
theorem QH:(zL.map λp=>(NV p.1).map (·.cells.toList))=zL.map λp=>some p.2:=by kernel_rfl
theorem J3:∀(l:List (Nat×List Value)),(l.map λp=>(NV p.1).map (·.cells.toList))=(l.map λp=>some p.2)->∀t cs,zG l t=some cs->(NV t).map (·.cells.toList)=some cs
 |p::r,h,t,cs,a=>by
  simp only[List.map_cons,List.cons.injEq]at h;simp only[zG]at a;split at a
  ·rename_i b;obtain rfl:=Nat.eq_of_beq_eq_true b;obtain rfl:=Option.some.inj a;exact h.1
  ·exact J3 r h.2 t cs a
theorem Li{t:Nat}{cs:List Value}(h:zc t=some cs):∃z,z.cells=cs.toArray/\∀w,Sem.run V.prog (zeroValue t) w=.ok z w:=by
 have a:=J3 _ QH t cs h;unfold NV at a;cases b:Tryz.prog.info? t with
 |none=>rw[b]at a;cases a
 |some x=>
  rw[b]at a;simp only[Option.bind_some]at a;cases c:x.zero with
  |none=>rw[c]at a;cases a
  |some z=>
   rw[c]at a;refine⟨z,?_,λw=>FX b c w⟩;have:=Option.some.inj a;rw[<-this]
section
variable{w:World}{k:Value->World->Prop}{s:World->Prop}
theorem It(a b:Nat):(a==b)=Nat.beq a b:=by
 cases h:Nat.beq a b with
 |true=>simpa using Nat.eq_of_beq_eq_true h
 |false=>simpa using Nat.ne_of_beq_eq_false h
def AW(t:Nat):Option Bool:=match ty t with
 |some x=>match Nat.beq x.kd 1 with
  |true=>some true
  |false=>some (Nat.beq x.kd 2)
 |none=>none
theorem ta{t:Nat}{b:Bool}(h:AW t=some b)(w:World):Sem.run V.prog (isAgg t) w=.ok b w:=by
 unfold AW at h;split at h
 ·rename_i x c;rw[Lh c];split at h
  ·rename_i a;obtain rfl:=Option.some.inj h;have:x.kd=1:=Nat.eq_of_beq_eq_true a;simp[this]
  ·rename_i a;obtain rfl:=Option.some.inj h;have:x.kd≠1:=Nat.ne_of_beq_eq_false a;have e:(x.kd==1)=false:=by simpa using this
   rw[e,Bool.false_or,It]
 ·cases h
def J4(t:Nat):Option Nat:=match ty t with
 |some x=>some x.sz
 |none=>none
theorem ww{t n:Nat}(h:J4 t=some n)(w:World):Sem.run V.prog (sizeOf t) w=.ok n w:=by
 unfold J4 at h;split at h
 ·rename_i x a;obtain rfl:=Option.some.inj h;exact Is a w
 ·cases h
theorem cg{t:TypeId}{ad:Addr}{v:Value}(c0:w.cell? ad=some v)(h:k v w)(a:AW t=some false:=by rfl):fS V.prog (Instr.loadAt t (.pointer (some ad))) w k:=by refine⟨v,w,?_,h⟩;simp only[Instr.loadAt,Instr.sureAddr,pure_bind,loadVar,Sem.run_bind,ta a,Result.andThen_ok,Bool.false_eq_true,if_false];go_simp
theorem eN(b o j:Nat):(⟨b,o,none⟩:Addr).add j=⟨b,o+j,none⟩:=by unfold Addr.add;split<;>simp_all
theorem dp{t:TypeId}{b o:Nat}{vs:List Value}(c0:∀j v,vs[j]? =some v->w.cell? ⟨b,o+j,none⟩=some v)(h:k (.agg vs.toArray) w)(a:AW t=some true:=by rfl)(c:J4 t=some vs.length:=by rfl):
 fS V.prog (Instr.loadAt t (.pointer (some ⟨b,o,none⟩))) w k:=by
 refine⟨_,w,?_,h⟩;have d:=run_loadCells_list (P:=V.prog) w ⟨b,o,none⟩ vs λj v e=>by rw[eN];exact c0 j v e
 simp only[Instr.loadAt,Instr.sureAddr,pure_bind,loadVar,Sem.run_bind,ta a,ww c,Result.andThen_ok,if_true,d,Sem.run_pure]
def er(cs:Array Value)(o:Nat):List Value->Array Value
 |[]=>cs
 |v::r=>er (cs.setIfInBounds o v) (o+1) r
theorem ng:∀(vs:List Value) (w:World) (b o:Nat) (cs:Array Value) (t:TypeId) (a:Nat×Nat),w.heap[b]? =some (.cells cs t a)->(w.setCells b o vs).heap[b]? =some (.cells (er cs o vs) t a)
 |[],w,b,o,cs,t,a,h=>h
 |v::r,w,b,o,cs,t,a,h=>ng r (w.setCell ⟨b,o,none⟩ v) b (o+1) (cs.setIfInBounds o v) t a (by simp[World.setCell,Array.getElem?_modify,h])
theorem kL:∀(vs:List Value) (w w0:World) (b o:Nat),cr (λx=>x=b) w0 w->cr (λx=>x=b) w0 (w.setCells b o vs)
 |[],_,_,_,_,h=>h
 |v::r,w,w0,b,o,h=>kL r _ w0 b (o+1) (h.setCell _ _ λ_=>rfl)
theorem fG{t:TypeId}{b o:Nat}{v:Value}{cs:Array Value}{d:TypeId}(a:w.heap[b]? =some (.cells cs d))(k:o+v.cells.size<=cs.size)(h:∀w',cr (λx=>x=b) w w'->w'.heap[b]? =some (.cells (er cs o v.cells.toList) d)->s w')
 (f:∀u∈v.cells.toList,u.oneCell'=true:=by simp[Value.cells])(g:J4 t=some v.cells.size:=by rfl):yF V.prog (Instr.storeAt t (.pointer (some ⟨b,o,none⟩)) v) w s:=by
 have i:=run_storeCells_cells (P:=V.prog) b o v.cells.toList 0 w (λj e=>by
  have c:o+0+j<cs.size:=by
   have:j<v.cells.size:=by simpa using e
   omega
  simp only[World.cell?,a];simpa using c) (λj e=>by simp[World.frozen?,a]) f
 refine⟨_,?_,h (w.setCells b o v.cells.toList) (kL _ _ _ _ _ (cr.refl _ w)) (ng _ _ _ _ _ _ _ a)⟩;simp only[Instr.storeAt,Instr.sureAddr,pure_bind,storeVar,Sem.run_bind,ww g,Result.andThen_ok,ne_eq,not_true_eq_false,if_false];exact i
def oF:List Value->Bool
 |[]=>true
 |v::r=>match v.oneCell' with
  |true=>oF r
  |false=>false
theorem eu:∀{l:List Value},oF l=true->∀u∈l,u.oneCell'=true
 |v::r,h,u,a=>by
  simp only[oF]at h;split at h
  ·rename_i b;rcases List.mem_cons.1 a with rfl|a
   ·exact b
   ·exact eu h u a
  ·cases h
theorem cK{t:TypeId}{b o:Nat}{v:Value}{cs:Array Value}{a:TypeId}(c:w.heap[b]? =some (.cells cs a))(h:∀w',cr (λx=>x=b) w w'->w'.heap[b]? =some (.cells (er cs o v.cells.toList) a)->s w')
 (d:Nat.ble (o+v.cells.size) cs.size=true:=by rfl)(e:oF v.cells.toList=true:=by rfl)(f:J4 t=some v.cells.size:=by rfl):yF V.prog (Instr.storeAt t (.pointer (some ⟨b,o,none⟩)) v) w s:=
 fG c (Nat.le_of_ble_eq_true d) h (eu e) f
def qg(t:Nat):List Value:=match zc t with
 |some a=>a
 |none=>[]
def OQ(t:Nat):Bool:=match zc t with
 |some _=>true
 |none=>false
theorem dS{t:TypeId}(h:∀w' a,Ext w w'->w.heap.size<=a->w'.heap[a]? =some (.cells (qg t).toArray t)->k (.pointer (some ⟨a,0,none⟩)) w')(b:OQ t=true:=by rfl):fS V.prog (Instr.alloc t true (.tuple #[])) w k:=by
 unfold OQ at b;cases c:zc t with
 |none=>rw[c]at b;cases b
 |some e=>
  have d:qg t=e:=by simp[qg,c]
  obtain⟨z,f,g⟩:=Li c;rw[d]at h;refine⟨_,w.alloc (.cells e.toArray t),?_,h _ w.heap.size (Ext.alloc _ _) (Nat.le_refl _) (dD _ _)⟩;simp only[Instr.alloc,Sem.run_bind,g,Result.andThen_ok,newVar,newRow,f];go_simp
theorem eO{t:TypeId}{v:Value}(h:∀w' a,Ext w w'->w.heap.size<=a->w'.heap[a]? =some (.cells v.cells t)->k (.pointer (some ⟨a,0,none⟩)) w'):fS V.prog (Instr.box t v) w k:=by refine⟨_,w.alloc (.cells v.cells t),?_,h _ w.heap.size (Ext.alloc _ _) (Nat.le_refl _) (dD _ _)⟩;simp only[Instr.box,newVar,newRow];go_simp
theorem fh{t b o l c:Nat}(a es:Nat){i:Int}(p:a<l)(h:k (.pointer (some ⟨b,o+a*es,none⟩)) w)(g:i=(a:Nat):=by rfl)(j:ty t=some ⟨3,1,es,0⟩:=by rfl):fS V.prog (Instr.indexAt t (.slice (some ⟨b,o,none⟩) l c) (.int .i64 i)) w k:=by
 subst g;obtain⟨e,m,n⟩:=nf j rfl;refine⟨_,w,?_,h⟩;have d:(a:Int)<(l:Int):=by omega
 have f:(0:Int)<=(a:Int):=by omega
 unfold Instr.indexAt;simp only[asIntOf,pure_bind,Sem.run_bind,eA m,Result.andThen_ok,Sem.run_pure,f,d,and_self,if_true,iA n,Int.toNat_natCast,eN]
theorem rL{t b o:Nat}(a es n:Nat){f:Nat}{i:Int}(p:a<n)(h:k (.pointer (some ⟨b,o+a*es,none⟩)) w)(g:i=(a:Nat):=by rfl)(j:ty t=some ⟨2,f,es,n⟩:=by rfl):fS V.prog (Instr.indexAt t (.pointer (some ⟨b,o,none⟩)) (.int .i64 i)) w k:=by
 subst g;obtain⟨e,l,m⟩:=yR j rfl;refine⟨_,w,?_,h⟩;have c:(a:Int)<(n:Int):=by omega
 have d:(0:Int)<=(a:Int):=by omega
 unfold Instr.indexAt;simp only[asIntOf,Instr.sureAddr,pure_bind,Sem.run_bind,eA l,Result.andThen_ok,Sem.run_pure,d,c,and_self,if_true,iA m,Int.toNat_natCast,eN]
theorem dT{t b o l c:Nat}(a:Nat){i:Int}(d:a<l)(h:k (.pointer (some ⟨b,o+a,none⟩)) w)(e:i=(a:Nat):=by rfl)(f:ty t=some ⟨3,1,1,0⟩:=by rfl):fS V.prog (Instr.indexAt t (.slice (some ⟨b,o,none⟩) l c) (.int .i64 i)) w k:=
 fh a 1 d (by rw[Nat.mul_one];exact h) e f
theorem oG{t b o:Nat}(a n:Nat){i:Int}(c:a<n)(h:k (.pointer (some ⟨b,o+a,none⟩)) w)(d:i=(a:Nat):=by rfl)(e:ty t=some ⟨2,n,1,n⟩:=by rfl):fS V.prog (Instr.indexAt t (.pointer (some ⟨b,o,none⟩)) (.int .i64 i)) w k:=
 rL a 1 n c (by rw[Nat.mul_one];exact h) d e
theorem cA{t a:TypeId}{cs:Array Bool}{ad:Option Addr}{l c es:Nat}(h:k (.int .i64 l) w)(b:ty a=some ⟨3,1,es,0⟩:=by rfl):un V.prog (builtin .len #[a] t cs #[.slice ad l c]) w k:=by
 obtain⟨e,d,_⟩:=nf b rfl;refine⟨_,w,?_,h⟩;have f:Sem.run V.prog (Builtin.len_ #[a] t #[.slice ad l c]) w=.ok (.int .i64 l) w:=by unfold Builtin.len_;simp only[List.getElem?_toArray,List.getElem?_cons_zero,Sem.run_bind,eA d,Result.andThen_ok,Sem.run_pure];rfl
 unfold builtin;simp only[Sem.run_bind,f,Result.andThen_ok,Sem.run_pure]
theorem ek{b:Bool}(h:k (.bool (!b)) w):fS V.prog (Op.unary .not (.bool b)) w k:=⟨_,w,by go_simp,h⟩
section
variable{t:TypeId}{x y:Operand}{m n:Int}{κ:IntKind}
theorem cq(h:k (.int .i64 (m+n)) w)(a: -9223372036854775808<=m+n/\m+n<=9223372036854775807:=by omega):fS V.prog (do eqGuard .add t x y (.int .i64 m) (.int .i64 n);binOp .add t (.int .i64 m) (.int .i64 n)) w k:=
 ⟨_,w,by go_simp;exact IntWalk.i64_in _ a,h⟩
theorem fu(h:k (.int .i64 (m-n)) w)(a: -9223372036854775808<=m-n/\m-n<=9223372036854775807:=by omega):fS V.prog (do eqGuard .sub t x y (.int .i64 m) (.int .i64 n);binOp .sub t (.int .i64 m) (.int .i64 n)) w k:=
 ⟨_,w,by go_simp;exact IntWalk.i64_in _ a,h⟩
theorem FY(h:k (.int .i64 (m*n)) w)(a: -9223372036854775808<=m*n/\m*n<=9223372036854775807:=by omega):fS V.prog (do eqGuard .mul t x y (.int .i64 m) (.int .i64 n);binOp .mul t (.int .i64 m) (.int .i64 n)) w k:=
 ⟨_,w,by go_simp;exact IntWalk.i64_in _ a,h⟩
theorem cY(h:k (.bool (decide (m<n))) w):fS V.prog (do eqGuard .lss t x y (.int κ m) (.int κ n);binOp .lss t (.int κ m) (.int κ n)) w k:=⟨_,w,by go_simp,h⟩
theorem u9(h:k (.bool (decide (m<=n))) w):fS V.prog (do eqGuard .leq t x y (.int κ m) (.int κ n);binOp .leq t (.int κ m) (.int κ n)) w k:=⟨_,w,by go_simp,h⟩
theorem pr(h:k (.bool (decide (n<m))) w):fS V.prog (do eqGuard .gtr t x y (.int κ m) (.int κ n);binOp .gtr t (.int κ m) (.int κ n)) w k:=⟨_,w,by go_simp,h⟩
theorem ve(h:k (.bool (decide (n<=m))) w):fS V.prog (do eqGuard .geq t x y (.int κ m) (.int κ n);binOp .geq t (.int κ m) (.int κ n)) w k:=⟨_,w,by go_simp,h⟩
theorem gK(h:k (.bool (decide (m=n))) w):fS V.prog (do eqGuard .eql t x y (.int κ m) (.int κ n);binOp .eql t (.int κ m) (.int κ n)) w k:=⟨_,w,by go_simp;rw[Bool.eq_iff_iff];simp,h⟩
theorem eP(h:k (.bool (decide (m≠n))) w):fS V.prog (do eqGuard .neq t x y (.int κ m) (.int κ n);binOp .neq t (.int κ m) (.int κ n)) w k:=⟨_,w,by go_simp;rw[Bool.eq_iff_iff];simp,h⟩
end
@[simp] theorem QI (v:Value):one [v]=v:=rfl
@[simp] theorem QJ (u v:Value):one [u,v]=.tuple #[u,v]:=rfl
theorem wx{a:Array TypeId}{t:TypeId}{cs:Array Bool}{m n:Int}(h:k (.int .i64 (max m n)) w):un V.prog (builtin .max a t cs #[.int .i64 m,.int .i64 n]) w k:=by
 refine⟨_,w,?_,h⟩;have b:Sem.run V.prog (Builtin.max_ a t #[.int .i64 m,.int .i64 n]) w=.ok (.int .i64 (max m n)) w:=by unfold Builtin.max_;simp only[List.foldlM_cons,List.foldlM_nil,Builtin.max2,pure_bind,Sem.run_pure];congr 2;show(if n>m then n else m)=_;omega
 unfold builtin;simp only[Sem.run_bind,b,Result.andThen_ok,Sem.run_pure]
theorem lV{t:TypeId}{a:Option Addr}{l c:Nat}(i:Nat){x:Int}(n:i<=c)(h:k (.slice a i c) w)(f:x=(i:Nat):=by rfl){es:Nat}(g:ty t=some ⟨3,1,es,0⟩:=by rfl):fS V.prog (Instr.sliceAt t (.slice a l c) none (some (.int .i64 x)) none) w k:=by
 subst f;obtain⟨e,j,m⟩:=nf g rfl;refine⟨_,w,?_,h⟩;have b:(i:Int)<=(c:Int):=by omega
 have d:(0:Int)<=(i:Int):=by omega
 unfold Instr.sliceAt Instr.slice;simp only[Sem.run_bind,eA j,Result.andThen_ok,Instr.sliceBounds,Instr.sliceBound,asIntOf,pure_bind,d,b,and_self,if_true,Sem.run_pure,iA m,Int.toNat_natCast,Nat.sub_zero];cases a<;>simp[Addr.add]
def eG(R:Value->World->Prop):Ending->World->Prop:=λe w=>∃v,e=.returned v/\R v w
theorem cf{f:FuncId}{args:List Value}{R:Value->World->Prop}{pan:List PanicEntry->World->Prop}(b:Calls V.prog f args.toArray w (eG R))(h:∀v w',R v w'->k v w')(a:∀xs w,Sem.run V.prog (callFunc f xs) w=.ok (.enter f xs) w:=by intro _ _;kernel_rfl):Io V.prog f args w k pan:=by refine⟨a,b.mono ?_⟩;rintro e w' ⟨v,rfl,c⟩;exact h v w' c
end
theorem cL{f:FuncId}{args:List Value}{v0:Value}{w:World}{k:Value->World->Prop}{pan:List PanicEntry->World->Prop}(b:Calls V.prog f args.toArray w (eG λv w'=>v=v0/\w'=w))(h:k v0 w)(a:∀xs w,Sem.run V.prog (callFunc f xs) w=.ok (.enter f xs) w:=by intro _ _;kernel_rfl):Io V.prog f args w k pan:=
 cf b (λv w' c=>by obtain⟨rfl,rfl⟩:=c;exact h) a
theorem dU{f:FuncId}{args:List Value}{v0:Value}{w:World}{k:Value->World->Prop}{pan:List PanicEntry->World->Prop}(c:Calls V.prog f args.toArray w (eG λv w'=>v=v0/\Ext w w'))(h:∀w',Ext w w'->k v0 w')(a:∀xs w,Sem.run V.prog (callFunc f xs) w=.ok (.enter f xs) w:=by intro _ _;kernel_rfl):Io V.prog f args w k pan:=
 cf c (λv w' b=>by obtain⟨rfl,b⟩:=b;exact h _ b) a
theorem je{b:Bool}{A B:Prop}(h:b=true)(k:A):(b=true->A)/\(b=false->B):=⟨λ_=>k,λa=>by rw[h]at a;cases a⟩
theorem nh{b:Bool}{A B:Prop}(h:b=false)(k:B):(b=true->A)/\(b=false->B):=⟨λa=>(by rw[h]at a;cases a),λ_=>k⟩
theorem dg{N b x c n:Nat}{y f z:Code}{l:L}{w:World}{Q:QW}(g:Nat->L)(J:Nat->World->Prop)(A:Sub (g 0) l/\J 0 w)
 (p:∀k w,k<=n->J k w->WC V.prog AU N y (λe l' w'=>e=.normal/\lk l' c=some (.bool (decide ((k:Int)<(n:Int))))/\Sub (g k) l'/\J k w') (g k) w)
 (h:∀k w,k<n->J k w->WC V.prog AU N (.seq (.block x f) z) (λe l' w'=>match e with
  | .normal=>Sub (g (k+1)) l'/\J (k+1) w'
  |e=>ij b Q e l' w') (g k) w)
 (q:∀w,J n w->Q .normal (g n) w):iz V.prog N (Code.block b (Code.loop (y.seq ((Code.cond (.tmp c) Code.skip (Code.exit b)).seq ((Code.block x f).seq z))))) l w Q:=by
 refine⟨λa s=>?_⟩;refine wp_block ?_;refine lT (λj a w=>∃k,k<=n/\j=n-k/\Fr N (g k) a/\J k w) n ⟨0,Nat.zero_le _,by omega,s.sub A.1,A.2⟩ ?_;rintro j a w ⟨k,C,rfl,s,D⟩;refine wp_seq (wp_mono (eZ gG _ _ _ a w s (p k w C D)) ?_);rintro e E w' ⟨l',i,rfl,F,B,r⟩;refine wp_seq (wp_cond_split (i.at_ c _ F) (λG=>?_) λH=>?_)
 ·have t:k<n:=by simpa using G
  refine wp_skip ?_;refine wp_mono (eZ gG _ _ _ E w' (i.sub B) (h k w' t r)) ?_;rintro e K M ⟨u,d,m⟩;cases e with
  |normal=>exact⟨n-(k+1),by omega,k+1,by omega,rfl,d.sub m.1,m.2⟩
  |exit j=>
   simp only[Exit.then,Exit.inBlock];by_cases o:j=b
   ·subst o;rw[if_pos rfl];simp only[ij,Nat.beq_refl]at m;exact⟨u,d,m⟩
   ·rw[if_neg o];have:Nat.beq j b=false:=by
     cases I:Nat.beq j b with
     |false=>rfl
     |true=>exact absurd (Nat.eq_of_beq_eq_true I) o
    simp only[ij,this]at m;exact⟨u,d,m⟩
  |_=>exact⟨u,d,m⟩
 ·have v:k=n:=by
   have:¬k<n:=by simpa using H
   omega
  subst v;refine wp_exit ?_;simp only[Exit.then,Exit.inBlock,if_true];exact⟨_,i.sub B,q w' r⟩
theorem fw{t:Type}{N b A c n:Nat}{B f C:Code}{l:L}{w:World}{Q:QW}(g:Nat->t->L)(J:Nat->t->World->Prop)(u:t)(D:Sub (g 0 u) l/\J 0 u w)
 (p:∀k s w,k<=n->J k s w->WC V.prog AU N B (λe l' w'=>e=.normal/\lk l' c=some (.bool (decide ((k:Int)<(n:Int))))/\Sub (g k s) l'/\J k s w') (g k s) w)
 (h:∀k s w,k<n->J k s w->WC V.prog AU N (.seq (.block A f) C) (λe l' w'=>match e with
  | .normal=>∃s',Sub (g (k+1) s') l'/\J (k+1) s' w'
  |e=>ij b Q e l' w') (g k s) w)
 (q:∀s w,J n s w->Q .normal (g n s) w):iz V.prog N (Code.block b (Code.loop (B.seq ((Code.cond (Operand.tmp c) Code.skip (Code.exit b)).seq ((Code.block A f).seq C))))) l w Q:=by
 refine⟨λa v=>?_⟩;refine wp_block ?_;refine lT (λj a w=>∃k s,k<=n/\j=n-k/\Fr N (g k s) a/\J k s w) n ⟨0,u,Nat.zero_le _,by omega,v.sub D.1,D.2⟩ ?_;rintro j a w ⟨k,s,F,rfl,v,G⟩;refine wp_seq (wp_mono (eZ gG _ _ _ a w v (p k s w F G)) ?_);rintro e H w' ⟨l',i,rfl,I,E,r⟩;refine wp_seq (wp_cond_split (i.at_ c _ I) (λK=>?_) λM=>?_)
 ·have x:k<n:=by simpa using K
  refine wp_skip ?_;refine wp_mono (eZ gG _ _ _ H w' (i.sub E) (h k s w' x r)) ?_;rintro e S T ⟨y,d,o⟩;cases e with
  |normal=>
   obtain⟨s',O,P⟩:=o;exact⟨n-(k+1),by omega,k+1,s',by omega,rfl,d.sub O,P⟩
  |exit j=>
   simp only[Exit.then,Exit.inBlock];by_cases m:j=b
   ·subst m;rw[if_pos rfl];simp only[ij,Nat.beq_refl]at o;exact⟨y,d,o⟩
   ·rw[if_neg m];have:Nat.beq j b=false:=by
     cases R:Nat.beq j b with
     |false=>rfl
     |true=>exact absurd (Nat.eq_of_beq_eq_true R) m
    simp only[ij,this]at o;exact⟨y,d,o⟩
  |_=>exact⟨y,d,o⟩
 ·have z:k=n:=by
   have:¬k<n:=by simpa using M
   omega
  subst z;refine wp_exit ?_;simp only[Exit.then,Exit.inBlock,if_true];exact⟨_,i.sub E,q s w' r⟩
theorem go{f:FuncId}{fn:Func}{c:Code}{xs:Array Value}{w:World}{R:Ending->World->Prop}{N:Nat}(b:V.prog.funcs[f]? =some fn)(d:fn.ntmps=N)(h:WC V.prog AU N c (QR V.prog fn.results.toList R) (xs.toList.zipIdx.map λp=>(p.2,p.1)) w)
 (e:fn.body=some c:=by rfl)(a:Nat.ble xs.toList.length N=true:=by rfl):Calls V.prog f xs w R:=by
 have:=Nb gG (args:=xs.toList) N b e d (Nat.le_of_ble_eq_true a) h;simpa using this
theorem AX{f:FuncId}{xs:Array Value}{w:World}{v:Value}{S:World->Prop}(h:Calls V.prog f xs w λe w'=>e=.returned v/\S w'):Calls V.prog f xs w (eG λu w'=>u=v/\S w'):=h.mono λe w' h=>⟨v,h.1,rfl,h.2⟩
theorem eG.same{f:FuncId}{xs:Array Value}{w:World}{v:Value}(h:Calls V.prog f xs w (eG λu w'=>u=v/\w'=w)):Calls V.prog f xs w (eG λu w'=>u=v/\Ext w w'):=h.mono λe w' ⟨v,h,a,b⟩=>⟨v,h,a,b▸Ext.refl _⟩
theorem fa{N id:Nat}{ops:Array Oper}{l:L}{w:World}{Q:QW}{E E':World->World->Prop}(sp:Nat)(j:dR E)(f:dR E')(g:∀a b,E a b->E' a b)(h:DW V.prog AU N (λc w'=>Q (.panic c) [] w') E E' sp ops.toList w l (λl w'=>Q .normal l w') 0 ops.toList [] (qO ops.toList l) [] [] [] [])(k:iN ops N (n8 ops.toList)=true:=by kernel_rfl):
 iz V.prog N (.region id ops true) l w Q:=
 ⟨λa i=>yO gG (λc a w m n o=>⟨[],⟨m,n.trans i.defers,λt v p=>by cases p⟩,o⟩) j f g (by kernel_rfl) k rfl i.b (λl r w e q=>⟨l,⟨e.b.size,e.d.trans i.defers,e.b.at_⟩,q⟩) h⟩
theorem cF{N id:Nat}{ops:Array Oper}{l:L}{w:World}{Q:QW}{E:World->World->Prop}(a:dR E)(h:DW V.prog AU N (λc w'=>Q (.panic c) [] w') E E 1000 ops.toList w l (λl w'=>Q .normal l w') 0 ops.toList [] (qO ops.toList l) [] [] [] [])(b:iN ops N (n8 ops.toList)=true:=by kernel_rfl):
 iz V.prog N (.region id ops true) l w Q:=fa 1000 a a (λ_ _ h=>h) h b
section
variable{E:World->World->Prop}{w:World}{kx:Value->Prop}{kr kp kl:ew->Prop}{lb ea:Bool}
theorem dx{s:Sem Value}(v:Value)(h:∀w1,E w w1->fS V.prog s w1 λu a=>u=v/\E w1 a)(k:kx v):sW E E w (λw1 κ=>fS V.prog s w1 κ) kx kr kp lb kl ea:=.exact v h k
theorem NW{s:Sem Next}(v:Value)(h:∀w1,E w w1->un V.prog s w1 λu a=>u=v/\E w1 a)(k:kx v):sW E E w (λw1 κ=>un V.prog s w1 κ) kx kr kp lb kl ea:=.exact v h k
theorem jg{f:FuncId}{args:List Value}{pan:List PanicEntry->World->Prop}(v:Value)(b:∀w1,E w w1->Calls V.prog f args.toArray w1 (eG λu c=>u=v/\E w1 c))(k:kx v)(a:∀xs w,Sem.run V.prog (callFunc f xs) w=.ok (.enter f xs) w:=by intro _ _;kernel_rfl):sW E E w (λw1 κ=>Io V.prog f args w1 κ pan) kx kr kp lb kl ea:=
 .exact v (λw1 e=>cf (b w1 e) (λ_ _ h=>h) a) k
theorem fc{f:FuncId}{args:List Value}{pan:List PanicEntry->World->Prop}(c:dR E)(v:Value)(d:∀w1,E w w1->Calls V.prog f args.toArray w1 (eG λu b=>u=v/\b=w1))(k:kx v)(a:∀xs w,Sem.run V.prog (callFunc f xs) w=.ok (.enter f xs) w:=by intro _ _;kernel_rfl):sW E E w (λw1 κ=>Io V.prog f args w1 κ pan) kx kr kp lb kl ea:=
 .exact v (λw1 e=>cf (d w1 e) (λu b h=>⟨h.1,by rw[h.2];exact c.refl _⟩) a) k
theorem cn{t:TypeId}{ad:Addr}{v:Value}(c0:w.cell? ad=some v)(k:kx v)(a:AW t=some false:=by rfl):sW Ext Ext w (λw1 κ=>fS V.prog (Instr.loadAt t (.pointer (some ad))) w1 κ) kx kr kp lb kl ea:=
 dx v (λw1 e=>cg (e.cell c0) ⟨rfl,Ext.refl _⟩ a) k
variable{t:TypeId}{x y:Operand}{m n:Int}{κ:IntKind}
theorem nj{b:Bool}(h:kx (.bool (!b)))(a:dR E:=by first|exact cB|exact fg _):sW E E w (λw1 f=>fS V.prog (Op.unary .not (.bool b)) w1 f) kx kr kp lb kl ea:=
 dx _ (λw1 _=>ek ⟨rfl,a.refl _⟩) h
theorem AY(h:kx (.int .i64 (m+n)))(a: -9223372036854775808<=m+n/\m+n<=9223372036854775807:=by omega)(b:dR E:=by first|exact cB|exact fg _):sW E E w (λw1 f=>fS V.prog (do eqGuard .add t x y (.int .i64 m) (.int .i64 n);binOp .add t (.int .i64 m) (.int .i64 n)) w1 f) kx kr kp lb kl ea:=
 dx _ (λw1 _=>cq ⟨rfl,b.refl _⟩ a) h
theorem qh(h:kx (.int .i64 (m-n)))(a: -9223372036854775808<=m-n/\m-n<=9223372036854775807:=by omega)(b:dR E:=by first|exact cB|exact fg _):sW E E w (λw1 f=>fS V.prog (do eqGuard .sub t x y (.int .i64 m) (.int .i64 n);binOp .sub t (.int .i64 m) (.int .i64 n)) w1 f) kx kr kp lb kl ea:=
 dx _ (λw1 _=>fu ⟨rfl,b.refl _⟩ a) h
theorem FZ(h:kx (.int .i64 (m*n)))(a: -9223372036854775808<=m*n/\m*n<=9223372036854775807:=by omega)(b:dR E:=by first|exact cB|exact fg _):sW E E w (λw1 f=>fS V.prog (do eqGuard .mul t x y (.int .i64 m) (.int .i64 n);binOp .mul t (.int .i64 m) (.int .i64 n)) w1 f) kx kr kp lb kl ea:=
 dx _ (λw1 _=>FY ⟨rfl,b.refl _⟩ a) h
theorem J5(h:kx (.bool (decide (m<n))))(a:dR E:=by first|exact cB|exact fg _):sW E E w (λw1 f=>fS V.prog (do eqGuard .lss t x y (.int κ m) (.int κ n);binOp .lss t (.int κ m) (.int κ n)) w1 f) kx kr kp lb kl ea:=
 dx _ (λw1 _=>cY ⟨rfl,a.refl _⟩) h
theorem Ni(h:kx (.bool (decide (m<=n))))(a:dR E:=by first|exact cB|exact fg _):sW E E w (λw1 f=>fS V.prog (do eqGuard .leq t x y (.int κ m) (.int κ n);binOp .leq t (.int κ m) (.int κ n)) w1 f) kx kr kp lb kl ea:=
 dx _ (λw1 _=>u9 ⟨rfl,a.refl _⟩) h
theorem B9(h:kx (.bool (decide (n<m))))(a:dR E:=by first|exact cB|exact fg _):sW E E w (λw1 f=>fS V.prog (do eqGuard .gtr t x y (.int κ m) (.int κ n);binOp .gtr t (.int κ m) (.int κ n)) w1 f) kx kr kp lb kl ea:=
 dx _ (λw1 _=>pr ⟨rfl,a.refl _⟩) h
theorem Ca(h:kx (.bool (decide (m=n))))(a:dR E:=by first|exact cB|exact fg _):sW E E w (λw1 f=>fS V.prog (do eqGuard .eql t x y (.int κ m) (.int κ n);binOp .eql t (.int κ m) (.int κ n)) w1 f) kx kr kp lb kl ea:=
 dx _ (λw1 _=>gK ⟨rfl,a.refl _⟩) h
theorem J6(h:kx (.bool (decide (m≠n))))(a:dR E:=by first|exact cB|exact fg _):sW E E w (λw1 f=>fS V.prog (do eqGuard .neq t x y (.int κ m) (.int κ n);binOp .neq t (.int κ m) (.int κ n)) w1 f) kx kr kp lb kl ea:=
 dx _ (λw1 _=>eP ⟨rfl,a.refl _⟩) h
theorem iU{t b o l c:Nat}(a es:Nat){i:Int}(d:a<l)(h:kx (.pointer (some ⟨b,o+a*es,none⟩)))(e:i=(a:Nat):=by rfl)(g:ty t=some ⟨3,1,es,0⟩:=by rfl)(j:dR E:=by first|exact cB|exact fg _):sW E E w (λw1 f=>fS V.prog (Instr.indexAt t (.slice (some ⟨b,o,none⟩) l c) (.int .i64 i)) w1 f) kx kr kp lb kl ea:=
 dx _ (λw1 _=>fh a es d ⟨rfl,j.refl _⟩ e g) h
theorem Cb{t b o:Nat}(a es n:Nat){c:Nat}{i:Int}(d:a<n)(h:kx (.pointer (some ⟨b,o+a*es,none⟩)))(e:i=(a:Nat):=by rfl)(g:ty t=some ⟨2,c,es,n⟩:=by rfl)(j:dR E:=by first|exact cB|exact fg _):sW E E w (λw1 f=>fS V.prog (Instr.indexAt t (.pointer (some ⟨b,o,none⟩)) (.int .i64 i)) w1 f) kx kr kp lb kl ea:=
 dx _ (λw1 _=>rL a es n d ⟨rfl,j.refl _⟩ e g) h
theorem mA{t b o l c:Nat}(a:Nat){i:Int}(d:a<l)(h:kx (.pointer (some ⟨b,o+a,none⟩)))(e:i=(a:Nat):=by rfl)(g:ty t=some ⟨3,1,1,0⟩:=by rfl)(j:dR E:=by first|exact cB|exact fg _):sW E E w (λw1 f=>fS V.prog (Instr.indexAt t (.slice (some ⟨b,o,none⟩) l c) (.int .i64 i)) w1 f) kx kr kp lb kl ea:=
 dx _ (λw1 _=>dT a d ⟨rfl,j.refl _⟩ e g) h
theorem lX{t b o:Nat}(a n:Nat){i:Int}(c:a<n)(h:kx (.pointer (some ⟨b,o+a,none⟩)))(d:i=(a:Nat):=by rfl)(e:ty t=some ⟨2,n,1,n⟩:=by rfl)(g:dR E:=by first|exact cB|exact fg _):sW E E w (λw1 f=>fS V.prog (Instr.indexAt t (.pointer (some ⟨b,o,none⟩)) (.int .i64 i)) w1 f) kx kr kp lb kl ea:=
 dx _ (λw1 _=>oG a n c ⟨rfl,g.refl _⟩ d e) h
theorem iB{t a:TypeId}{cs:Array Bool}{ad:Option Addr}{l c es:Nat}(h:kx (.int .i64 l))(b:ty a=some ⟨3,1,es,0⟩:=by rfl)(d:dR E:=by first|exact cB|exact fg _):sW E E w (λw1 f=>un V.prog (builtin .len #[a] t cs #[.slice ad l c]) w1 f) kx kr kp lb kl ea:=
 NW _ (λw1 _=>cA ⟨rfl,d.refl _⟩ b) h
end
def lH(n a b:Int):Bool:=decide (a<=n)&&decide (n<=b)
theorem du(n a b:Int)(w:World):Calls V.prog 106 #[.int .i64 n,.int .i64 a,.int .i64 b] w (eG λv w'=>v=.bool (lH n a b)/\w'=w):=by refine go V.func106 Tryz.ntmps106 ?_;refine u9 ⟨λh=>u9 ⟨_,rfl,?_,rfl⟩,λh=>⟨_,rfl,?_,rfl⟩⟩<;>simp[lH,h]
def zY(l:List Nat)(k:Nat):Nat:=if k=0 then 0 else l.getD (k-1) 0+1
def tc(W:Nat->Nat->Int)(l:List Nat):Nat->Int
 |0=>0
 |k+1=>tc W l k+W (zY l k) (l.getD k 0+1)
def lY(W:Nat->Nat->Int)(l:List Nat):Int:=tc W l l.length+W (zY l l.length) 0
theorem F0{l:List Nat}(h:∀d∈l,d<5)(k:Nat)(b:k<=l.length):zY l k<6:=by
 unfold zY;split
 ·omega
 ·have a:k-1<l.length:=by omega
  have:=h _ (List.getElem_mem a);rw[List.getD_eq_getElem?_getD,List.getElem?_eq_getElem a];simp only[Option.getD_some];omega
theorem wz{W:Nat->Nat->Int}(a:∀i j,0<=W i j/\W i j<=1000)(l:List Nat):∀k,0<=tc W l k/\tc W l k<=1000*k
 |0=>by simp[tc]
 |k+1=>by have b:=wz a l k;have c:=a (zY l k) (l.getD k 0+1);simp only[tc];omega
theorem te{W:Nat->Nat->Int}(a:∀i j,0<=W i j/\W i j<=1000)(l:List Nat):0<=lY W l/\lY W l<=1000*l.length+1000:=by have b:=wz a l l.length;have c:=a (zY l l.length) 0;unfold lY;omega
def tg(W:Nat->Nat->Int)(a:Int)(l:List Nat):Int:=lY W l+(l.length:Int)*a
theorem getD_eq{α:Type}{l:List α}{k:Nat}{d:α}(h:k<l.length):l.getD k d=l[k]:=by rw[List.getD_eq_getElem?_getD,List.getElem?_eq_getElem h];rfl
theorem th(g:Nat)(W:Nat->Nat->Int)(l:List Nat)(la:Option Addr)(lc:Nat)(w:World)(a:∀i j,i<6->j<6->w.cell? ⟨g,7+i*6+j,none⟩=some (.int .i64 (W i j)))(m:∀i j,0<=W i j/\W i j<=1000) (p:∀d∈l,d<5)(q:l.length<=100000)(e:∀k (h:k<l.length),∃b o,la=some ⟨b,o,none⟩/\w.cell? ⟨b,o+k,none⟩=some (.int .i64 l[k])):
 Calls V.prog 161 #[.pointer (some ⟨g,0,none⟩),.slice la l.length lc] w (eG λv w'=>v=.int .i64 (lY W l)/\w'=w):=by
 have r:=wz m l;refine go V.func161 Tryz.ntmps161 ?_;refine cA (dg (n:=l.length) (λk=>[(0,.pointer (some ⟨g,0,none⟩)),(9,.slice la l.length lc),(10,.int .i64 l.length),(11,.int .i64 k),(5,.int .i64 (tc W l k)),(6,.int .i64 (zY l k))]) (λ_ w'=>w'=w) ?_ ?_ ?_ ?_)
 ·exact⟨⟨rfl,rfl,rfl,rfl,rfl,rfl,trivial⟩,rfl⟩
 ·rintro k w' f rfl;exact cY ⟨rfl,rfl,⟨rfl,rfl,rfl,rfl,rfl,rfl,trivial⟩,rfl⟩
 ·rintro k w' f rfl;obtain⟨b,o,rfl,t⟩:=e k f;have y:=p _ (List.getElem_mem f);have c:=F0 p k (by omega);have u:=r k;have x:=m (zY l k) (l[k]+1);refine dT k f (cg t (cq (rL (zY l k) 6 6 c (oG (l[k]+1) 6 (by omega) (cg (a _ (l[k]+1) c (by omega)) (cq (cq (cq ?_))))))));have s:l.getD k 0=l[k]:=getD_eq f;refine⟨⟨rfl,rfl,rfl,rfl,?_,?_,trivial⟩,rfl⟩
  ·show _=some (Value.int .i64 (tc W l k+W (zY l k) (l.getD k 0+1)));rw[s];rfl
  ·show _=some (Value.int .i64 ((l.getD k 0+1:Nat):Int));rw[s];rfl
 ·rintro w' rfl;have c:=F0 p l.length (Nat.le_refl _);have u:=r l.length;have x:=m (zY l l.length) 0;exact rL (zY l l.length) 6 6 c (oG 0 6 (by omega) (cg (a _ 0 c (by omega)) (cq ⟨_,rfl,rfl,rfl⟩)))
theorem De(m:Nat)(W:Nat->Nat->Int)(n:Int)(l:List Nat)(la:Option Addr)(lc:Nat)(w:World)(p:w.cell? ⟨m,2,none⟩=some (.int .i64 n))(a:∀i j,i<6->j<6->w.cell? ⟨m,7+i*6+j,none⟩=some (.int .i64 (W i j)))(q:∀i j,0<=W i j/\W i j<=1000) (u:∀d∈l,d<5)(c:l.length<=100000)(f:∀k (h:k<l.length),∃b o,la=some ⟨b,o,none⟩/\w.cell? ⟨b,o+k,none⟩=some (.int .i64 l[k]))(g:0<=n/\n<=1000):
 Calls V.prog 114 #[.pointer (some ⟨m,0,none⟩),.slice la l.length lc] w (eG λv w'=>v=.int .i64 (tg W n l)/\Ext w w'):=by
 have r:=te q l;have s:=Int.mul_le_mul_of_nonneg_left g.2 (Int.natCast_nonneg l.length);have z:=Int.mul_nonneg (Int.natCast_nonneg l.length) g.1;refine go V.func114 Tryz.ntmps114 ?_;refine cF cB ?_;refine fc cB _ (λt e=>th m W l la lc t (λi j x y=>e.cell (a i j x y)) q u c λk h=>by obtain⟨b,o,r,s⟩:=f k h;exact⟨b,o,r,e.cell s⟩) (iB (cn p (FZ (AY λt e=>⟨_,rfl,rfl,e⟩))))
def iV(a b:Int):Int:=max (a-b) (b-a)
theorem Cc(a b:Int)(w:World)(c:0<=a/\a<=1000000)(d:0<=b/\b<=1000000):Calls V.prog 178 #[.int .i64 a,.int .i64 b] w (eG λv w'=>v=.int .i64 (iV a b)/\w'=w):=by refine go V.func178 Tryz.ntmps178 ?_;exact fu (fu (wx ⟨_,rfl,rfl,rfl⟩))
theorem AZ(b:Nat)(n T:Int)(w:World)(a:w.cell? ⟨b,5,none⟩=some (.int .i64 T)):Calls V.prog 179 #[.int .i64 n,.pointer (some ⟨b,0,none⟩)] w (eG λv w'=>v=.bool (decide (T<=n))/\w'=w):=by refine go V.func179 Tryz.ntmps179 ?_;exact cg a (ve ⟨_,rfl,rfl,rfl⟩)
theorem A0(b:Nat)(m n T:Int)(w:World)(c:w.cell? ⟨b,5,none⟩=some (.int .i64 T)):Calls V.prog 180 #[.int .i64 m,.int .i64 n,.pointer (some ⟨b,0,none⟩)] w (eG λv w'=>v=.bool (decide (T<2)||(decide (0<m)&&decide (0<n)))/\w'=w):=by
 refine go V.func180 Tryz.ntmps180 ?_;refine cg c (cY ⟨λh=>?_,λh=>?_⟩)
 ·exact⟨_,rfl,by simp[h],rfl⟩
 ·refine pr ⟨λa=>pr ⟨_,rfl,by simp[h,a],rfl⟩,λa=>⟨_,rfl,by simp[h,a],rfl⟩⟩
theorem F1(a:Nat)(D:Int)(w:World)(b:w.cell? ⟨a,4,none⟩=some (.int .i64 D))(c:0<=D/\D<=1000):Calls V.prog 107 #[.pointer (some ⟨a,0,none⟩)] w (eG λv w'=>v=.int .i64 (2*D-1)/\w'=w):=by refine go V.func107 Tryz.ntmps107 ?_;exact cg b (FY (fu ⟨_,rfl,rfl,rfl⟩))
def gM(w:World)(a:Option Addr)(l:List Int):Prop:=∀k (h:k<l.length),∃b o,a=some ⟨b,o,none⟩/\w.cell? ⟨b,o+k,none⟩=some (.int .i64 l[k])
theorem gM.ext{w w':World}{a:Option Addr}{l:List Int}(h:gM w a l)(e:Ext w w'):gM w' a l:=λk c=>by obtain⟨b,o,d,f⟩:=h k c;exact⟨b,o,d,e.cell f⟩
theorem gM.take{w:World}{a:Option Addr}{l:List Int}(h:gM w a l)(i:Nat):gM w a (l.take i):=λk d=>by
 have c:k<l.length:=by simp at d;omega
 obtain⟨b,o,e,f⟩:=h k c;exact⟨b,o,e,by rw[f];simp⟩
def ut(x:Int):List Int->Nat->Int
 |[],_=> -1
 |y::r,i=>if x=y then i else ut x r (i+1)
theorem Df(x:Int)(l:List Int)(k:Nat)(a:k<l.length):ut x (l.drop k) k=if x=l[k]then(k:Int)else ut x (l.drop (k+1)) (k+1):=by rw[List.drop_eq_getElem_cons a];rfl
theorem Dg(l:List Int)(x:Int)(la:Option Addr)(lc:Nat)(w:World)(e:gM w la l)(d:l.length<=100000):Calls V.prog 176 #[.slice la l.length lc,.int .i64 x] w (eG λv w'=>v=.int .i64 (ut x l 0)/\w'=w):=by
 refine go V.func176 Tryz.ntmps176 ?_;refine cA (dg (n:=l.length) (λk=>[(0,.slice la l.length lc),(1,.int .i64 x),(7,.int .i64 l.length),(8,.int .i64 k)]) (λk w'=>w'=w/\ut x l 0=ut x (l.drop k) k) ⟨⟨rfl,rfl,rfl,rfl,trivial⟩,rfl,rfl⟩ ?_ ?_ ?_)
 ·rintro k w' c ⟨rfl,a⟩;exact cY ⟨rfl,rfl,⟨rfl,rfl,rfl,rfl,trivial⟩,rfl,a⟩
 ·rintro k w' c ⟨rfl,a⟩;obtain⟨b,o,rfl,f⟩:=e k c;rw[Df x l k c]at a;refine dT k c (cg f (gK ⟨λh=>?_,λh=>?_⟩))
  ·have h:x=l[k]:=by simpa using h
   exact⟨_,rfl,by rw[a,if_pos h];rfl,rfl⟩
  ·have h:¬x=l[k]:=by simpa using h
   rw[if_neg h]at a;exact cq ⟨⟨rfl,rfl,rfl,rfl,trivial⟩,rfl,a⟩
 ·rintro w' ⟨rfl,a⟩;exact⟨_,rfl,by rw[a];simp[ut],rfl⟩
structure Dr where
 st:Int
 at_:Int
 talk:Int
structure Gd where
 streets:Int
 corner:Int
 knock:Int
 minutes:Int
 days:Int
 tries:Int
 doors:List Dr
def dL(d:Dr):List Value:=[.int .i64 d.st,.int .i64 d.at_,.int .i64 d.talk]
def fZ(w:World)(a:Option Addr)(l:List Dr):Prop:=∀k (h:k<l.length),∃b o,a=some ⟨b,o,none⟩/\w.cell? ⟨b,o+k*3,none⟩=some (.int .i64 l[k].st)/\w.cell? ⟨b,o+k*3+1,none⟩=some (.int .i64 l[k].at_)/\w.cell? ⟨b,o+k*3+2,none⟩=some (.int .i64 l[k].talk)
theorem fZ.ext{w w':World}{a:Option Addr}{l:List Dr}(h:fZ w a l)(e:Ext w w'):fZ w' a l:=λk c=>by obtain⟨b,o,d,f,g,i⟩:=h k c;exact⟨b,o,d,e.cell f,e.cell g,e.cell i⟩
def gL(G:Gd)(a:Option Addr)(dc:Nat):List Value:=[.int .i64 G.streets,.int .i64 G.corner,.int .i64 G.knock,.int .i64 G.minutes,.int .i64 G.days,.int .i64 G.tries,.slice a G.doors.length dc]
def gV(G:Gd)(a:Option Addr)(dc:Nat):Value:=.agg (gL G a dc).toArray
def ly(G:Gd):Bool:=lH G.streets 1 3&&(lH G.corner 1 9&&(lH G.knock 1 5&&(lH G.minutes 1 90&&(lH G.days 1 3&&lH G.tries 1 G.days))))
def nk(n:Int)(d:Dr):Int:=if lH d.st 0 (n-1)then(if lH d.at_ 0 20&&lH d.talk 1 9 then 0 else 1)else 3
def jN(n:Int):List Dr->Int
 |[]=>0
 |d::r=>if nk n d=0 then jN n r else nk n d
def ed(G:Gd):Int:=if ly G then(if(5:Int)<G.doors.length then 6 else jN G.streets G.doors)else 1
theorem yS(n:Int)(l:List Dr)(k:Nat)(a:k<l.length):jN n (l.drop k)=if nk n l[k]=0 then jN n (l.drop (k+1))else nk n l[k]:=by rw[List.drop_eq_getElem_cons a];rfl
theorem Dh        (G : Gd) (da : Option Addr) (dc : Nat) (w : World) (hd : fZ   w da G.doors) (hlen : G.doors.length ≤ 100000) (hs : -1000000 ≤ G.streets ∧ G.streets ≤ 1000000) : Calls V.prog 146 #[gV G da dc] w (eG  fun v w' => v = .int .i64 (ed     G) ∧ Ext w w') := by
  refine go V.func146 Tryz.ntmps146 ?_
  refine eO    fun w1 gb e1 RE  hb => ?_
  have bad : ∀ {b : Bool}, ly    G = false → ∃ v, Ending.returned (one [Value.int .i64 1]) = .returned v ∧ v = Value.int .i64 (ed     G) ∧ Ext w w1 := fun h => ⟨_, rfl, by simp [ed,     h], e1⟩
  refine cg    (cd    hb rfl) (cL       (du          _ _ _ _) (ek     ⟨fun h => je  h (bad (b := true) (by simp at h; simp [ly,    h])), fun h1 => ?_⟩))
  refine cg    (cd    hb rfl) (cL       (du          _ _ _ _) (ek     ⟨fun h => je  h (bad (b := true) (by simp at h; simp [ly,    h])), fun h2 => ?_⟩))
  refine cg    (cd    hb rfl) (cL       (du          _ _ _ _) (ek     ⟨fun h => je  h (bad (b := true) (by simp at h; simp [ly,    h])), fun h3 => ?_⟩))
  refine cg    (cd    hb rfl) (cL       (du          _ _ _ _) (ek     ⟨fun h => je  h (bad (b := true) (by simp at h; simp [ly,    h])), fun h4 => ?_⟩))
  refine cg    (cd    hb rfl) (cL       (du          _ _ _ _) (ek     ⟨fun h => je  h (bad (b := true) (by simp at h; simp [ly,    h])), fun h5 => ?_⟩))
  refine cg    (cd    hb rfl) (cg    (cd    hb rfl) (cL       (du          _ _ _ _) (ek     ⟨fun h => (bad (b := true) (by simp at h; simp [ly,    h])), fun h6 => ?_⟩)))
  have hh : ly    G = true := by simp at h1 h2 h3 h4 h5 h6; simp [ly,    *]
  refine cg    (cd    hb rfl) (cA     (pr    ⟨fun h => ⟨_, rfl, by simp at h; simp [ed,     hh, h], e1⟩, fun h7 => ?_⟩))
  have h7 : ¬ (5 : Int) < G.doors.length := by simpa using h7
  have QK  : ed     G = jN     G.streets G.doors := by simp [ed,     hh, h7]
  refine cg    (cd    hb rfl) (cA     (dg       (n := G.doors.length) (fun k => [(1, .pointer (some ⟨gb, 0, none⟩)), (38, .slice da G.doors.length dc), (39, .int .i64 G.doors.length), (40, .int .i64 k)]) (fun k w' => Ext w1 w' ∧ ed     G = jN     G.streets (G.doors.drop k)) ⟨⟨rfl, rfl, rfl, rfl, trivial⟩, Ext.refl _, by rw [QK];  rfl⟩ ?_ ?_ ?_))
  · rintro k w' hk ⟨e, hi⟩
    exact cY    ⟨rfl, rfl, ⟨rfl, rfl, rfl, rfl, trivial⟩, e, hi⟩
  · rintro k w' hk ⟨e, hi⟩
    obtain ⟨b, o, rfl, ha, zW,  hc⟩ := (hd.ext (e1.trans e)) k hk
    rw [yS          _ _ k hk] at hi
    refine fh     k 3 hk (dp     (vs := dL G.doors[k]) (fun j v hj => ?_) (dS    fun w2 db e2 QL  QM  => cK    QM  fun w3 k3 OR  => ?_))
    · match j, hj with
      | 0, hj => cases hj; exact ha
      | 1, hj => cases hj; exact zW
      | 2, hj => cases hj; exact hc
    · have e3 : Ext w1 w3 := (e.trans e2).cj        k3 (Nat.le_trans e.size QL)
      have Lj  := e3.at_ hb
      refine cg    (cd    OR  rfl) (cg    (cd    Lj  rfl) (fu     (cL       (du          _ _ _ _) (ek     ⟨fun h => ?_, fun h1 => ?_⟩))))
      · exact ⟨_, rfl, by simp at h; rw [hi]; simp [nk,    h], e1.trans e3⟩
      · simp at h1
        refine cg    (cd    OR  rfl) (cL       (du          _ _ _ _) (ek     ⟨fun h => je  h ?_, fun h2 => ?_⟩))
        · exact ⟨_, rfl, by simp at h; rw [hi]; simp [nk,    h1, h], e1.trans e3⟩
        · simp at h2
          refine cg    (cd    OR  rfl) (cL       (du          _ _ _ _) (ek     ⟨fun h => ?_, fun h3 => ?_⟩))
          · exact ⟨_, rfl, by simp at h; rw [hi]; simp [nk,    h1, h], e1.trans e3⟩
          · simp at h3
            exact cq     ⟨⟨rfl, rfl, rfl, rfl, trivial⟩, e3, by rw [hi]; simp [nk,    h1, h2, h3]⟩
  · rintro w' ⟨e, hi⟩
    exact ⟨_, rfl, by rw [hi]; simp [jN],     e1.trans e⟩
section
variable{w:World}{k:Value->World->Prop}
theorem J7{t:TypeId}(h:∀w' a,Ext w w'->w.heap.size<=a->w'.heap[a]? =some (.map #[] 0)->k (.map (some a)) w'):fS V.prog (Instr.makeMap t none) w k:=
 ⟨_,_,run_makeMap t w,h _ w.heap.size (Ext.alloc _ _) (Nat.le_refl _) (dD _ _)⟩
theorem c8{s:Sem Value}(v:Value)(h:k v w)(a:∀w,Sem.run V.prog s w=.ok v w:=by intro _;kernel_rfl):fS V.prog s w k:=⟨v,w,a w,h⟩
theorem dB{t:TypeId}{n:Nat}{a:Array (Nat×Value)}(cs:List Value)(e:TypeId)(h:∀w' b,Ext w w'->w.heap.size<=b->w'.heap[b]? =some (.cells cs.toArray e)->k (.slice (some ⟨b,0,none⟩) n n) w')
 (c:∀w,Sem.run V.prog (Instr.buildSlice t n a) w=.ok (.slice (some ⟨w.heap.size,0,none⟩) n n) (w.alloc (.cells cs.toArray e)):=by intro _;kernel_rfl):fS V.prog (Instr.buildSlice t n a) w k:=
 ⟨_,_,c w,h _ w.heap.size (Ext.alloc _ _) (Nat.le_refl _) (dD _ _)⟩
def A1(a e:TypeId)(zs:List Value):Prop:=V.prog.underlying a=some (.slice e)/\∃i z,V.prog.info? e=some i/\i.zero=some z/\z.cells=zs.toArray/\i.size=zs.length/\i.bytes<=256/\0<zs.length
theorem Lk:A1 22 81 [.int .i64 0,.int .i64 0,.int .i64 0]:=⟨by kernel_rfl,Tryz.t81,_,by kernel_rfl,rfl,by kernel_rfl,by kernel_rfl,by decide+kernel,by decide⟩
theorem oH:A1 27 3 [.int .i64 0]:=⟨by kernel_rfl,Tryz.t3,_,by kernel_rfl,rfl,by kernel_rfl,by kernel_rfl,by decide+kernel,by decide⟩
theorem Ll:A1 66 27 [.slice none 0 0]:=⟨by kernel_rfl,Tryz.t27,_,by kernel_rfl,rfl,by kernel_rfl,by kernel_rfl,by decide+kernel,by decide⟩
theorem wA{n t e:TypeId}{zs:List Value}{q:Array Bool}(r:A1 n e zs){n0:Nat}{v:Value}{d:Nat}{p:List Value}(h:cC n0 e zs w v d p)(o:n0<=w.heap.size){a:Addr}{m c:Nat}{news:List Value}(s:news.length=m*zs.length)(x:0<m) (f:∀j u,news[j]? =some u->w.cell? (a.add j)=some u)(y:∀u∈news,u.oneCell'=true)(l:d+m<=1000000) (A:∀g w',cC n0 e zs w' g (d+m) (p++news)->cr (ce v) w w'->(∀b,ce g b->ce v b\/w.heap.size<=b)->k g w'):un V.prog (builtin .append #[n,n] t q #[v,.slice (some a) m c]) w k:=by obtain⟨B,i,z,C,D,E,F,G,H⟩:=r;obtain⟨g,w',I,J,K,L⟩:=AN (ty:=t) B C D E F G H h o (c:=c) s x f y l;refine⟨g,w',?_,A g w' J K L⟩;unfold builtin;simp only[Sem.run_bind,I,Result.andThen_ok,Sem.run_pure]
theorem gC{f t e:TypeId}{zs:List Value}{m:Array Bool}(n:A1 f e zs){n0:Nat}{v:Value}{a:Nat}{l:List Value}(h:cC n0 e zs w v a l)(g:n0<=w.heap.size){b c:Nat}{news:List Value}{o:TypeId}(p:w.heap[b]? =some (.cells news.toArray o))(d:a+1<=1000000)
 (q:∀i w',cC n0 e zs w' i (a+1) (l++news)->cr (ce v) w w'->(∀b,ce i b->ce v b\/w.heap.size<=b)->k i w')(r:Nat.beq news.length zs.length=true:=by rfl)(s:oF news=true:=by rfl):un V.prog (builtin .append #[f,f] t m #[v,.slice (some ⟨b,0,none⟩) 1 c]) w k:=
 wA n h g (by rw[Nat.one_mul];exact Nat.eq_of_beq_eq_true r) (by omega) (λj u x=>by rw[eN,Nat.zero_add];exact cd p (by simpa using x)) (eu s) d q
theorem rM{d t e:TypeId}{zs:List Value}{j:Array Bool}(m:A1 d e zs){a b:Option Addr}{l c c':Nat}(n:l<=c)(h:k (.slice a l c) w):un V.prog (builtin .append #[d,d] t j #[.slice a l c,.slice b 0 c']) w k:=by
 obtain⟨f,i,z,g,q,r,s,u,v⟩:=m;refine⟨_,w,?_,h⟩;rw[V.nZ]at f;rw[V.BC]at g;have o:Sem.run V.prog (sizeOf e) w=.ok i.size w:=AV g w;have p:Sem.run V.prog (Builtin.append_ #[d,d] t #[.slice a l c,.slice b 0 c']) w=.ok (.slice a l c) w:=by unfold Builtin.append_;simp only[List.getElem?_toArray,List.getElem?_cons_zero,List.getElem?_cons_succ,Sem.run_bind,eA f,Result.andThen_ok,o,Sem.run_pure];simp only[Bool.false_eq_true,if_false,Builtin.lenOf,Sem.run_pure,Result.andThen_ok,Nat.add_zero,n,if_true,Bool.not_false];cases b<;>cases a<;>simp[Builtin.firstCells,loadCells,loadCellsFrom,storeCells,Sem.run_bind,Sem.run_pure]<;>(intro h;omega)
 unfold builtin;simp only[Sem.run_bind,p,Result.andThen_ok,Sem.run_pure]
end
def cP(G:Gd):List Dr:=⟨0,0,0⟩::G.doors
def qi(c:Int)(a b:Dr):Int:=if a.st=b.st then iV a.at_ b.at_ else a.at_+b.at_+c*iV a.st b.st
def iW(G:Gd)(i j:Nat):Int:=match(cP G)[i]?,(cP G)[j]? with
 |some a,some b=>qi G.corner a b
 |_,_=>0
def J8(f a:Nat):Value:=.func (.func f) #[] #[.pointer (some ⟨a,0,none⟩)]
def yT(G:Gd)(a:Option Addr)(dc mk ms:Nat)(b c:Value)(f:Nat->Nat->Int)(j:Nat):Value:=
 if j<7 then(gL G a dc).getD j undef else if j<43 then .int .i64 (f ((j-7)/6) ((j-7)%6))else if j=43 then .map (some mk)else if j=44 then .map (some ms)else if j=45 then b else c
structure jO(gp:Nat)(C:Nat->Value)(w:World):Prop where
 out:∃cs,w.heap[gp]? =some (.cells cs 186)/\cs.size=47/\∀j,j<47->cs[j]? =some (C j)
theorem jO.cell{a:Nat}{C:Nat->Value}{w:World}(h:jO a C w)(j:Nat)(b:j<47:=by omega):w.cell? ⟨a,j,none⟩=some (C j):=by obtain⟨e,c,f,d⟩:=h.out;exact cd c (d j b)
theorem jO.ext{a:Nat}{C:Nat->Value}{w w':World}(h:jO a C w)(e:Ext w w'):jO a C w':=by obtain⟨b,c,d,f⟩:=h.out;exact⟨b,e.at_ c,d,f⟩
theorem jO.mono{a:Nat}{C b:Nat->Value}{w:World}(h:jO a C w)(e:∀j,j<47->C j=b j):jO a b w:=by obtain⟨d,f,g,i⟩:=h.out;exact⟨d,f,g,λj c=>by rw[i j c,e j c]⟩
theorem jP:∀(vs:List Value) (cs:Array Value) (o j:Nat),o+vs.length<=cs.size->(er cs o vs)[j]? =if o<=j/\j<o+vs.length then vs[j-o]? else cs[j]?
 |[],cs,o,j,_=>by simp[er];omega
 |v::r,cs,o,j,h=>by
  simp only[List.length_cons]at h;have c:=jP r (cs.setIfInBounds o v) (o+1) j (by simp;omega);simp only[er,c,List.length_cons];by_cases a:o+1<=j/\j<o+1+r.length
  ·rw[if_pos a,if_pos (by omega)];rw[show j-o=(j-(o+1))+1 by omega];simp
  ·rw[if_neg a];by_cases b:o=j
   ·subst b;rw[if_pos (by omega),Array.getElem?_setIfInBounds_self_of_lt (by omega)];simp
   ·rw[if_neg (by omega),Array.getElem?_setIfInBounds_ne b]
theorem ko:∀(vs:List Value) (cs:Array Value) (o:Nat),(er cs o vs).size=cs.size
 |[],_,_=>rfl
 |v::r,cs,o=>by rw[er,ko r];simp
theorem F2{w:World}{s:World->Prop}{a:Nat}{C:Nat->Value}(h:jO a C w){t:TypeId}{o:Nat}{v:Value}(m:o+v.cells.size<=47)(b:∀w',cr (λx=>x=a) w w'->jO a (λj=>if o<=j/\j<o+v.cells.size then v.cells.toList.getD (j-o) undef else C j) w'->s w')
 (c:oF v.cells.toList=true:=by rfl)(d:J4 t=some v.cells.size:=by rfl):yF V.prog (Instr.storeAt t (.pointer (some ⟨a,o,none⟩)) v) w s:=by
 obtain⟨n,e,f,g⟩:=h.out;refine fG e (by omega) (λw' k i=>b w' k ⟨_,i,by rw[ko];exact f,λj l=>?_⟩) (eu c) d;rw[jP _ _ _ _ (by simp;omega)];simp only[Array.length_toList];split
 ·rename_i p;have:j-o<v.cells.toList.length:=by simp;omega
  rw[List.getD_eq_getElem?_getD,List.getElem?_eq_getElem this];rfl
 ·exact g j l
structure kS(gp mk ms:Nat)(G:Gd)(w:World):Prop where
 at_:∃da dc gb,jO gp (yT G da dc mk ms (J8 179 gb) (J8 180 gb) (iW G)) w/\fZ w da G.doors/\w.cell? ⟨gb,5,none⟩=some (.int .i64 G.tries)
 ok:ed G=0
 mlt:mk<w.heap.size
 slt:ms<w.heap.size
 ne:mk≠ms
 gk:gp≠mk/\gp≠ms
theorem kS.ext{gp mk ms:Nat}{G:Gd}{w w':World}(h:kS gp mk ms G w)(e:Ext w w'):kS gp mk ms G w':=by obtain⟨a,b,c,d,f,g⟩:=h.at_;exact⟨⟨a,b,c,d.ext e,f.ext e,e.cell g⟩,h.ok,Nat.lt_of_lt_of_le h.mlt e.size,Nat.lt_of_lt_of_le h.slt e.size,h.ne,h.gk⟩
structure Gd.Ok(G:Gd):Prop where
 streets:1<=G.streets/\G.streets<=3
 corner:1<=G.corner/\G.corner<=9
 knock:1<=G.knock/\G.knock<=5
 minutes:1<=G.minutes/\G.minutes<=90
 days:1<=G.days/\G.days<=3
 tries:1<=G.tries/\G.tries<=G.days
 many:G.doors.length<=5
 door:∀d∈G.doors,(0<=d.st/\d.st<=2)/\(0<=d.at_/\d.at_<=20)/\1<=d.talk/\d.talk<=9
theorem vf{n:Int}(c:n<=3):∀{l:List Dr},jN n l=0->∀d∈l,(0<=d.st/\d.st<=2)/\(0<=d.at_/\d.at_<=20)/\1<=d.talk/\d.talk<=9
 |x::r,h,d,b=>by
  simp only[jN]at h;split at h
  ·rename_i a;rcases List.mem_cons.1 b with rfl|b
   ·simp only[nk]at a;split at a
    ·split at a
     ·rename_i e f;simp[lH]at e f;omega
     ·omega
    ·omega
   ·exact vf c h d b
  ·rename_i a;exact absurd h a
theorem kq{G:Gd}(h:ed G=0):G.Ok:=by
 simp only[ed]at h;split at h
 ·rename_i a;split at h
  ·omega
  ·rename_i b;simp[ly,lH]at a;refine⟨by omega,by omega,by omega,by omega,by omega,by omega,by omega,vf (by omega) h⟩
 ·omega
theorem pt{G:Gd}(h:G.Ok)(i j:Nat):0<=iW G i j/\iW G i j<=1000:=by
 have f:∀d∈cP G,(0<=d.st/\d.st<=2)/\(0<=d.at_/\d.at_<=20):=λd c=>by
  rcases List.mem_cons.1 c with rfl|c
  ·simp
  ·exact⟨(h.door d c).1,(h.door d c).2.1⟩
 unfold iW;split
 ·rename_i a b g k;have m:=f a (List.mem_of_getElem? g);have n:=f b (List.mem_of_getElem? k);have l:=h.corner;unfold qi;split
  ·unfold iV;omega
  ·have e:0<=iV a.st b.st/\iV a.st b.st<=2:=by unfold iV;omega
   have:=Int.mul_le_mul l.2 e.2 e.1 (by omega);have:=Int.mul_nonneg (show 0<=G.corner by omega) e.1;omega
 ·omega
end Go.Proofs.W
