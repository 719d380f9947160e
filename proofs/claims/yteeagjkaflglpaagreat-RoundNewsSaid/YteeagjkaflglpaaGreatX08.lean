/- Laws that the proof needs, part 8. Conditions: none. -/
import Derived.Conc.WgGenN3
import Derived.Test.YteeagjkaflglpaaGreatRows
import Derived.Test.YteeagjkaflglpaaGreatX07
set_option maxRecDepth 100000
set_option maxHeartbeats 8000000
set_option linter.all false
namespace Go.cF.Wg
open Go.Conc Go.ConcN Go.RowKit Go.Conc.Lib Go.ConcR.Gen Go.ConcN.Gen
open Go.ConcR (KK wgBlock WgAt stA smA mk Payload DC0)
variable{L:WgLink}
section
variable(P:cf)(main:Bool)(R:cd->cd->Prop)(Wg:Nat)
def yO(m:Mark)(Next:cj->cd->Prop)(g:cj)(w:cd):Prop:=g.status=.running/\∃a,stepG P main g w=.go a w #[mk m]/\∃k,Goes P main R DC0 Next k a w
def XG(ty:cg)(Fin:cj->cd->Prop)(g:cj)(w:cd):Prop:=g.status=.running/\∀v:Nat,v<2147483647->WgAt ty Wg w (v*KK) 0->∃a,stepG P main g w=.go a (w.setCell (stA Wg) (.int .u64 ((v+1)*KK))) #[ConcR.rd (stA Wg),ConcR.wr (stA Wg)]/\(v=0->∃k,Goes P main R DC0 (yO P main R (.read (smA Wg)) (yO P main R .enable Fin)) k a (w.setCell (stA Wg) (.int .u64 ((v+1)*KK))))/\(v≠0->∃k,Goes P main R DC0 (yO P main R .enable Fin) k a (w.setCell (stA Wg) (.int .u64 ((v+1)*KK))))
end
section
variable{R:cd->cd->Prop}{Wg:Nat}{F:cd->Prop}{main:Bool}{Fin:cj->cd->Prop} {b₀:Frame}{a₀:Act}{ops₀:Array Oper}{i₀:Nat}{rest₀:List Nat}{k₀:List Item}{cs:List Frame}
theorem Wa{P:Program}(H:WgLib P L)(b:∀{w e},F w/\WgLive L.tWg Wg w->R w e->F e/\WgLive L.tWg Wg e)(q:∀w x,F w->F (w.setCell (stA Wg) x))
 (r:Fin=λg w=>g=G (b₀.at (a₀.put ((ops₀[i₀]?).bind (·.dst)) (.tuple #[])) (.inRegion ops₀ rest₀::k₀)) cs/\F w/\WgLive L.tWg Wg w)
 (w:World)(a:F w/\WgLive L.tWg Wg w):
 ∃k,Goes P main R DC0 (yO P main R .disable (XG P main R Wg L.tWg Fin)) k
  (G ((base L.add).at ⟨#[.pointer (some ⟨Wg,0,none⟩),.int .i64 1]++Array.replicate ((addFn L).ntmps-2) undef,[]⟩ [.code (body_add L)]) (b₀.at a₀ (.inRegion ops₀ (i₀::rest₀)::k₀)::cs)) w:=by
 lib_facts
 refine⟨60,?_⟩
 simp only[body_add,addFn,Option.getD_some,Nat.reduceSub,Array.replicate,List.replicate]
 u_c stepG_seq b a
 u_cond true b a
 iterate 2 u_c stepG_seq b a
 u_reg b a
 iterate 2 u_op b a
 u_c stepG_region_end b a
 u_cond false b a
 u_c stepG_skip b a
 u_c stepG_seq b a
 u_reg b a
 refine Goes.stop (λe l=>?_)
 replace a:=b a l
 clear l
 refine⟨rfl,_,stepG_mark0 .disable (by simp) rfl rfl (by k_ne) rfl H.f_disable (x_disable_n L) (x_disable_b L) (x_disable_x L) (x_disable_f L),100,?_⟩
 walk_nrm
 u_c stepG_region_end b a
 u_reg b a
 u_defer b a
 u_c stepG_region_end b a
 u_c stepG_seq b a
 u_reg b a
 u_op b a
 u_c stepG_region_end b a
 iterate 2 u_c stepG_seq b a
 u_reg b a
 u_bub b a
 u_c stepG_region_end b a
 u_cond false b a
 u_c stepG_skip b a
 u_c stepG_seq b a
 u_reg b a
 iterate 6 u_op b a
 u_call H.f_uAdd (nm_uAdd L) uAddFn b a
 u_c stepG_seq b a
 u_reg b a
 u_op b a
 u_c stepG_region_end b a
 u_c stepG_seq b a
 u_reg b a
 iterate 4 u_op b a
 refine Goes.stop (λc m=>?_)
 replace a:=b a m
 clear m
 refine⟨rfl,λv D j=>?_⟩
 rcases Nat.eq_zero_or_pos v with rfl|y
 ·
  replace j:WgAt L.tWg Wg c 0 0:=by simpa using j
  have z:(((0:Nat):Int)+1)*KK=KK:=by simp
  rw[z]
  have A:IntKind.u64.wrap (0+4294967296)=KK:=by decide
  refine⟨_,(stepG_add_atomic rfl rfl (by k_ne) rfl H.f_addU64 (x_addU64_n L) (x_addU64_b L) (x_addU64_x L) .u64 (x_addU64_f L) rfl rfl j.cellSt (j.thaw 0)).trans (by rw[A];rfl),λ_=>⟨100,?_⟩,λh=>absurd rfl h⟩
  replace a:F (c.setCell (stA Wg) (.int .u64 KK))/\WgLive L.tWg Wg (c.setCell (stA Wg) (.int .u64 KK)):=⟨q _ _ a.1,⟨_,_,j.setSt _⟩⟩
  clear j
  simp only[KK]at a⊢
  walk_nrm
  u_op b a
  u_c stepG_region_end b a
  u_c stepG_ret' b a
  u_leave1 H.f_uAdd b a
  u_op b a
  u_c stepG_region_end b a
  iterate 2 u_c stepG_seq b a
  u_reg b a
  iterate 4 u_op b a
  iterate 2 u_skip b a
  u_op b a
  u_c stepG_region_end b a
  u_cond false b a
  u_c stepG_skip b a
  u_c stepG_seq b a
  u_reg b a
  iterate 4 u_op b a
  u_c stepG_region_end b a
  u_c stepG_seq b a
  u_reg b a
  iterate 4 u_op b a
  u_c stepG_region_end b a
  iterate 2 u_c stepG_seq b a
  u_reg b a
  iterate 10 u_op b a
  u_c stepG_region_end b a
  u_cond true b a
  u_reg b a
  iterate 3 u_op b a
  u_conv H.underlying_tPU32 H.room_tU32 (WgLive.cell1 a.2).choose_spec b a
  refine Goes.stop (λs n=>?_)
  replace a:=b a n
  clear n
  refine⟨rfl,_,stepG_markAt .read (by simp) rfl rfl (by k_ne) rfl H.f_raceRead (x_raceRead_n L) (x_raceRead_b L) (x_raceRead_x L) (x_raceRead_f L) (ad:=⟨Wg,1,none⟩) (by simp[Act.eval]),100,?_⟩
  walk_nrm
  u_c stepG_region_end b a
  iterate 2 u_c stepG_seq b a
  u_reg b a
  iterate 2 u_op b a
  u_c stepG_region_end b a
  u_cond false b a
  u_c stepG_skip b a
  iterate 2 u_c stepG_seq b a
  u_reg b a
  iterate 3 u_op b a
  iterate 2 u_skip b a
  iterate 2 u_op b a
  iterate 4 u_skip b a
  u_op b a
  u_c stepG_region_end b a
  u_cond false b a
  u_c stepG_skip b a
  iterate 2 u_c stepG_seq b a
  u_reg b a
  iterate 3 u_op b a
  iterate 2 u_skip b a
  u_op b a
  u_c stepG_region_end b a
  u_cond true b a
  u_c stepG_ret' b a
  refine Goes.stop (λo d=>?_)
  replace a:=b a d
  clear d
  refine⟨rfl,_,stepG_unwind_entry (v:=.tuple #[]) (evs:=#[mk .enable]) rfl H.f_enable (x_enable_n L) (x_enable_b L) (x_enable_x L) (x_enable_f L) (by simp[Extern.Race.none_]) (by simp[mk]) (by simp[mk]),10,?_⟩
  u_leave0 H.f_add b a
  subst r
  exact Goes.stop λp i=>⟨rfl,b a i⟩
 ·
  obtain⟨S,f⟩:∃S:Int,S=((v:Int)+1)*KK:=⟨_,rfl⟩
  obtain⟨V,t⟩:∃V:Int,V=(v:Int)+1:=⟨_,rfl⟩
  have u:IntKind.u64.wrap ((v:Int)*KK+4294967296)=S:=by rw[IntKind.wrap_u64,f];simp only[KK];omega
  rw[<-f]
  have E:S/4294967296=V:=by rw[f,t];simp only[KK];omega
  have I:bits .and .u64 S 2147483648=0:=by rw[f];have:=st_flag (v+1) 0 (by omega) (by omega);simpa[KK]using this
  have J:bits .and .u64 S 2147483647=0:=by rw[f];have:=st_waiters (v+1) 0 (by omega) (by omega);simpa[KK]using this
  have K:IntKind.i32.wrap V=V:=by rw[IntKind.wrap_i32];omega
  have B:1<V:=by omega
  have C:V<2147483648:=by omega
  have M:(V==1)=false:=by simp;omega
  have N:decide (V=1)=false:=decide_eq_false (by omega)
  have O:decide (V<0)=false:=decide_eq_false (by omega)
  have Q:decide (0<V)=true:=decide_eq_true (by omega)
  have T:(V==0)=false:=by simp;omega
  have U:decide (V=0)=false:=decide_eq_false (by omega)
  refine⟨_,(stepG_add_atomic rfl rfl (by k_ne) rfl H.f_addU64 (x_addU64_n L) (x_addU64_b L) (x_addU64_x L) .u64 (x_addU64_f L) rfl rfl j.cellSt (j.thaw 0)).trans (by rw[u];rfl),λh=>absurd h (by omega),λ_=>⟨110,?_⟩⟩
  replace a:F (c.setCell (stA Wg) (.int .u64 S))/\WgLive L.tWg Wg (c.setCell (stA Wg) (.int .u64 S)):=⟨q _ _ a.1,⟨_,_,j.setSt _⟩⟩
  clear j f t u
  walk_nrm
  u_op b a
  u_c stepG_region_end b a
  u_c stepG_ret' b a
  u_leave1 H.f_uAdd b a
  u_op b a
  u_c stepG_region_end b a
  iterate 2 u_c stepG_seq b a
  u_reg b a
  iterate 4 u_op b a
  iterate 2 u_skip b a
  u_op b a
  u_c stepG_region_end b a
  u_cond false b a
  u_c stepG_skip b a
  u_c stepG_seq b a
  u_reg b a
  iterate 4 u_op b a
  u_c stepG_region_end b a
  u_c stepG_seq b a
  u_reg b a
  iterate 4 u_op b a
  u_c stepG_region_end b a
  iterate 2 u_c stepG_seq b a
  u_reg b a
  iterate 10 u_op b a
  u_c stepG_region_end b a
  u_cond false b a
  u_c stepG_skip b a
  iterate 2 u_c stepG_seq b a
  u_reg b a
  iterate 2 u_op b a
  u_c stepG_region_end b a
  u_cond false b a
  u_c stepG_skip b a
  iterate 2 u_c stepG_seq b a
  u_reg b a
  iterate 3 u_op b a
  iterate 2 u_skip b a
  iterate 2 u_op b a
  iterate 4 u_skip b a
  u_op b a
  u_c stepG_region_end b a
  u_cond false b a
  u_c stepG_skip b a
  iterate 2 u_c stepG_seq b a
  u_reg b a
  iterate 3 u_op b a
  iterate 2 u_skip b a
  u_op b a
  u_c stepG_region_end b a
  u_cond true b a
  u_c stepG_ret' b a
  refine Goes.stop (λo d=>?_)
  replace a:=b a d
  clear d
  refine⟨rfl,_,stepG_unwind_entry (v:=.tuple #[]) (evs:=#[mk .enable]) rfl H.f_enable (x_enable_n L) (x_enable_b L) (x_enable_x L) (x_enable_f L) (by simp[Extern.Race.none_]) (by simp[mk]) (by simp[mk]),10,?_⟩
  u_leave0 H.f_add b a
  subst r
  exact Goes.stop λp i=>⟨rfl,b a i⟩
end
variable{L:WgLink}
section
variable(P:cf)(main:Bool)(R:cd->cd->Prop)(Wg:Nat)
def Bq(m:Mark)(Next:cj->cd->Prop)(g:cj)(w:cd):Prop:=g.status=.running/\∃a,stepG P main g w=.go a w #[mk m]/\∃k,Goes P main R DC0 Next k a w
def Wb(Fin:cj->cd->Prop):cj->cd->Prop:=Bq P main R .enable (Bq P main R (.acquire (stA Wg)) Fin)
def YL(ty:cg)(Fin:cj->cd->Prop)(g:cj)(w:cd):Prop:=g.status=.running/\(WgAt ty Wg w 0 0->∃a,stepG P main g w=.go a w #[ConcR.rd (stA Wg)]/\∃k,Goes P main R DC0 (Wb P main R Wg Fin) k a w)
def YM(ty:cg)(Fin:cj->cd->Prop)(g:cj)(w:cd):Prop:=g.status=.running/\g.offers=none/\((∃b,WgAt ty Wg w b 0)->stepG P main g w=.go {g with status:=.blocked} w #[])/\
 (WgAt ty Wg w 0 1->∃a,stepG P main g w=.go a (w.setCell (smA Wg) (.int .u32 0)) (semEvents (smA Wg))/\∃k,Goes P main R DC0 (YL P main R Wg ty Fin) k a (w.setCell (smA Wg) (.int .u32 0)))
def YN(ty:cg)(a Fin:cj->cd->Prop)(vs:Nat)(g:cj)(w:cd):Prop:=g.status=.running/\∀v:Nat,v<2147483648->WgAt ty Wg w (v*KK) 0->(v=vs->∃b,stepG P main g w=.go b (w.setCell (stA Wg) (.int .u64 (v*KK+1))) #[ConcR.rd (stA Wg),ConcR.wr (stA Wg)]/\∃k,Goes P main R DC0 (Bq P main R (.write (smA Wg)) (YM P main R Wg ty Fin)) k b (w.setCell (stA Wg) (.int .u64 (v*KK+1))))/\(v≠vs->∃b,stepG P main g w=.go b w #[ConcR.rd (stA Wg)]/\∃k,Goes P main R DC0 a k b w)
def XH(ty:cg)(a Fin:cj->cd->Prop)(g:cj)(w:cd):Prop:=g.status=.running/\∀v:Nat,v<2147483648->WgAt ty Wg w (v*KK) 0->∃b,stepG P main g w=.go b w #[ConcR.rd (stA Wg)]/\(v=0->∃k,Goes P main R DC0 (Wb P main R Wg Fin) k b w)/\(v≠0->∃k,Goes P main R DC0 (YN P main R Wg ty a Fin v) k b w)
end
section
variable{R:cd->cd->Prop}{Wg:Nat}{F:cd->Prop}{main:Bool}{Fin:cj->cd->Prop} {b₀:Frame}{a₀:Act}{ops₀:Array Oper}{i₀:Nat}{rest₀:List Nat}{k₀:List Item}{cs:List Frame}
theorem G4{P:cf}(H:WgLib P L)(c:∀{w a},F w/\WgLive L.tWg Wg w->R w a->F a/\WgLive L.tWg Wg a)(w:cd)(b:F w/\WgLive L.tWg Wg w):∃k,Goes P main R DC0 (Bq P main R .disable (AnchWN L F Wg (b₀.at a₀ (.inRegion ops₀ (i₀::rest₀)::k₀)) cs)) k (G ((base L.wait).at ⟨#[.pointer (some ⟨Wg,0,none⟩)]++Array.replicate ((waitFn L).ntmps-1) undef,[]⟩ [.code (body_wait L)]) (b₀.at a₀ (.inRegion ops₀ (i₀::rest₀)::k₀)::cs)) w:=by lib_facts;refine⟨30,?_⟩;simp only[body_wait,waitFn,kC,Nat.reduceSub,Array.replicate,List.replicate];u_c iv c b;u_cond true c b;u_reg c b;refine Ra (λa d=>?_);replace b:=c b d;clear d;refine⟨rfl,_,stepG_mark0 .disable (by simp) rfl rfl (by k_ne) rfl H.f_disable (x_disable_n L) (x_disable_b L) (x_disable_x L) (x_disable_f L),3,?_⟩;walk_nrm;u_c iH c b;u_c GI c b;u_c stepG_loop c b;exact Ra (λf e=>⟨_,rfl,by simp,by simp,c b e⟩)
theorem G5{P:Program}(H:WgLib P L)(b:∀{w d},F w/\WgLive L.tWg Wg w->R w d->F d/\WgLive L.tWg Wg d)(K:∀w x,F w->F (w.setCell (stA Wg) x))(E:∀w x,F w->F (w.setCell (smA Wg) x))
 (o:Fin=λg w=>g=G (b₀.at (a₀.put ((ops₀[i₀]?).bind (·.dst)) (.tuple #[])) (.inRegion ops₀ rest₀::k₀)) cs/\F w/\WgLive L.tWg Wg w)
 (g:Goroutine)(w:World)(h:AnchWN L F Wg (b₀.at a₀ (.inRegion ops₀ (i₀::rest₀)::k₀)) cs g w):
 ∃k,Goes P main R DC0 (XH P main R Wg L.tWg (AnchWN L F Wg (b₀.at a₀ (.inRegion ops₀ (i₀::rest₀)::k₀)) cs) Fin) k g w:=by
 lib_facts
 obtain⟨T,rfl,y,I,a⟩:=h
 obtain⟨v0,v1,v2,v3,v4,v5,v6,v7,v8,v9,M,N,O,Q,U,V,W,X,Y,Z,aa,ab,ac,ae,af,ag,ah,ai,aj,ak,al,am,an,ao,ap,aq,ar,au,av,aw,ax,ay,az,aA,aB,aC,aD,aE,aF,aG,aH,aI,aJ,aK,aL,aM,aN,aO,aP,aQ,aR,aS,aT,aU,aV,aW,aX,aY,aZ,a0,a2,a3,a4,a5,a6,a7,a8,a9,ba,bb,bc,bd,be,bf,rfl⟩:=array84 T y
 simp only[List.getElem?_toArray,List.getElem?_cons_zero,Option.some.injEq]at I
 subst I
 refine⟨40,?_⟩
 simp only[L7,body_wait,waitFn,Option.getD_some]
 u_c stepG_block b a
 u_c stepG_seq b a
 u_reg b a
 iterate 3 u_op b a
 u_call H.f_uLoad (nm_uLoad L) uLoadFn b a
 u_c stepG_seq b a
 u_reg b a
 u_op b a
 u_c stepG_region_end b a
 u_c stepG_seq b a
 u_reg b a
 iterate 3 u_op b a
 refine Goes.stop (λd p=>?_)
 replace a:=b a p
 clear p
 refine⟨rfl,λv hv c=>?_⟩
 rcases Nat.eq_zero_or_pos v with rfl|bg
 ·
  replace c:WgAt L.tWg Wg d 0 0:=by simpa using c
  refine⟨_,stepG_load_atomic (v:=0) rfl rfl (by k_ne) rfl H.f_loadU64 (x_loadU64_n L) (x_loadU64_b L) (x_loadU64_x L) .u64 (x_loadU64_f L) rfl c.cellSt,λ_=>⟨80,?_⟩,λh=>absurd rfl h⟩
  clear c
  walk_nrm
  u_op b a
  u_c stepG_region_end b a
  u_c stepG_ret' b a
  u_leave1 H.f_uLoad b a
  u_op b a
  u_c stepG_region_end b a
  u_c stepG_seq b a
  u_reg b a
  iterate 4 u_op b a
  u_c stepG_region_end b a
  u_c stepG_seq b a
  u_reg b a
  iterate 4 u_op b a
  u_c stepG_region_end b a
  iterate 2 u_c stepG_seq b a
  u_reg b a
  iterate 2 u_op b a
  u_c stepG_region_end b a
  u_cond true b a
  u_c stepG_seq b a
  u_cond true b a
  u_c stepG_seq b a
  u_reg b a
  refine Goes.stop (λz f=>?_)
  replace a:=b a f
  clear f
  refine⟨rfl,_,stepG_mark0 .enable (by simp) rfl rfl (by k_ne) rfl H.f_enable (x_enable_n L) (x_enable_b L) (x_enable_x L) (x_enable_f L),20,?_⟩
  walk_nrm
  u_c stepG_region_end b a
  u_reg b a
  u_op b a
  u_conv H.underlying_tWgP H.room_tWg (WgLive.cell0 a.2).choose_spec b a
  refine Goes.stop (λA i=>?_)
  replace a:=b a i
  clear i
  refine⟨rfl,_,stepG_markAt .acquire (by simp) rfl rfl (by k_ne) rfl H.f_acquire (x_acquire_n L) (x_acquire_b L) (x_acquire_x L) (x_acquire_f L) (by simp[Act.eval,stA]),40,?_⟩
  walk_nrm
  u_c stepG_region_end b a
  iterate 2 u_c stepG_seq b a
  u_reg b a
  iterate 8 u_op b a
  iterate 2 u_skip b a
  u_op b a
  u_c stepG_region_end b a
  u_cond false b a
  u_c stepG_skip b a
  u_c stepG_ret' b a
  u_leave0 H.f_wait b a
  subst o
  exact Goes.stop λB m=>⟨rfl,b a m⟩
 ·
  obtain⟨S,j⟩:∃S:Int,(v:Int)*KK=S:=⟨_,rfl⟩
  have a1:S/4294967296=(v:Int):=by rw[<-j];simp only[KK];omega
  have b1:bits .and .u64 S 2147483648=0:=by rw[<-j];have:=st_flag v 0 (by omega) (by omega);simpa[KK]using this
  have b2:bits .and .u64 S 2147483647=0:=by rw[<-j];have:=st_waiters v 0 (by omega) (by omega);simpa[KK]using this
  have c1:IntKind.i32.wrap (v:Int)=(v:Int):=by rw[IntKind.wrap_i32];omega
  have w1:IntKind.u64.wrap (S+1)=S+1:=by rw[IntKind.wrap_u64,<-j];simp only[KK];omega
  have q3:decide ((v:Int)<0)=false:=decide_eq_false (by omega)
  have q4:decide (0<(v:Int))=true:=decide_eq_true (by omega)
  have q5:((v:Int)==0)=false:=by simp;omega
  have q6:decide ((v:Int)=0)=false:=decide_eq_false (by omega)
  rw[j]at c
  refine⟨_,stepG_load_atomic (v:=S) rfl rfl (by k_ne) rfl H.f_loadU64 (x_loadU64_n L) (x_loadU64_b L) (x_loadU64_x L) .u64 (x_loadU64_f L) rfl c.cellSt,λh0=>absurd h0 (by omega),λ_=>⟨80,?_⟩⟩
  clear c
  walk_nrm
  u_op b a
  u_c stepG_region_end b a
  u_c stepG_ret' b a
  u_leave1 H.f_uLoad b a
  u_op b a
  u_c stepG_region_end b a
  u_c stepG_seq b a
  u_reg b a
  iterate 4 u_op b a
  u_c stepG_region_end b a
  u_c stepG_seq b a
  u_reg b a
  iterate 4 u_op b a
  u_c stepG_region_end b a
  iterate 2 u_c stepG_seq b a
  u_reg b a
  iterate 2 u_op b a
  u_c stepG_region_end b a
  u_cond false b a
  u_c stepG_skip b a
  u_c stepG_seq b a
  u_reg b a
  iterate 6 u_op b a
  u_call H.f_uCas (nm_uCas L) uCasFn b a
  u_c stepG_seq b a
  u_reg b a
  u_op b a
  u_c stepG_region_end b a
  u_c stepG_seq b a
  u_reg b a
  iterate 5 u_op b a
  refine Goes.stop (λq r=>?_)
  replace a:=b a r
  clear r
  refine⟨rfl,λv' bh c=>⟨λe=>?_,λe=>?_⟩⟩
  ·
   subst e
   rw[j]at c⊢
   refine⟨_,(stepG_cas_hit (v:=S) (n:=S+1) rfl rfl (by k_ne) rfl H.f_casU64 (x_casU64_n L) (x_casU64_b L) (x_casU64_x L) .u64 (x_casU64_f L) rfl rfl rfl c.cellSt (c.thaw 0)).trans (by rfl),80,?_⟩
   replace a:F (q.setCell (stA Wg) (.int .u64 (S+1)))/\WgLive L.tWg Wg (q.setCell (stA Wg) (.int .u64 (S+1))):=⟨K _ _ a.1,⟨_,_,c.setSt _⟩⟩
   clear c
   walk_nrm
   u_op b a
   u_c stepG_region_end b a
   u_c stepG_ret' b a
   u_leave1 H.f_uCas b a
   u_c stepG_region_end b a
   u_cond true b a
   iterate 2 u_c stepG_seq b a
   u_reg b a
   iterate 4 u_op b a
   u_c stepG_region_end b a
   u_cond true b a
   u_reg b a
   iterate 3 u_op b a
   u_conv H.underlying_tPU32 H.room_tU32 (WgLive.cell1 a.2).choose_spec b a
   refine Goes.stop (λC l=>?_)
   replace a:=b a l
   clear l
   refine⟨rfl,_,stepG_markAt .write (by simp) rfl rfl (by k_ne) rfl H.f_raceWrite (x_raceWrite_n L) (x_raceWrite_b L) (x_raceWrite_x L) (x_raceWrite_f L) (ad:=⟨Wg,1,none⟩) (by simp[Act.eval]),60,?_⟩
   walk_nrm
   u_c stepG_region_end b a
   u_c stepG_seq b a
   u_reg b a
   u_op b a
   u_c stepG_region_end b a
   iterate 2 u_c stepG_seq b a
   u_reg b a
   iterate 4 u_op b a
   u_skip b a
   u_op b a
   u_c stepG_region_end b a
   u_cond false b a
   u_c stepG_skip b a
   u_c stepG_seq b a
   u_reg b a
   iterate 4 u_op b a
   refine Goes.stop (λs t=>?_)
   replace a:=b a t
   clear t
   refine⟨rfl,rfl,λ⟨st,c⟩=>stepG_semacquire_wait rfl rfl rfl H.f_semacquire (x_semacquire_n L) (x_semacquire_b L) (x_semacquire_x L) (x_semacquire_f L) (by simp[Act.eval,smA]) c.cellSm,λD=>?_⟩
   refine⟨_,(stepG_semacquire (n:=1) rfl rfl (by k_ne) rfl H.f_semacquire (x_semacquire_n L) (x_semacquire_b L) (x_semacquire_x L) (x_semacquire_f L) (by simp[Act.eval,smA]) D.cellSm (by k_ne) (D.thaw 1)).trans (by rfl),50,?_⟩
   replace a:F (s.setCell (smA Wg) (.int .u32 0))/\WgLive L.tWg Wg (s.setCell (smA Wg) (.int .u32 0)):=⟨E _ _ a.1,⟨_,_,D.setSm 0⟩⟩
   clear D
   walk_nrm
   u_c stepG_region_end b a
   u_c stepG_seq b a
   u_reg b a
   iterate 3 u_op b a
   u_call H.f_uLoad (nm_uLoad L) uLoadFn b a
   u_c stepG_seq b a
   u_reg b a
   u_op b a
   u_c stepG_region_end b a
   u_c stepG_seq b a
   u_reg b a
   iterate 3 u_op b a
   refine Goes.stop (λJ u=>?_)
   replace a:=b a u
   clear u
   refine⟨rfl,λc=>⟨_,stepG_load_atomic (v:=0) rfl rfl (by k_ne) rfl H.f_loadU64 (x_loadU64_n L) (x_loadU64_b L) (x_loadU64_x L) .u64 (x_loadU64_f L) rfl c.cellSt,50,?_⟩⟩
   clear c
   walk_nrm
   u_op b a
   u_c stepG_region_end b a
   u_c stepG_ret' b a
   u_leave1 H.f_uLoad b a
   iterate 2 u_op b a
   u_c stepG_region_end b a
   u_c stepG_seq b a
   u_cond true b a
   u_c stepG_seq b a
   u_reg b a
   refine Goes.stop (λz f=>?_)
   replace a:=b a f
   clear f
   refine⟨rfl,_,stepG_mark0 .enable (by simp) rfl rfl (by k_ne) rfl H.f_enable (x_enable_n L) (x_enable_b L) (x_enable_x L) (x_enable_f L),20,?_⟩
   walk_nrm
   u_c stepG_region_end b a
   u_reg b a
   u_op b a
   u_conv H.underlying_tWgP H.room_tWg (WgLive.cell0 a.2).choose_spec b a
   refine Goes.stop (λA i=>?_)
   replace a:=b a i
   clear i
   refine⟨rfl,_,stepG_markAt .acquire (by simp) rfl rfl (by k_ne) rfl H.f_acquire (x_acquire_n L) (x_acquire_b L) (x_acquire_x L) (x_acquire_f L) (by simp[Act.eval,stA]),40,?_⟩
   walk_nrm
   u_c stepG_region_end b a
   iterate 2 u_c stepG_seq b a
   u_reg b a
   u_op b a
   u_c stepG_region_end b a
   u_cond false b a
   u_c stepG_skip b a
   u_c stepG_ret' b a
   u_leave0 H.f_wait b a
   subst o
   exact Goes.stop λB m=>⟨rfl,b a m⟩
  ·
   refine⟨_,stepG_cas_miss (v:=(v':Int)*KK) (old:=S) (n:=S+1) rfl rfl (by k_ne) rfl H.f_casU64 (x_casU64_n L) (x_casU64_b L) (x_casU64_x L) .u64 (x_casU64_f L) rfl rfl rfl c.cellSt (c.thaw 0) (by rw[<-j];simp only[KK];omega),12,?_⟩
   clear c
   walk_nrm
   u_op b a
   u_c stepG_region_end b a
   u_c stepG_ret' b a
   u_leave1 H.f_uCas b a
   u_c stepG_region_end b a
   u_cond false b a
   u_c stepG_skip b a
   u_c stepG_inBlock b a
   u_c stepG_inLoop b a
   refine Goes.stop (λC l=>?_)
   replace a:=b a l
   exact⟨_,rfl,by simp,by simp,a⟩
end
end Go.cF.Wg
namespace Go.cF.Cr
open Go.Conc Go.cF Go.cF.Kn Go.cF.Wg
open Go.ConcR (KK wgBlock WgAt stA smA mk DC0)
open Go.ConcN (sumTo upd)
section
variable{P:cf}{main:Bool}{own rd:Nat->Prop}{L:cd->Prop}
theorem wR{D:cd->cd->Array Event->Prop}{S:cj->cd->Prop}{S':gF}(e:∀w w' es,D w w' es->LX own rd w w' es own)(c:∀g w,S g w->S' own g w):∀{m:Nat} {g:cj} {w:cd},Goes P main (dG own rd L) D S m g w->∃d,Way P main rd L S' d own g w
 |0,g,w,h=>⟨.leaf,.here λw1 a=>c _ _ (h w1 a)⟩
 |m+1,g,w,h=>by
  rcases h with h|⟨f,h⟩;exact⟨.leaf,.here λw1 a=>c _ _ (h w1 a)⟩;refine Way.mk f λw1 a=>?_;have b:=h w1 a;revert b;cases i:stepG P main g w1 with
  |go j w' es=>
   intro b;obtain⟨k,l⟩:=b;obtain⟨d,n⟩:=wR e c l;exact⟨j,w',es,own,d,rfl,e _ _ _ k,n⟩
  |_=>exactλb=>b.elim
def yP{w:cd}{es:Array Event}(h:∀e∈es,EvW own rd w.heap.size w.heap.size e):LX own rd w w es own:=
 ⟨rfl,rfl,rfl,cz _,λb=>⟨.inl,λh=>h.elim id λh=>by omega⟩,λ_ _ _=>rfl,h⟩
def PM(w w':cd)(es:Array Event)(h:DC0 w w' es):LX own rd w w' es own:=by obtain⟨rfl,rfl⟩:=h;exact yP λe a=>by simp at a
variable{ty:cg}{Wg Ch n:Nat}
def nX{S:gF}{g:cj}{w:cd}(h:∀w1,dG own rd (Lv ty Wg) w w1->S own g w1):Wy P ty Wg main rd S own g w:=⟨.leaf,.here h⟩
def iI{S:cj->cd->Prop}{S':gF}{m:Nat}{g:cj}{w:cd}(h:Goes P main (dG own rd (Lv ty Wg)) DC0 S m g w)(a:∀g w,S g w->S' own g w):Wy P ty Wg main rd S' own g w:=
 wR PM a h
theorem Wy.bind{S S':gF}{g:cj}{w:cd}(h:Wy P ty Wg main rd S own g w)(a:∀own g w,S own g w->Wy P ty Wg main rd S' own g w):Wy P ty Wg main rd S' own g w:=by obtain⟨b,h⟩:=h;exact Way.bind h a
def uw{S:cj->cd->Prop}{S':gF}{m:Nat}{g:cj}{w:cd}(h:Goes P main (dG own rd (Lv ty Wg)) DC0 S m g w)(a:∀g w,S g w->Wy P ty Wg main rd S' own g w):Wy P ty Wg main rd S' own g w:=
 (iI (S':=λo g w=>o=own/\S g w) h λ_ _ h=>⟨rfl,h⟩).bind λo g w ⟨e,b⟩=>by subst e;exact a g w b
def vO{m:Mark}{Next:cj->cd->Prop}{N:gF}(a:∀{k:Nat} {g:cj} {w:cd},Goes P main (dG own rd (Lv ty Wg)) DC0 Next k g w->Wy P ty Wg main rd N own g w){g:cj}{w:cd} (h:yO P main (dG own rd (Lv ty Wg)) m Next g w):pC P main m (Wy P ty Wg main rd N) own g w:=by obtain⟨b,c,d,k,e⟩:=h;exact⟨b,c,d,a e⟩
def G6{rd0:Nat->Prop}{val:Nat->ce->(Nat->Prop)->cd->Prop}{i:Nat}{Next:gF}{a:cj->cd->Prop}{m:Nat}{g:cj}{w:cd} (h:Goes P true (dG own rd0 (Lv ty Wg)) DC0 (yO P true (dG own rd0 (Lv ty Wg)) .disable (XG P true (dG own rd0 (Lv ty Wg)) Wg ty a)) m g w) (f:∀g w,a g w->Wy P ty Wg true rd0 (Vv P ty Wg Ch rd0 val i Next) own g w):Wy P ty Wg true rd0 (Um P ty Wg Ch rd0 val i Next) own g w:=by
 have b:∀{k:Nat} {g:cj} {w:cd},Goes P true (dG own rd0 (Lv ty Wg)) DC0 (yO P true (dG own rd0 (Lv ty Wg)) .enable a) k g w->Wy P ty Wg true rd0 (Vw P ty Wg Ch rd0 val i Next) own g w:=λh=>
  iI h λg w h=>vO (λh=>uw h f) h
 refine iI h λg w h=>vO (λh=>iI h λg w ⟨j,l⟩=>⟨j,λv n o=>?_⟩) h;obtain⟨p,e,q,r⟩:=l v n o;refine⟨p,e,λc=>?_,λc=>?_⟩;obtain⟨k,d⟩:=q c;exact iI d λg w h=>vO b h;obtain⟨k,d⟩:=r c;exact b d
def pG{m:Mark}{Next:cj->cd->Prop}{N:gF}(a:∀{k:Nat} {g:cj} {w:cd},Goes P main (dG own rd (Lv ty Wg)) DC0 Next k g w->Wy P ty Wg main rd N own g w){g:cj}{w:cd} (h:Bq P main (dG own rd (Lv ty Wg)) m Next g w):pC P main m (Wy P ty Wg main rd N) own g w:=by obtain⟨b,c,d,k,e⟩:=h;exact⟨b,c,d,a e⟩
end
end Go.cF.Cr
namespace Go.cF.Wg
open Go.Conc Go.ConcN Go.RowKit Go.Conc.Lib Go.ConcR.Gen Go.ConcN.Gen Go.cF
open Go.ConcR (KK wgBlock WgAt stA smA mk Payload DC0)
variable{L:WgLink}
theorem lh{P:cf}:∀{n a d:Nat} {g:cj},n<=a->QuitsD P n d g->QuitsD P a d g
 |0,0,_,_,_,h=>h
 |0,_+1,_,_,_,h=>.inl h
 |n+1,0,_,_,b,_=>absurd b (by omega)
 |n+1,a+1,_,_,b,h=>h.imp id λ⟨c,g',es,e,f,i⟩=>⟨c,g',es,e,f,lh (by omega) i⟩
section
variable{Wg:Nat}{b₀:Frame}{a₀:Act}{ops₀:Array Oper}{i₀:Nat}{rest₀:List Nat}{k₀:List Item}{cs:List Frame}{qt:Nat}
set_option maxRecDepth 100000 in
set_option maxHeartbeats 16000000 in
theorem PN      {P : Program} (H : WgLib P L) (hT : QuitsD P qt 0 (G (b₀.at (a₀.put ((ops₀[i₀]?).bind (·.dst)) (.tuple #[])) (.inRegion ops₀ rest₀ :: k₀)) cs)) (w : World) (hK : True ∧ WgLive L.tWg Wg w) :
    Goes P false (dG   Cr.cC     Cr.cC     (Cr.Lv L.tWg Wg)) DC0 (Cr.R0 P L.tWg Wg) 40
      (G ((base L.add).at ⟨#[.pointer (some ⟨Wg, 0, none⟩), .int .i64 (-1)] ++ Array.replicate ((addFn L).ntmps - 2) undef, []⟩ [.code (body_add L)]) (b₀.at a₀ (.inRegion ops₀ (i₀ :: rest₀) :: k₀) :: cs)) w := by
  have hR : ∀ {w SU : World}, True ∧ WgLive L.tWg Wg w → dG   Cr.cC     Cr.cC     (Cr.Lv L.tWg Wg) w SU → True ∧ WgLive L.tWg Wg SU := fun h r => ⟨trivial, r.live h.2⟩
  lib_facts
  simp only [body_add, addFn, Option.getD_some, Nat.reduceSub, Array.replicate, List.replicate]
  u_c stepG_seq hR hK
  u_cond true hR hK
  iterate 2 u_c stepG_seq hR hK
  u_reg hR hK
  iterate 2 u_op hR hK
  u_c stepG_region_end hR hK
  u_cond true hR hK
  u_reg hR hK
  u_op hR hK
  u_conv H.underlying_tWgP H.room_tWg (WgLive.cell0 hK.2).choose_spec hR hK
  refine Goes.stop (fun SU Ut => ?_)
  replace hK := hR hK Ut
  clear Ut
  refine ⟨rfl, _, stepG_markAt .releaseMerge (by simp) rfl rfl (by k_ne) rfl H.f_relMerge (x_relMerge_n L) (x_relMerge_b L) (x_relMerge_x L) (x_relMerge_f L) (by simp [Act.eval, stA]), 20, ?_⟩
  walk_nrm
  u_c stepG_region_end hR hK
  u_c stepG_seq hR hK
  u_reg hR hK
  refine Goes.stop (fun YO Uu => ?_)
  replace hK := hR hK Uu
  clear Uu
  refine ⟨rfl, _, stepG_mark0 .disable (by simp) rfl rfl (by k_ne) rfl H.f_disable (x_disable_n L) (x_disable_b L) (x_disable_x L) (x_disable_f L), 80, ?_⟩
  walk_nrm
  u_c stepG_region_end hR hK
  u_reg hR hK
  u_defer hR hK
  u_c stepG_region_end hR hK
  u_c stepG_seq hR hK
  u_reg hR hK
  u_op hR hK
  u_c stepG_region_end hR hK
  iterate 2 u_c stepG_seq hR hK
  u_reg hR hK
  u_bub hR hK
  u_c stepG_region_end hR hK
  u_cond false hR hK
  u_c stepG_skip hR hK
  u_c stepG_seq hR hK
  u_reg hR hK
  iterate 6 u_op hR hK
  u_call H.f_uAdd (nm_uAdd L) uAddFn hR hK
  u_c stepG_seq hR hK
  u_reg hR hK
  u_op hR hK
  u_c stepG_region_end hR hK
  u_c stepG_seq hR hK
  u_reg hR hK
  iterate 4 u_op hR hK
  refine Goes.stop (fun MI Wc => ?_)
  clear Wc hK
  refine ⟨rfl, fun v wt Z7  hv hw => ?_⟩
  have e0 : IntKind.u64.wrap (KK + 18446744069414584320) = 0 := by decide
  have e1 : IntKind.u64.wrap (KK + 1 + 18446744069414584320) = 1 := by decide
  rcases Nat.eq_zero_or_pos v with rfl | Z8  <;> (obtain rfl | rfl : wt = 0 ∨ wt = 1 := by omega)
  ·
    replace hw : WgAt L.tWg Wg MI KK 0 := by simpa using hw
    have z : ((0 : Nat) : Int) * KK + ((0 : Nat) : Int) = 0 := by simp
    rw [z]
    refine ⟨_, (stepG_add_atomic rfl rfl (by k_ne) rfl H.f_addU64 (x_addU64_n L) (x_addU64_b L) (x_addU64_x L) .u64 (x_addU64_f L) rfl rfl hw.cellSt (hw.thaw 0)).trans (by rw [e0]; rfl), fun hl => absurd hl.2 (by decide), fun _ => ⟨qt + 90, ?_⟩⟩
    clear hw
    walk_nrm
    (refine QuitsD.value ?_ rfl rfl (by k_ne) (fun _ => ?_) (fun _ => by simp [go_sem, *]) ?_; rotate_left; (go_simp; (try (first | omega | (w_num; omega) | w_num | decide)); rfl); walk_nrm)
    q_c stepG_region_end
    q_c stepG_ret'
    q_leave1 H.f_uAdd
    (refine QuitsD.value ?_ rfl rfl (by k_ne) (fun _ => ?_) (fun _ => by simp [go_sem, *]) ?_; rotate_left; (go_simp; (try (first | omega | (w_num; omega) | w_num | decide)); rfl); walk_nrm)
    q_c stepG_region_end
    iterate 2 q_c stepG_seq
    q_reg
    iterate 4 (refine QuitsD.value ?_ rfl rfl (by k_ne) (fun _ => ?_) (fun _ => by simp [go_sem, *]) ?_; rotate_left; (go_simp; (try (first | omega | (w_num; omega) | w_num | decide)); rfl); walk_nrm)
    iterate 2 q_skip
    (refine QuitsD.value ?_ rfl rfl (by k_ne) (fun _ => ?_) (fun _ => by simp [go_sem, *]) ?_; rotate_left; (go_simp; (try (first | omega | (w_num; omega) | w_num | decide)); rfl); walk_nrm)
    q_c stepG_region_end
    q_cond false
    q_c stepG_skip
    q_c stepG_seq
    q_reg
    iterate 4 (refine QuitsD.value ?_ rfl rfl (by k_ne) (fun _ => ?_) (fun _ => by simp [go_sem, *]) ?_; rotate_left; (go_simp; (try (first | omega | (w_num; omega) | w_num | decide)); rfl); walk_nrm)
    q_c stepG_region_end
    q_c stepG_seq
    q_reg
    iterate 4 (refine QuitsD.value ?_ rfl rfl (by k_ne) (fun _ => ?_) (fun _ => by simp [go_sem, *]) ?_; rotate_left; (go_simp; (try (first | omega | (w_num; omega) | w_num | decide)); rfl); walk_nrm)
    q_c stepG_region_end
    iterate 2 q_c stepG_seq
    q_reg
    iterate 5 (refine QuitsD.value ?_ rfl rfl (by k_ne) (fun _ => ?_) (fun _ => by simp [go_sem, *]) ?_; rotate_left; (go_simp; (try (first | omega | (w_num; omega) | w_num | decide)); rfl); walk_nrm)
    iterate 4 q_skip
    (refine QuitsD.value ?_ rfl rfl (by k_ne) (fun _ => ?_) (fun _ => by simp [go_sem, *]) ?_; rotate_left; (go_simp; (try (first | omega | (w_num; omega) | w_num | decide)); rfl); walk_nrm)
    q_c stepG_region_end
    q_cond false
    q_c stepG_skip
    iterate 2 q_c stepG_seq
    q_reg
    iterate 2 (refine QuitsD.value ?_ rfl rfl (by k_ne) (fun _ => ?_) (fun _ => by simp [go_sem, *]) ?_; rotate_left; (go_simp; (try (first | omega | (w_num; omega) | w_num | decide)); rfl); walk_nrm)
    q_c stepG_region_end
    q_cond false
    q_c stepG_skip
    iterate 2 q_c stepG_seq
    q_reg
    iterate 3 (refine QuitsD.value ?_ rfl rfl (by k_ne) (fun _ => ?_) (fun _ => by simp [go_sem, *]) ?_; rotate_left; (go_simp; (try (first | omega | (w_num; omega) | w_num | decide)); rfl); walk_nrm)
    iterate 2 q_skip
    iterate 2 (refine QuitsD.value ?_ rfl rfl (by k_ne) (fun _ => ?_) (fun _ => by simp [go_sem, *]) ?_; rotate_left; (go_simp; (try (first | omega | (w_num; omega) | w_num | decide)); rfl); walk_nrm)
    iterate 4 q_skip
    (refine QuitsD.value ?_ rfl rfl (by k_ne) (fun _ => ?_) (fun _ => by simp [go_sem, *]) ?_; rotate_left; (go_simp; (try (first | omega | (w_num; omega) | w_num | decide)); rfl); walk_nrm)
    q_c stepG_region_end
    q_cond false
    q_c stepG_skip
    iterate 2 q_c stepG_seq
    q_reg
    iterate 6 (refine QuitsD.value ?_ rfl rfl (by k_ne) (fun _ => ?_) (fun _ => by simp [go_sem, *]) ?_; rotate_left; (go_simp; (try (first | omega | (w_num; omega) | w_num | decide)); rfl); walk_nrm)
    q_c stepG_region_end
    q_cond true
    q_c stepG_ret'
    q_enable
    q_leave0 H.f_add
    exact lh         (by omega) hT
  ·
    replace hw : WgAt L.tWg Wg MI (KK + 1) 0 := by simpa using hw
    have z : ((0 : Nat) : Int) * KK + ((1 : Nat) : Int) = 1 := by simp
    rw [z]
    refine ⟨_, (stepG_add_atomic rfl rfl (by k_ne) rfl H.f_addU64 (x_addU64_n L) (x_addU64_b L) (x_addU64_x L) .u64 (x_addU64_f L) rfl rfl hw.cellSt (hw.thaw 0)).trans (by rw [e1]; rfl), fun _ => ⟨150, ?_⟩, fun hl => absurd ⟨rfl, rfl⟩ hl⟩
    have hK : True ∧ WgLive L.tWg Wg (MI.setCell (stA Wg) (.int .u64 1)) := ⟨trivial, _, _, hw.setSt 1⟩
    clear hw
    walk_nrm
    u_op hR hK
    u_c stepG_region_end hR hK
    u_c stepG_ret' hR hK
    u_leave1 H.f_uAdd hR hK
    u_op hR hK
    u_c stepG_region_end hR hK
    iterate 2 u_c stepG_seq hR hK
    u_reg hR hK
    iterate 4 u_op hR hK
    iterate 2 u_skip hR hK
    u_op hR hK
    u_c stepG_region_end hR hK
    u_cond false hR hK
    u_c stepG_skip hR hK
    u_c stepG_seq hR hK
    u_reg hR hK
    iterate 4 u_op hR hK
    u_c stepG_region_end hR hK
    u_c stepG_seq hR hK
    u_reg hR hK
    iterate 4 u_op hR hK
    u_c stepG_region_end hR hK
    iterate 2 u_c stepG_seq hR hK
    u_reg hR hK
    iterate 5 u_op hR hK
    iterate 4 u_skip hR hK
    u_op hR hK
    u_c stepG_region_end hR hK
    u_cond false hR hK
    u_c stepG_skip hR hK
    iterate 2 u_c stepG_seq hR hK
    u_reg hR hK
    iterate 2 u_op hR hK
    u_c stepG_region_end hR hK
    u_cond false hR hK
    u_c stepG_skip hR hK
    iterate 2 u_c stepG_seq hR hK
    u_reg hR hK
    iterate 7 u_op hR hK
    iterate 4 u_skip hR hK
    u_op hR hK
    u_c stepG_region_end hR hK
    u_cond false hR hK
    u_c stepG_skip hR hK
    iterate 2 u_c stepG_seq hR hK
    u_reg hR hK
    iterate 6 u_op hR hK
    u_c stepG_region_end hR hK
    u_cond false hR hK
    u_c stepG_skip hR hK
    iterate 2 u_c stepG_seq hR hK
    u_reg hR hK
    iterate 3 u_op hR hK
    u_call H.f_uLoad (nm_uLoad L) uLoadFn hR hK
    u_c stepG_seq hR hK
    u_reg hR hK
    u_op hR hK
    u_c stepG_region_end hR hK
    u_c stepG_seq hR hK
    u_reg hR hK
    iterate 3 u_op hR hK
    refine Goes.stop (fun Wd We => ?_)
    clear We hK
    refine ⟨rfl, fun hw => ⟨_, stepG_load_atomic rfl rfl (by k_ne) rfl H.f_loadU64 (x_loadU64_n L) (x_loadU64_b L) (x_loadU64_x L) .u64 (x_loadU64_f L) rfl hw.cellSt, 60, ?_⟩⟩
    have hK : True ∧ WgLive L.tWg Wg Wd := ⟨trivial, _, _, hw⟩
    clear hw
    walk_nrm
    u_op hR hK
    u_c stepG_region_end hR hK
    u_c stepG_ret' hR hK
    u_leave1 H.f_uLoad hR hK
    iterate 2 u_op hR hK
    u_c stepG_region_end hR hK
    u_cond false hR hK
    u_c stepG_skip hR hK
    u_c stepG_seq hR hK
    u_reg hR hK
    iterate 3 u_op hR hK
    u_call H.f_uStore (nm_uStore L) uStoreFn hR hK
    u_reg hR hK
    iterate 4 u_op hR hK
    refine Goes.stop (fun Wh Wi => ?_)
    clear Wi hK
    refine ⟨rfl, fun hw => ⟨_, stepG_store_atomic rfl rfl (by k_ne) rfl H.f_storeU64 (x_storeU64_n L) (x_storeU64_b L) (x_storeU64_x L) (x_storeU64_f L) rfl rfl hw.cellSt (hw.thaw 0), 60, ?_⟩⟩
    have hK : True ∧ WgLive L.tWg Wg (Wh.setCell (stA Wg) (.int .u64 0)) := ⟨trivial, _, _, hw.setSt 0⟩
    clear hw
    walk_nrm
    u_c stepG_region_end hR hK
    u_c stepG_end hR hK
    u_leave0 H.f_uStore hR hK
    u_c stepG_region_end hR hK
    iterate 2 u_c stepG_seq hR hK
    u_reg hR hK
    u_op hR hK
    u_c stepG_region_end hR hK
    u_cond false hR hK
    u_c stepG_skip hR hK
    u_c stepG_block hR hK
    u_c stepG_loop hR hK
    iterate 2 u_c stepG_seq hR hK
    u_reg hR hK
    iterate 2 u_op hR hK
    u_c stepG_region_end hR hK
    u_cond true hR hK
    u_c stepG_skip hR hK
    u_c stepG_seq hR hK
    u_c stepG_block hR hK
    u_reg hR hK
    iterate 3 u_op hR hK
    refine Goes.stop (fun YP Wj => ?_)
    clear Wj hK
    refine ⟨rfl, mayWake_entry rfl rfl H.f_semrelease (x_semrelease_b L), fun hw => ⟨_, (stepG_semrelease rfl rfl (by k_ne) rfl H.f_semrelease (x_semrelease_n L) (x_semrelease_b L) (x_semrelease_x L) (x_semrelease_f L) (by simp [Act.eval, smA]) hw.cellSm (hw.thaw 1)).trans (by rfl), qt + 40, ?_⟩⟩
    clear hw
    walk_nrm
    q_c stepG_region_end
    q_c stepG_inBlock
    q_reg
    iterate 3 (refine QuitsD.value ?_ rfl rfl (by k_ne) (fun _ => ?_) (fun _ => by simp [go_sem, *]) ?_; rotate_left; (go_simp; (try (first | omega | (w_num; omega) | w_num | decide)); rfl); walk_nrm)
    q_c stepG_region_end
    q_c stepG_inLoop
    iterate 2 q_c stepG_seq
    q_reg
    iterate 2 (refine QuitsD.value ?_ rfl rfl (by k_ne) (fun _ => ?_) (fun _ => by simp [go_sem, *]) ?_; rotate_left; (go_simp; (try (first | omega | (w_num; omega) | w_num | decide)); rfl); walk_nrm)
    q_c stepG_region_end
    q_cond false
    q_exit
    q_c stepG_end
    q_enable
    q_leave0 H.f_add
    exact lh         (by omega) hT
  ·
    replace hw : WgAt L.tWg Wg MI (((v : Nat) + 1) * KK + 0) 0 := by simpa using hw
    have z : ((v : Nat) : Int) * KK + ((0 : Nat) : Int) = (v : Int) * KK + 0 := by simp
    rw [z]
    have YQ  : 0 < v := by omega
    have eS : IntKind.u64.wrap (((v : Nat) + 1) * KK + 0 + 18446744069414584320) = (v : Int) * KK + 0 := by rw [IntKind.wrap_u64]; simp only [KK]; omega
    obtain ⟨S, MJ⟩  : ∃ S : Int, S = (v : Int) * KK + 0 := ⟨_, rfl⟩
    rw [← MJ]  at eS ⊢
    have a1 : S / 4294967296 = (v : Int) := by rw [MJ];  simp only [KK]; omega
    have b1 : bits .and .u64 S 2147483648 = 0 := by rw [MJ];  have := st_flag v 0 (by omega) (by omega); simpa [KK] using this
    have b2 : bits .and .u64 S 2147483647 = 0 := by rw [MJ];  have := st_waiters v 0 (by omega) (by omega); simpa [KK] using this
    have c1 : IntKind.i32.wrap (v : Int) = (v : Int) := by rw [IntKind.wrap_i32]; omega
    have q3 : decide ((v : Int) < 0) = false := decide_eq_false (by omega)
    have q4 : decide (0 < (v : Int)) = true := decide_eq_true (by omega)
    have q5 : ((v : Int) == 0) = false := by simp; omega
    have q6 : decide ((v : Int) = 0) = false := decide_eq_false (by omega)
    clear MJ  z
    refine ⟨_, (stepG_add_atomic rfl rfl (by k_ne) rfl H.f_addU64 (x_addU64_n L) (x_addU64_b L) (x_addU64_x L) .u64 (x_addU64_f L) rfl rfl hw.cellSt (hw.thaw 0)).trans (by rw [eS]; rfl), fun hl => absurd hl.1 (by omega), fun _ => ⟨qt + 90, ?_⟩⟩
    clear hw
    walk_nrm
    (refine QuitsD.value ?_ rfl rfl (by k_ne) (fun _ => ?_) (fun _ => by simp [go_sem, *]) ?_; rotate_left; (go_simp; (try (first | omega | (w_num; omega) | w_num | decide)); rfl); walk_nrm)
    q_c stepG_region_end
    q_c stepG_ret'
    q_leave1 H.f_uAdd
    (refine QuitsD.value ?_ rfl rfl (by k_ne) (fun _ => ?_) (fun _ => by simp [go_sem, *]) ?_; rotate_left; (go_simp; (try (first | omega | (w_num; omega) | w_num | decide)); rfl); walk_nrm)
    q_c stepG_region_end
    iterate 2 q_c stepG_seq
    q_reg
    iterate 4 (refine QuitsD.value ?_ rfl rfl (by k_ne) (fun _ => ?_) (fun _ => by simp [go_sem, *]) ?_; rotate_left; (go_simp; (try (first | omega | (w_num; omega) | w_num | decide)); rfl); walk_nrm)
    iterate 2 q_skip
    (refine QuitsD.value ?_ rfl rfl (by k_ne) (fun _ => ?_) (fun _ => by simp [go_sem, *]) ?_; rotate_left; (go_simp; (try (first | omega | (w_num; omega) | w_num | decide)); rfl); walk_nrm)
    q_c stepG_region_end
    q_cond false
    q_c stepG_skip
    q_c stepG_seq
    q_reg
    iterate 4 (refine QuitsD.value ?_ rfl rfl (by k_ne) (fun _ => ?_) (fun _ => by simp [go_sem, *]) ?_; rotate_left; (go_simp; (try (first | omega | (w_num; omega) | w_num | decide)); rfl); walk_nrm)
    q_c stepG_region_end
    q_c stepG_seq
    q_reg
    iterate 4 (refine QuitsD.value ?_ rfl rfl (by k_ne) (fun _ => ?_) (fun _ => by simp [go_sem, *]) ?_; rotate_left; (go_simp; (try (first | omega | (w_num; omega) | w_num | decide)); rfl); walk_nrm)
    q_c stepG_region_end
    iterate 2 q_c stepG_seq
    q_reg
    iterate 5 (refine QuitsD.value ?_ rfl rfl (by k_ne) (fun _ => ?_) (fun _ => by simp [go_sem, *]) ?_; rotate_left; (go_simp; (try (first | omega | (w_num; omega) | w_num | decide)); rfl); walk_nrm)
    iterate 4 q_skip
    (refine QuitsD.value ?_ rfl rfl (by k_ne) (fun _ => ?_) (fun _ => by simp [go_sem, *]) ?_; rotate_left; (go_simp; (try (first | omega | (w_num; omega) | w_num | decide)); rfl); walk_nrm)
    q_c stepG_region_end
    q_cond false
    q_c stepG_skip
    iterate 2 q_c stepG_seq
    q_reg
    iterate 2 (refine QuitsD.value ?_ rfl rfl (by k_ne) (fun _ => ?_) (fun _ => by simp [go_sem, *]) ?_; rotate_left; (go_simp; (try (first | omega | (w_num; omega) | w_num | decide)); rfl); walk_nrm)
    q_c stepG_region_end
    q_cond false
    q_c stepG_skip
    iterate 2 q_c stepG_seq
    q_reg
    iterate 3 (refine QuitsD.value ?_ rfl rfl (by k_ne) (fun _ => ?_) (fun _ => by simp [go_sem, *]) ?_; rotate_left; (go_simp; (try (first | omega | (w_num; omega) | w_num | decide)); rfl); walk_nrm)
    iterate 2 q_skip
    iterate 2 (refine QuitsD.value ?_ rfl rfl (by k_ne) (fun _ => ?_) (fun _ => by simp [go_sem, *]) ?_; rotate_left; (go_simp; (try (first | omega | (w_num; omega) | w_num | decide)); rfl); walk_nrm)
    iterate 4 q_skip
    (refine QuitsD.value ?_ rfl rfl (by k_ne) (fun _ => ?_) (fun _ => by simp [go_sem, *]) ?_; rotate_left; (go_simp; (try (first | omega | (w_num; omega) | w_num | decide)); rfl); walk_nrm)
    q_c stepG_region_end
    q_cond false
    q_c stepG_skip
    iterate 2 q_c stepG_seq
    q_reg
    iterate 3 (refine QuitsD.value ?_ rfl rfl (by k_ne) (fun _ => ?_) (fun _ => by simp [go_sem, *]) ?_; rotate_left; (go_simp; (try (first | omega | (w_num; omega) | w_num | decide)); rfl); walk_nrm)
    iterate 2 q_skip
    (refine QuitsD.value ?_ rfl rfl (by k_ne) (fun _ => ?_) (fun _ => by simp [go_sem, *]) ?_; rotate_left; (go_simp; (try (first | omega | (w_num; omega) | w_num | decide)); rfl); walk_nrm)
    q_c stepG_region_end
    q_cond true
    q_c stepG_ret'
    q_enable
    q_leave0 H.f_add
    exact lh         (by omega) hT
  ·
    replace hw : WgAt L.tWg Wg MI (((v : Nat) + 1) * KK + 1) 0 := by simpa using hw
    have z : ((v : Nat) : Int) * KK + ((1 : Nat) : Int) = (v : Int) * KK + 1 := by simp
    rw [z]
    have YQ  : 0 < v := by omega
    have eS : IntKind.u64.wrap (((v : Nat) + 1) * KK + 1 + 18446744069414584320) = (v : Int) * KK + 1 := by rw [IntKind.wrap_u64]; simp only [KK]; omega
    obtain ⟨S, MJ⟩  : ∃ S : Int, S = (v : Int) * KK + 1 := ⟨_, rfl⟩
    rw [← MJ]  at eS ⊢
    have a1 : S / 4294967296 = (v : Int) := by rw [MJ];  simp only [KK]; omega
    have b1 : bits .and .u64 S 2147483648 = 0 := by rw [MJ];  have := st_flag v 1 (by omega) (by omega); simpa [KK] using this
    have b2 : bits .and .u64 S 2147483647 = 1 := by rw [MJ];  have := st_waiters v 1 (by omega) (by omega); simpa [KK] using this
    have c1 : IntKind.i32.wrap (v : Int) = (v : Int) := by rw [IntKind.wrap_i32]; omega
    have q3 : decide ((v : Int) < 0) = false := decide_eq_false (by omega)
    have q4 : decide (0 < (v : Int)) = true := decide_eq_true (by omega)
    have q5 : ((v : Int) == 0) = false := by simp; omega
    have q6 : decide ((v : Int) = 0) = false := decide_eq_false (by omega)
    clear MJ  z
    refine ⟨_, (stepG_add_atomic rfl rfl (by k_ne) rfl H.f_addU64 (x_addU64_n L) (x_addU64_b L) (x_addU64_x L) .u64 (x_addU64_f L) rfl rfl hw.cellSt (hw.thaw 0)).trans (by rw [eS]; rfl), fun hl => absurd hl.1 (by omega), fun _ => ⟨qt + 90, ?_⟩⟩
    clear hw
    walk_nrm
    (refine QuitsD.value ?_ rfl rfl (by k_ne) (fun _ => ?_) (fun _ => by simp [go_sem, *]) ?_; rotate_left; (go_simp; (try (first | omega | (w_num; omega) | w_num | decide)); rfl); walk_nrm)
    q_c stepG_region_end
    q_c stepG_ret'
    q_leave1 H.f_uAdd
    (refine QuitsD.value ?_ rfl rfl (by k_ne) (fun _ => ?_) (fun _ => by simp [go_sem, *]) ?_; rotate_left; (go_simp; (try (first | omega | (w_num; omega) | w_num | decide)); rfl); walk_nrm)
    q_c stepG_region_end
    iterate 2 q_c stepG_seq
    q_reg
    iterate 4 (refine QuitsD.value ?_ rfl rfl (by k_ne) (fun _ => ?_) (fun _ => by simp [go_sem, *]) ?_; rotate_left; (go_simp; (try (first | omega | (w_num; omega) | w_num | decide)); rfl); walk_nrm)
    iterate 2 q_skip
    (refine QuitsD.value ?_ rfl rfl (by k_ne) (fun _ => ?_) (fun _ => by simp [go_sem, *]) ?_; rotate_left; (go_simp; (try (first | omega | (w_num; omega) | w_num | decide)); rfl); walk_nrm)
    q_c stepG_region_end
    q_cond false
    q_c stepG_skip
    q_c stepG_seq
    q_reg
    iterate 4 (refine QuitsD.value ?_ rfl rfl (by k_ne) (fun _ => ?_) (fun _ => by simp [go_sem, *]) ?_; rotate_left; (go_simp; (try (first | omega | (w_num; omega) | w_num | decide)); rfl); walk_nrm)
    q_c stepG_region_end
    q_c stepG_seq
    q_reg
    iterate 4 (refine QuitsD.value ?_ rfl rfl (by k_ne) (fun _ => ?_) (fun _ => by simp [go_sem, *]) ?_; rotate_left; (go_simp; (try (first | omega | (w_num; omega) | w_num | decide)); rfl); walk_nrm)
    q_c stepG_region_end
    iterate 2 q_c stepG_seq
    q_reg
    iterate 5 (refine QuitsD.value ?_ rfl rfl (by k_ne) (fun _ => ?_) (fun _ => by simp [go_sem, *]) ?_; rotate_left; (go_simp; (try (first | omega | (w_num; omega) | w_num | decide)); rfl); walk_nrm)
    iterate 4 q_skip
    (refine QuitsD.value ?_ rfl rfl (by k_ne) (fun _ => ?_) (fun _ => by simp [go_sem, *]) ?_; rotate_left; (go_simp; (try (first | omega | (w_num; omega) | w_num | decide)); rfl); walk_nrm)
    q_c stepG_region_end
    q_cond false
    q_c stepG_skip
    iterate 2 q_c stepG_seq
    q_reg
    iterate 2 (refine QuitsD.value ?_ rfl rfl (by k_ne) (fun _ => ?_) (fun _ => by simp [go_sem, *]) ?_; rotate_left; (go_simp; (try (first | omega | (w_num; omega) | w_num | decide)); rfl); walk_nrm)
    q_c stepG_region_end
    q_cond false
    q_c stepG_skip
    iterate 2 q_c stepG_seq
    q_reg
    iterate 7 (refine QuitsD.value ?_ rfl rfl (by k_ne) (fun _ => ?_) (fun _ => by simp [go_sem, *]) ?_; rotate_left; (go_simp; (try (first | omega | (w_num; omega) | w_num | decide)); rfl); walk_nrm)
    iterate 4 q_skip
    (refine QuitsD.value ?_ rfl rfl (by k_ne) (fun _ => ?_) (fun _ => by simp [go_sem, *]) ?_; rotate_left; (go_simp; (try (first | omega | (w_num; omega) | w_num | decide)); rfl); walk_nrm)
    q_c stepG_region_end
    q_cond false
    q_c stepG_skip
    iterate 2 q_c stepG_seq
    q_reg
    iterate 3 (refine QuitsD.value ?_ rfl rfl (by k_ne) (fun _ => ?_) (fun _ => by simp [go_sem, *]) ?_; rotate_left; (go_simp; (try (first | omega | (w_num; omega) | w_num | decide)); rfl); walk_nrm)
    iterate 2 q_skip
    (refine QuitsD.value ?_ rfl rfl (by k_ne) (fun _ => ?_) (fun _ => by simp [go_sem, *]) ?_; rotate_left; (go_simp; (try (first | omega | (w_num; omega) | w_num | decide)); rfl); walk_nrm)
    q_c stepG_region_end
    q_cond true
    q_c stepG_ret'
    q_enable
    q_leave0 H.f_add
    exact lh         (by omega) hT
end
end Go.cF.Wg
namespace Go.cF.Cr
open Go.Conc Go.cF Go.cF.Kn Go.cF.Wg
open Go.ConcR (KK wgBlock WgAt stA smA mk DC0)
section
variable{P:cf}{main:Bool}{own rd:Nat->Prop}{ty:cg}{Wg:Nat}{S:gF}{g g':cj}{w:cd} {b:Frame}{a:Act}{k:List Item}{cs:List Frame}{ops:Array Oper}{i:Nat}{rest:List Nat}{o:Oper}{v:ce}
def kF(a:g.status=.running)(h:∀w1,dG own rd (Lv ty Wg) w w1->∃g' w' es own',stepG P main g w1=.go g' w' es/\LX own rd w1 w' es own'/\Wy P ty Wg main rd S own' g' w'):Wy P ty Wg main rd S own g w:=by refine Way.mk a λw1 b=>?_;obtain⟨g',w',es,own',e,c,d,f⟩:=h w1 b;exact⟨g',w',es,own',d,e,c,f⟩
def MK(a:g.status=.running)(h:∀w,stepG P main g w=.go g' w #[])(b:∀w1,dG own rd (Lv ty Wg) w w1->Wy P ty Wg main rd S own g' w1):Wy P ty Wg main rd S own g w:=
 kF a λw1 c=>⟨g',w1,#[],own,h w1,yP λe d=>by simp at d,b w1 c⟩
def ML(c:ops[i]? =some o)(d:Region.wanted o (yielded ops a.tmps)=true)(e:b.kind≠ .early)(f:∀w,(execOp a.eval o).run P w=.ok (.value v) w)(g:∀w,(execOp a.eval o).events P w #[]=#[]) (h:∀w1,dG own rd (Lv ty Wg) w w1->Wy P ty Wg main rd S own (G (b.at (a.put o.dst v) (.inRegion ops rest::k)) cs) w1):Wy P ty Wg main rd S own (G (b.at a (.inRegion ops (i::rest)::k)) cs) w:=
 MK rfl (λw=>by rw[stepG_value c d e (f w)];unfold listed;rw[g w,seen_none]) h
def PO(c:ops[i]? =some o)(d:Region.wanted o (yielded ops a.tmps)=true)(f:b.kind≠ .early) (h:∀w1,dG own rd (Lv ty Wg) w w1->(execOp a.eval o).run P w1=.ok (.value v) w1/\(∀e∈listed P b.fn a o w1,EvW own rd w1.heap.size w1.heap.size e)/\Wy P ty Wg main rd S own (G (b.at (a.put o.dst v) (.inRegion ops rest::k)) cs) w1):Wy P ty Wg main rd S own (G (b.at a (.inRegion ops (i::rest)::k)) cs) w:=
 kF rfl λw1 g=>by obtain⟨j,l,m⟩:=h w1 g;exact⟨_,w1,_,own,stepG_value c d f j,yP l,m⟩
def SW{ob:Obj}(d:ops[i]? =some o)(f:Region.wanted o (yielded ops a.tmps)=true)(g:b.kind≠ .early) (h:∀w1,dG own rd (Lv ty Wg) w w1->∃v w',(execOp a.eval o).run P w1=.ok (.value v) w'/\w'.tape=w1.tape/\w'.os=w1.os/\w'.output=w1.output/\w'.heap=w1.heap.push ob/\(∀e∈listed P b.fn a o w1,EvW own rd w1.heap.size w'.heap.size e)/\
  Wy P ty Wg main rd S (λx=>own x\/x=w1.heap.size) (G (b.at (a.put o.dst v) (.inRegion ops rest::k)) cs) w'):Wy P ty Wg main rd S own (G (b.at a (.inRegion ops (i::rest)::k)) cs) w:=
 kF rfl λw1 j=>by obtain⟨v,w',l,m,n,p,c,q,r⟩:=h w1 j;refine⟨_,w',_,_,stepG_value d f g l,⟨m,n,p,by rw[c];simp,λx=>?_,λx s _=>?_,q⟩,r⟩;rw[c,Array.size_push];constructor;rintro(h|h);exact .inl h;exact .inr (by omega);rintro(h|h);exact .inl h;exact .inr (by omega);rw[c,qG];split;rename_i e;omega;rfl
def Em{ad:Addr}{x:ce}(j:ops[i]? =some o)(l:Region.wanted o (yielded ops a.tmps)=true)(m:b.kind≠ .early)(d:own ad.block) (h:∀w1,dG own rd (Lv ty Wg) w w1->∃w',(execOp a.eval o).run P w1=.ok .skip w'/\w'.tape=w1.tape/\w'.os=w1.os/\w'.output=w1.output/\w'.heap.size=w1.heap.size/\(∀c,c≠ad.block->w'.heap[c]? =w1.heap[c]?)/\(∀e∈listed P b.fn a o w1,EvW own rd w1.heap.size w1.heap.size e)/\Wy P ty Wg main rd S own (G (b.at (a.put o.dst undef) (.inRegion ops rest::k)) cs) w'):Wy P ty Wg main rd S own (G (b.at a (.inRegion ops (i::rest)::k)) cs) w:=
 kF rfl λw1 n=>by obtain⟨w',p,q,r,s,f,t,u,v⟩:=h w1 n;refine⟨_,w',_,_,stepG_none j l m p,⟨q,r,s,by rw[f];exact cz _,λy=>?_,λy z g=>t y (λe=>g (e▸d)),by rw[f];exact u⟩,v⟩;rw[f];exact⟨.inl,λh=>h.elim id λh=>by omega⟩
def _root_.Go.cF.dG.cell{L:cd->Prop}{w1:cd}(h:dG own rd L w w1){ad:Addr}(d:own ad.block\/rd ad.block)(a:w.cell? ad=some v):w1.cell? ad=some v:=by
 have b:ad.block<w.heap.size:=by refine yB λc=>?_;have:w.heap[ad.block]? =none:=mO c;simp[World.cell?,this]at a
 have e:=h.heap ad.block b d;unfold World.cell? at a⊢;rw[e];exact a
def _root_.Go.cF.dG.obj{L:cd->Prop}{w1:cd}(h:dG own rd L w w1){c:Nat}{ob:Obj}(b:own c\/rd c)(a:w.heap[c]? =some ob):w1.heap[c]? =some ob:=by rw[h.heap c (lt_of_heap a) b];exact a
end
end Go.cF.Cr
namespace Go.Proofs.W
open Go.Conc Go.cF Go.cF.Cr Go.cF.Wg Go.RowKit Go.Conc.Lib Go.ConcR.Gen
open Go.ConcR (KK wgBlock WgAt stA smA mk DC0)
open Go.Proofs (Tryz.prog)
noncomputable abbrev PR:cf:=Tryz.prog
noncomputable def En:Frame:=baseD 188
noncomputable def CP:Code:=Tryz.f188.body.getD .skip
noncomputable def Eo(pc a oc Wg:Nat):Array ce:=#[.pointer (some ⟨Wg,0,none⟩),.pointer (some ⟨pc,0,none⟩),.pointer (some ⟨a,0,none⟩),.pointer (some ⟨oc,0,none⟩)]
noncomputable def call188(pc a oc Wg:Nat):Deferred:={target:=.fn (.func 188) (Eo pc a oc Wg),args:=#[]}
noncomputable def bot:Frame:={(default:Frame)with fn:=PR.funcs.size,defers:=[],mode:=.panicking [goexitEntry]}
def J2(pc a oc Wg:Nat)(w:cd):stepG PR false (born PR (call188 pc a oc Wg)) w=.go (G (En.at ⟨Eo pc a oc Wg++Array.replicate 14 undef,[]⟩ [.code CP]) [bot]) w #[]:=by simp[born,call188,Eo,stepG,unwind,callDeferred,invoke,callFunc,Tryz.func188,Tryz.f188,seen,GStep.after,G,Frame.enter,Frame.at,En,baseD,bot,CP]
end Go.Proofs.W
namespace Go.cF.Cr
open Go.Conc Go.cF Go.cF.Kn Go.cF.Wg
open Go.ConcR (KK wgBlock WgAt stA smA mk DC0)
section
variable{P:cf}{main:Bool}{own rd:Nat->Prop}{ty:cg}{Wg:Nat}{S:gF}{K:cd->Prop}{g g':cj} {b:Frame}{a:Act}{k:List Item}{cs:List Frame}{ops:Array Oper}{i:Nat}{rest:List Nat}{o:Oper}{v:ce}
def WK(P:cf)(ty:cg)(Wg:Nat)(main:Bool)(rd:Nat->Prop)(S:gF)(own:Nat->Prop)(K:cd->Prop)(g:cj):Prop:=∀w,K w->Wy P ty Wg main rd S own g w
def nN(own rd:Nat->Prop)(L:cd->Prop)(K:cd->Prop):Prop:=∀w a,dG own rd L w a->K w->K a
def WK.step(a:nN own rd (Lv ty Wg) K)(c:g.status=.running)(h:∀w,K w->∃g' w' es own',stepG P main g w=.go g' w' es/\LX own rd w w' es own'/\Wy P ty Wg main rd S own' g' w'):WK P ty Wg main rd S own K g:=
 λw d=>kF c λb e=>h b (a w b e d)
def WK.ctl(a:nN own rd (Lv ty Wg) K)(c:g.status=.running)(h:∀w,stepG P main g w=.go g' w #[])(d:WK P ty Wg main rd S own K g'):WK P ty Wg main rd S own K g:=
 λw e=>MK c h λb f=>d b (a w b f e)
def WK.val(c:nN own rd (Lv ty Wg) K)(e:ops[i]? =some o)(f:Region.wanted o (yielded ops a.tmps)=true)(g:b.kind≠ .early)(h:∀w,(execOp a.eval o).run P w=.ok (.value v) w)(j:∀w,(execOp a.eval o).events P w #[]=#[]) (l:WK P ty Wg main rd S own K (G (b.at (a.put o.dst v) (.inRegion ops rest::k)) cs)):WK P ty Wg main rd S own K (G (b.at a (.inRegion ops (i::rest)::k)) cs):=
 λw m=>ML e f g h j λd n=>l d (c w d n m)
def WK.load(c:nN own rd (Lv ty Wg) K)(h:ops[i]? =some o)(j:Region.wanted o (yielded ops a.tmps)=true)(l:b.kind≠ .early) (m:∀w,K w->(execOp a.eval o).run P w=.ok (.value v) w)(n:∀w,K w->∀e∈(execOp a.eval o).events P w #[],EvW own rd w.heap.size w.heap.size e) (p:WK P ty Wg main rd S own K (G (b.at (a.put o.dst v) (.inRegion ops rest::k)) cs)):WK P ty Wg main rd S own K (G (b.at a (.inRegion ops (i::rest)::k)) cs):=
 λw f=>PO h j l λd g=>⟨m d (c w d g f),λe q=>n d (c w d g f) e (mem_listed q),p d (c w d g f)⟩
def WK.new{ob:Obj}{f:Nat->ce}(h:nN own rd (Lv ty Wg) K)(j:ops[i]? =some o)(l:Region.wanted o (yielded ops a.tmps)=true)(m:b.kind≠ .early) (n:∀w,K w->(execOp a.eval o).run P w=.ok (.value (f w.heap.size)) {w with heap:=w.heap.push ob})
 (p:∀w,K w->∀e∈(execOp a.eval o).events P w #[],EvW own rd w.heap.size (w.heap.size+1) e) (q:∀c,WK P ty Wg main rd S (λx=>own x\/x=c) (λw=>∃w0,K w0/\c=w0.heap.size/\dG (λx=>own x\/x=c) rd (Lv ty Wg) {w0 with heap:=w0.heap.push ob} w) (G (b.at (a.put o.dst (f c)) (.inRegion ops rest::k)) cs)):
 WK P ty Wg main rd S own K (G (b.at a (.inRegion ops (i::rest)::k)) cs):=
 λw r=>SW (ob:=ob) j l m λg s=>by have d:=h w g s r;exact⟨_,_,n g d,rfl,rfl,rfl,rfl,λe t=>by have:=p g d e (mem_listed t);simpa using this,q g.heap.size _ ⟨g,d,rfl,.refl _ _ _ _⟩⟩
def dN(w:cd)(a:Addr)(u:ce)(k:Nat)(h:k≠a.block):(w.setCell a u).heap[k]? =w.heap[k]? :=by simp only[World.setCell,sL];rw[cr (by omega)]
def WK.store{ad:Addr}{x:ce}(h:nN own rd (Lv ty Wg) K)(j:ops[i]? =some o)(l:Region.wanted o (yielded ops a.tmps)=true)(m:b.kind≠ .early)(f:own ad.block) (n:∀w,K w->(execOp a.eval o).run P w=.ok .skip (w.setCell ad x))(p:∀w,K w->∀e∈(execOp a.eval o).events P w #[],EvW own rd w.heap.size w.heap.size e)
 (q:WK P ty Wg main rd S own (λw=>∃w0,K w0/\dG own rd (Lv ty Wg) (w0.setCell ad x) w) (G (b.at (a.put o.dst undef) (.inRegion ops rest::k)) cs)):
 WK P ty Wg main rd S own K (G (b.at a (.inRegion ops (i::rest)::k)) cs):=
 λw r=>Em j l m f (x:=x) λg s=>by have d:=h w g s r;exact⟨_,n g d,by simp[World.setCell],by simp[World.setCell],by simp[World.setCell],by simp[World.setCell],λc t=>dN g ad x c t,λe u=>p g d e (mem_listed u),q _ ⟨g,d,.refl _ _ _ _⟩⟩
def WK.write{W:cd->cd->Prop}{bl:Nat}(g:nN own rd (Lv ty Wg) K)(l:ops[i]? =some o)(m:Region.wanted o (yielded ops a.tmps)=true)(n:b.kind≠ .early)(f:own bl) (p:∀w,K w->∃w',(execOp a.eval o).run P w=.ok .skip w'/\w'.tape=w.tape/\w'.os=w.os/\w'.output=w.output/\w'.heap.size=w.heap.size/\(∀c,c≠bl->w'.heap[c]? =w.heap[c]?)/\W w w') (q:∀w,K w->∀e∈(execOp a.eval o).events P w #[],EvW own rd w.heap.size w.heap.size e)
 (r:WK P ty Wg main rd S own (λw=>∃w0 w1,K w0/\W w0 w1/\w1.heap.size=w0.heap.size/\(∀c,c≠bl->w1.heap[c]? =w0.heap[c]?)/\dG own rd (Lv ty Wg) w1 w) (G (b.at (a.put o.dst undef) (.inRegion ops rest::k)) cs)):
 WK P ty Wg main rd S own K (G (b.at a (.inRegion ops (i::rest)::k)) cs):=
 λw s=>Em l m n (ad:=⟨bl,0,none⟩) (x:=undef) f λw1 t=>by have d:=g w w1 t s;obtain⟨w',u,v,y,z,h,j,A⟩:=p w1 d;exact⟨w',u,v,y,z,h,j,λe B=>q w1 d e (mem_listed B),r _ ⟨w1,w',d,A,h,j,.refl _ _ _ _⟩⟩
def WK.mono{K':cd->Prop}(h:WK P ty Wg main rd S own K' g)(a:∀w,K w->K' w):WK P ty Wg main rd S own K g:=λw b=>h w (a w b)
def WK.stop(a:nN own rd (Lv ty Wg) K)(h:∀w,K w->S own g w):WK P ty Wg main rd S own K g:=λw c=>nX λb d=>h b (a w b d c)
def PP{L:cd->Prop}{c:Nat}{ob:Obj}(a:own c\/rd c):nN own rd L λw=>w.heap[c]? =some ob:=λ_ _ b h=>b.obj a h
def IQ{L:cd->Prop}{K':cd->Prop}(h:nN own rd L K)(d:nN own rd L K'):nN own rd L λw=>K w/\K' w:=λw a b c=>⟨h w a b c.1,d w a b c.2⟩
end
end Go.cF.Cr
