/- Laws that the proof needs, part 5. Conditions: none. -/
import Derived.Conc.CrowdComm
import Derived.Conc.WrBase2
import Derived.Conc.CrowdBase
import Derived.Test.YteeagjkaflglpaaGreatX04
set_option maxRecDepth 100000
set_option maxHeartbeats 8000000
set_option linter.all false
namespace Go.cF.Cr
open Go.Conc Go.cF Go.cF.Kn
open Go.ConcR (KK wgBlock WgAt stA smA mk)
open Go.ConcN (sumTo upd sumTo_upd upd_ne upd_same sumTo_congr le_sumTo sumTo_le)
abbrev gF:=(Nat->Prop)->cj->cd->Prop
abbrev cC:Nat->Prop:=λ_=>False
def Lv(ty:cg)(Wg:Nat)(w:cd):Prop:=∃a b,WgAt ty Wg w a b
section
variable(P:cf)(ty:cg)(Wg Ch n:Nat)(rd:Nat->Prop)(val:Nat->ce->(Nat->Prop)->cd->Prop)
def Wy(main:Bool)(rd:Nat->Prop)(S:gF):gF:=λown g w=>∃τ,Way P main rd (Lv ty Wg) S τ own g w
def pC(main:Bool)(m:Mark)(Next:gF):gF:=λown g w=>g.status=.running/\∃a,stepG P main g w=.go a w #[mk m]/\Next own a w
def Sl(S:cj->cd->Prop):cj->cd->Prop:=λg w=>∃m,Goes P false (dG cC cC (Lv ty Wg)) ConcR.DC0 S m g w
def D4:cj->cd->Prop:=λg w=>g.status=.running/\mayWake P g=true/\(WgAt ty Wg w 0 0->∃a,stepG P false g w=.go a (w.setCell (smA Wg) (.int .u32 1)) (semEvents (smA Wg))/\∃q,QuitsD P q 1 a)
def D3:cj->cd->Prop:=λg w=>g.status=.running/\(WgAt ty Wg w 1 0->∃a,stepG P false g w=.go a (w.setCell (stA Wg) (.int .u64 0)) #[ConcR.wr (stA Wg)]/\Sl P ty Wg (D4 P ty Wg) a (w.setCell (stA Wg) (.int .u64 0)))
def D2:cj->cd->Prop:=λg w=>g.status=.running/\(WgAt ty Wg w 1 0->∃a,stepG P false g w=.go a w #[ConcR.rd (stA Wg)]/\Sl P ty Wg (D3 P ty Wg) a w)
def D1:cj->cd->Prop:=λg w=>g.status=.running/\∀v a:Nat,a<=1->v<2147483647->WgAt ty Wg w ((v+1)*KK+a) 0->
 ∃b,stepG P false g w=.go b (w.setCell (stA Wg) (.int .u64 (v*KK+a))) #[ConcR.rd (stA Wg),ConcR.wr (stA Wg)]/\((v=0/\a=1)->Sl P ty Wg (D2 P ty Wg) b (w.setCell (stA Wg) (.int .u64 (v*KK+a))))/\(¬(v=0/\a=1)->∃q,QuitsD P q 1 b)
def K1:cj->cd->Prop:=λg w=>g.status=.running/\∃a,stepG P false g w=.go a w #[mk .disable]/\Sl P ty Wg (D1 P ty Wg) a w
def R0:cj->cd->Prop:=λg w=>g.status=.running/\∃a,stepG P false g w=.go a w #[mk (.releaseMerge (stA Wg))]/\Sl P ty Wg (K1 P ty Wg) a w
def AtSend(i:Nat)(v z:ce):gF:=λown g w=>g.status=.running/\(∀w,stepG P false g w=.comm g #[scase Ch v z] true .send w #[])/\val i v own w/\Sl P ty Wg (R0 P ty Wg) (Conc.served g undef) w
def Sends(i:Nat):gF:=λown g w=>∃v z,AtSend P ty Wg Ch val i v z own g w
def TT:gF:=λ_ g w=>g.status=.running/\mayWake P g=true/\∃a,a.status=.running/\(∀s r,w.heap[Ch]? =some (.chan 0 #[] false s r false)->stepG P false g w=.go a (w.setChan Ch 0 #[] true s r false) #[⟨.obj Ch,false,true⟩,⟨.obj Ch,true,true⟩])/\∃q,QuitsD P q 0 a
def Xy(a:Nat->Prop):gF:=pC P false (.acquire (stA Wg)) (Wy P ty Wg false a (TT P Ch))
def Vt(a:Nat->Prop):gF:=pC P false .enable (Wy P ty Wg false a (Xy P ty Wg Ch a))
def Xz(a:Nat->Prop):gF:=λown g w=>g.status=.running/\(WgAt ty Wg w 0 0->∃b,stepG P false g w=.go b w #[ConcR.rd (stA Wg)]/\Wy P ty Wg false a (Vt P ty Wg Ch a) own b w)
def Ul(a:Nat->Prop):gF:=λown g w=>g.status=.running/\g.offers=none/\
 ((∃c,WgAt ty Wg w c 0)->stepG P false g w=.go {g with status:=.blocked} w #[])/\
 (WgAt ty Wg w 0 1->∃b,stepG P false g w=.go b (w.setCell (smA Wg) (.int .u32 0)) (semEvents (smA Wg))/\Wy P ty Wg false a (Xz P ty Wg Ch a) own b (w.setCell (smA Wg) (.int .u32 0)))
def XA(a:Nat->Prop):gF:=pC P false (.write (smA Wg)) (Wy P ty Wg false a (Ul P ty Wg Ch a))
def XB(c:Nat->Prop)(a:gF)(vs:Nat):gF:=λown g w=>g.status=.running/\∀v:Nat,v<2147483648->WgAt ty Wg w (v*KK) 0->
 (v=vs->∃b,stepG P false g w=.go b (w.setCell (stA Wg) (.int .u64 (v*KK+1))) #[ConcR.rd (stA Wg),ConcR.wr (stA Wg)]/\Wy P ty Wg false c (XA P ty Wg Ch c) own b (w.setCell (stA Wg) (.int .u64 (v*KK+1))))/\(v≠vs->∃b,stepG P false g w=.go b w #[ConcR.rd (stA Wg)]/\Wy P ty Wg false c a own b w)
def XC(b:Nat->Prop)(a:gF):gF:=λown g w=>g.status=.running/\∀v:Nat,v<2147483648->WgAt ty Wg w (v*KK) 0->∃c,stepG P false g w=.go c w #[ConcR.rd (stA Wg)]/\
 (v=0->Wy P ty Wg false b (Vt P ty Wg Ch b) own c w)/\(v≠0->Wy P ty Wg false b (XB P ty Wg Ch b a v) own c w)
def Vu(b:Nat->Prop)(a:gF):gF:=pC P false .disable (Wy P ty Wg false b a)
structure Anchor(rc:Nat->Prop)(qU:gF):Prop where
 walk:∀own g w,qU own g w->Wy P ty Wg false rc (XC P ty Wg Ch rc qU) own g w
def Mo(b:Nat->Prop):gF:=λown g w=>∃a,Anchor P ty Wg Ch b a/\Wy P ty Wg false b (Vu P ty Wg b a) own g w
def SJ(End:gF)(z:ce):gF:=λown g w=>g.status=.running/\(∀w,stepG P true g w=.comm g #[rcase Ch z] true (.recv true) w #[])/\End own (Conc.served g (.tuple #[z,.bool false])) w
def SK(z:ce)(Next:Nat->gF)(S:Nat->Bool):gF:=λown g w=>g.status=.running/\(∀w,stepG P true g w=.comm g #[rcase Ch z] true (.recv true) w #[])/\
 ∀i v a,i<n->S i=false->val i v a w->(∀b,a b->¬own b)->Next i (λb=>own b\/a b) (Conc.served g (.tuple #[v,.bool true])) w
def nV(End:gF)(z:ce):Nat->(Nat->Bool)->gF
 |0,_=>SJ P Ch End z
 |r+1,S=>SK P Ch n val z (λi=>Wy P ty Wg true rd (nV End z r (upd S i true))) S
def Mp(End:gF):gF:=λown g w=>g.status=.running/\∃(c child:cj) (a:Nat->Prop) (z:ce),stepG P true g w=.spawn c child w #[]/\child.status=.running/\(∀b,a b->own b)/\
 Mo P ty Wg Ch (λb=>rd b\/a b) cC child w/\Wy P ty Wg true rd (nV P ty Wg Ch n rd val End z n (λ_=>false)) (λb=>own b/\¬a b) c w
def Vv(i:Nat)(Next:gF):gF:=λown g w=>g.status=.running/\∃(c child:cj) (a:Nat->Prop),stepG P true g w=.spawn c child w #[]/\child.status=.running/\(∀b,a b->own b)/\
 Wy P ty Wg false (λb=>rd b\/a b) (Sends P ty Wg Ch val i) cC child w/\Next (λb=>own b/\¬a b) c w
def Vw(i:Nat)(Next:gF):gF:=pC P true .enable (Wy P ty Wg true rd (Vv P ty Wg Ch rd val i Next))
def XD(i:Nat)(Next:gF):gF:=pC P true (.read (smA Wg)) (Wy P ty Wg true rd (Vw P ty Wg Ch rd val i Next))
def XE(i:Nat)(Next:gF):gF:=λown g w=>g.status=.running/\∀v:Nat,v<2147483647->WgAt ty Wg w (v*KK) 0->
 ∃a,stepG P true g w=.go a (w.setCell (stA Wg) (.int .u64 ((v+1)*KK))) #[ConcR.rd (stA Wg),ConcR.wr (stA Wg)]/\(v=0->Wy P ty Wg true rd (XD P ty Wg Ch rd val i Next) own a (w.setCell (stA Wg) (.int .u64 ((v+1)*KK))))/\(v≠0->Wy P ty Wg true rd (Vw P ty Wg Ch rd val i Next) own a (w.setCell (stA Wg) (.int .u64 ((v+1)*KK))))
def Um(i:Nat)(Next:gF):gF:=pC P true .disable (Wy P ty Wg true rd (XE P ty Wg Ch rd val i Next))
def oz(End:gF):Nat->gF
 |0=>Wy P ty Wg true rd (Mp P ty Wg Ch n rd val End)
 |r+1=>Wy P ty Wg true rd (Um P ty Wg Ch rd val (n-(r+1)) (oz End r))
end
inductive CT where
 |kd|w1|w2 (vs:Nat)|sw|w3|blk|w4|ke|ac|cl|quit
inductive dD where
 |none
 |old
 |st (r s:Nat)
 |sG
 |rc (r:Nat) (S:Nat->Bool) (s:Nat)
 |wk (i s:Nat)
 |cl (c:CT)
section
variable(P:cf)(ty:cg)(Wg Ch n:Nat)(rd0:Nat->Prop)(val:Nat->ce->(Nat->Prop)->cd->Prop)(End:gF)
inductive kT:dD->WT->Nat->(Nat->Prop)->(Nat->Prop)->cj->cd->Prop
 |old {q d:Nat} {own rd:Nat->Prop} {g:cj} {w:cd} (h:QuitsD P q d g):kT .old (.num q) d own rd g w
 |skd {r:Nat} {τ:WT} {own:Nat->Prop} {g:cj} {w:cd} (hr:r<n) (h:Way P true rd0 (Lv ty Wg) (Um P ty Wg Ch rd0 val (n-(r+1)) (oz P ty Wg Ch n rd0 val End r)) τ own g w):kT (.st r 6) τ 0 own rd0 g w
 |sa1 {r:Nat} {τ:WT} {own:Nat->Prop} {g:cj} {w:cd} (hr:r<n) (h:Way P true rd0 (Lv ty Wg) (XE P ty Wg Ch rd0 val (n-(r+1)) (oz P ty Wg Ch n rd0 val End r)) τ own g w):kT (.st r 5) τ 1 own rd0 g w
 |Rk {r:Nat} {τ:WT} {own:Nat->Prop} {g:cj} {w:cd} (hr:r<n) (h:Way P true rd0 (Lv ty Wg) (XD P ty Wg Ch rd0 val (n-(r+1)) (oz P ty Wg Ch n rd0 val End r)) τ own g w):kT (.st r 4) τ 1 own rd0 g w
 |ske {r:Nat} {τ:WT} {own:Nat->Prop} {g:cj} {w:cd} (hr:r<n) (h:Way P true rd0 (Lv ty Wg) (Vw P ty Wg Ch rd0 val (n-(r+1)) (oz P ty Wg Ch n rd0 val End r)) τ own g w):kT (.st r 3) τ 1 own rd0 g w
 |sgo {r:Nat} {τ:WT} {own:Nat->Prop} {g:cj} {w:cd} (hr:r<n) (h:Way P true rd0 (Lv ty Wg) (Vv P ty Wg Ch rd0 val (n-(r+1)) (oz P ty Wg Ch n rd0 val End r)) τ own g w):kT (.st r 2) τ 0 own rd0 g w
 |Ps {τ:WT} {own:Nat->Prop} {g:cj} {w:cd} (h:Way P true rd0 (Lv ty Wg) (Mp P ty Wg Ch n rd0 val End) τ own g w):kT .sG τ 0 own rd0 g w
 |src {r:Nat} {S:Nat->Bool} {z:ce} {τ:WT} {own:Nat->Prop} {g:cj} {w:cd} (h:Way P true rd0 (Lv ty Wg) (nV P ty Wg Ch n rd0 val End z r S) τ own g w):kT (.rc r S 2) τ 0 own rd0 g w
 |LY {r:Nat} {S:Nat->Bool} {z:ce} {τ:WT} {own:Nat->Prop} {g:cj} {w:cd} (h:∀w1,dG own rd0 (Lv ty Wg) w w1->nV P ty Wg Ch n rd0 val End z r S own g w1):
  kT (.rc r S 1) τ 0 own rd0 (parked g #[rcase Ch z] (.recv true)) w
 |sup {S:Nat->Bool} {z:ce} {τ:WT} {own:Nat->Prop} {g:cj} {w:cd} (h:∀w1,dG own rd0 (Lv ty Wg) w w1->nV P ty Wg Ch n rd0 val End z 0 S own g w1):
  kT (.rc 0 S 2) τ 0 own rd0 {parked g #[rcase Ch z] (.recv true)with status:=.running} w
 |Pt {i:Nat} {τ:WT} {own rd:Nat->Prop} {g:cj} {w:cd} (h:Way P false rd (Lv ty Wg) (Sends P ty Wg Ch val i) τ own g w):kT (.wk i 9) τ 0 own rd g w
 |tu {i:Nat} {v z:ce} {τ:WT} {own rd:Nat->Prop} {g:cj} {w:cd} (h:∀w1,dG own rd (Lv ty Wg) w w1->AtSend P ty Wg Ch val i v z own g w1):
  kT (.wk i 8) τ 0 own rd (parked g #[scase Ch v z] .send) w
 |r0 {i m:Nat} {own rd:Nat->Prop} {g:cj} {w:cd} (h:Goes P false (dG cC cC (Lv ty Wg)) ConcR.DC0 (R0 P ty Wg) m g w):kT (.wk i 7) (.num m) 0 own rd g w
 |k1 {i m:Nat} {own rd:Nat->Prop} {g:cj} {w:cd} (h:Goes P false (dG cC cC (Lv ty Wg)) ConcR.DC0 (K1 P ty Wg) m g w):kT (.wk i 6) (.num m) 0 own rd g w
 |d1 {i m:Nat} {own rd:Nat->Prop} {g:cj} {w:cd} (h:Goes P false (dG cC cC (Lv ty Wg)) ConcR.DC0 (D1 P ty Wg) m g w):kT (.wk i 5) (.num m) 1 own rd g w
 |d2 {i m:Nat} {own rd:Nat->Prop} {g:cj} {w:cd} (h:Goes P false (dG cC cC (Lv ty Wg)) ConcR.DC0 (D2 P ty Wg) m g w):kT (.wk i 4) (.num m) 1 own rd g w
 |d3 {i m:Nat} {own rd:Nat->Prop} {g:cj} {w:cd} (h:Goes P false (dG cC cC (Lv ty Wg)) ConcR.DC0 (D3 P ty Wg) m g w):kT (.wk i 3) (.num m) 1 own rd g w
 |d4 {i m:Nat} {own rd:Nat->Prop} {g:cj} {w:cd} (h:Goes P false (dG cC cC (Lv ty Wg)) ConcR.DC0 (D4 P ty Wg) m g w):kT (.wk i 2) (.num m) 1 own rd g w
 |quit {i q d:Nat} {own rd:Nat->Prop} {g:cj} {w:cd} (h:QuitsD P q d g):kT (.wk i 1) (.num q) d own rd g w
 |Rl {τ:WT} {own rd:Nat->Prop} {qU:gF} {g:cj} {w:cd} (hA:Anchor P ty Wg Ch rd qU) (h:Way P false rd (Lv ty Wg) (Vu P ty Wg rd qU) τ own g w):kT (.cl .kd) τ 0 own rd g w
 |Pu {τ:WT} {own rd:Nat->Prop} {qU:gF} {g:cj} {w:cd} (hA:Anchor P ty Wg Ch rd qU) (h:Way P false rd (Lv ty Wg) (XC P ty Wg Ch rd qU) τ own g w):kT (.cl .w1) τ 1 own rd g w
 |Rm {τ:WT} {own rd:Nat->Prop} {qU:gF} {vs:Nat} {g:cj} {w:cd} (hA:Anchor P ty Wg Ch rd qU) (h:Way P false rd (Lv ty Wg) (XB P ty Wg Ch rd qU vs) τ own g w):kT (.cl (.w2 vs)) τ 1 own rd g w
 |Rn {τ:WT} {own rd:Nat->Prop} {g:cj} {w:cd} (h:Way P false rd (Lv ty Wg) (XA P ty Wg Ch rd) τ own g w):kT (.cl .sw) τ 1 own rd g w
 |Pw {τ:WT} {own rd:Nat->Prop} {g:cj} {w:cd} (h:Way P false rd (Lv ty Wg) (Ul P ty Wg Ch rd) τ own g w):kT (.cl .w3) τ 1 own rd g w
 |Px {τ:WT} {own rd:Nat->Prop} {g:cj} {w:cd} (h:∀w1,dG own rd (Lv ty Wg) w w1->Ul P ty Wg Ch rd own g w1):kT (.cl .blk) τ 1 own rd {g with status:=.blocked} w
 |Ro {τ:WT} {own rd:Nat->Prop} {g:cj} {w:cd} (h:Way P false rd (Lv ty Wg) (Xz P ty Wg Ch rd) τ own g w):kT (.cl .w4) τ 1 own rd g w
 |Py {τ:WT} {own rd:Nat->Prop} {g:cj} {w:cd} (h:Way P false rd (Lv ty Wg) (Vt P ty Wg Ch rd) τ own g w):kT (.cl .ke) τ 1 own rd g w
 |Rp {τ:WT} {own rd:Nat->Prop} {g:cj} {w:cd} (h:Way P false rd (Lv ty Wg) (Xy P ty Wg Ch rd) τ own g w):kT (.cl .ac) τ 0 own rd g w
 |Rq {τ:WT} {own rd:Nat->Prop} {g:cj} {w:cd} (h:Way P false rd (Lv ty Wg) (TT P Ch) τ own g w):kT (.cl .cl) τ 0 own rd g w
 |Pb {q d:Nat} {own rd:Nat->Prop} {g:cj} {w:cd} (h:QuitsD P q d g):kT (.cl .quit) (.num q) d own rd g w
end
section
variable{P:cf}{ty:cg}{Wg Ch n:Nat}{rd0:Nat->Prop}{val:Nat->ce->(Nat->Prop)->cd->Prop}{End:gF}{ro:dD}{τ:WT}{d:Nat}{own rd:Nat->Prop}{g:cj}{w w1:cd}
theorem _root_.Go.cF.dG.none{own rd:Nat->Prop}{L:cd->Prop}{w w1:cd}(h:dG own rd L w w1):dG cC cC L w w1:=⟨h.tape,h.os,h.output,h.size,λ_ _ a=>(a.elim id id).elim,h.live⟩
theorem kT.rely(h:kT P ty Wg Ch n rd0 val End ro τ d own rd g w)(c:dG own rd (Lv ty Wg) w w1):kT P ty Wg Ch n rd0 val End ro τ d own rd g w1:=by
 cases h with
 |old h=>exact .old h
 |skd e h=>exact .skd e (h.rely c)
 |sa1 e h=>exact .sa1 e (h.rely c)
 |Rk e h=>exact .Rk e (h.rely c)
 |ske e h=>exact .ske e (h.rely c)
 |sgo e h=>exact .sgo e (h.rely c)
 |Ps h=>exact .Ps (h.rely c)
 |src h=>exact .src (h.rely c)
 |LY h=>exact .LY λf i=>h f (c.trans i)
 |sup h=>exact .sup λf i=>h f (c.trans i)
 |Pt h=>exact .Pt (h.rely c)
 |tu h=>exact .tu λf i=>h f (c.trans i)
 |r0 h=>exact .r0 (Goes.rely (λ_ _ _ a b=>a.trans b) h c.none)
 |k1 h=>exact .k1 (Goes.rely (λ_ _ _ a b=>a.trans b) h c.none)
 |d1 h=>exact .d1 (Goes.rely (λ_ _ _ a b=>a.trans b) h c.none)
 |d2 h=>exact .d2 (Goes.rely (λ_ _ _ a b=>a.trans b) h c.none)
 |d3 h=>exact .d3 (Goes.rely (λ_ _ _ a b=>a.trans b) h c.none)
 |d4 h=>exact .d4 (Goes.rely (λ_ _ _ a b=>a.trans b) h c.none)
 |quit h=>exact .quit h
 |Rl j h=>exact .Rl j (h.rely c)
 |Pu j h=>exact .Pu j (h.rely c)
 |Rm j h=>exact .Rm j (h.rely c)
 |Rn h=>exact .Rn (h.rely c)
 |Pw h=>exact .Pw (h.rely c)
 |Px h=>exact .Px λf i=>h f (c.trans i)
 |Ro h=>exact .Ro (h.rely c)
 |Py h=>exact .Py (h.rely c)
 |Rp h=>exact .Rp (h.rely c)
 |Rq h=>exact .Rq (h.rely c)
 |Pb h=>exact .Pb h
end
theorem Way.running{P:cf}{main:Bool}{rd:Nat->Prop}{L:cd->Prop}{S:gF}{τ:WT}{own:Nat->Prop}{g:cj}{w:cd}(a:∀own g w,S own g w->g.status=.running)(h:Way P main rd L S τ own g w):g.status=.running:=by
 cases h with
 |here h=>exact a _ _ _ (h w (.refl _ _ _ _))
 |step b _ _=>exact b
section
variable{P:cf}{ty:cg}{Wg Ch n:Nat}{rd0:Nat->Prop}{val:Nat->ce->(Nat->Prop)->cd->Prop}{End:gF}
theorem iW{z:ce}{S:Nat->Bool}:∀{r:Nat} {own:Nat->Prop} {g:cj} {w:cd},nV P ty Wg Ch n rd0 val End z r S own g w->g.status=.running/\∀w,stepG P true g w=.comm g #[rcase Ch z] true (.recv true) w #[]
 |0,_,_,_,h=>⟨h.1,h.2.1⟩
 |_+1,_,_,_,h=>⟨h.1,h.2.1⟩
def dD.idle:dD->Prop
 | .old| .rc _ _ 1| .wk _ 8| .wk _ 1| .cl .blk| .cl .quit=>True
 |_=>False
variable{ro:dD}{τ:WT}{d:Nat}{own rd:Nat->Prop}{g:cj}{w w1:cd}
theorem kT.running(h:kT P ty Wg Ch n rd0 val End ro τ d own rd g w):g.status=.running\/(ro.idle/\(g.status=.blocked\/g.status=.finished)):=by
 cases h with
 |old h=>exact h.status.elim .inl λx=>.inr ⟨trivial,.inr x⟩
 |skd _ h=>exact .inl (Way.running (λ_ _ _ x=>x.1) h)
 |sa1 _ h=>exact .inl (Way.running (λ_ _ _ x=>x.1) h)
 |Rk _ h=>exact .inl (Way.running (λ_ _ _ x=>x.1) h)
 |ske _ h=>exact .inl (Way.running (λ_ _ _ x=>x.1) h)
 |sgo _ h=>exact .inl (Way.running (λ_ _ _ x=>x.1) h)
 |Ps h=>exact .inl (Way.running (λ_ _ _ x=>x.1) h)
 |src h=>exact .inl (Way.running (λ_ _ _ x=>(iW x).1) h)
 |LY h=>exact .inr ⟨trivial,.inl rfl⟩
 |sup h=>exact .inl rfl
 |Pt h=>exact .inl (Way.running (λ_ _ _ ⟨_,_,x⟩=>x.1) h)
 |tu h=>exact .inr ⟨trivial,.inl rfl⟩
 |r0 h=>exact .inl (Goes.running (λ_ _ x=>x.1) w (.refl _ _ _ _) h)
 |k1 h=>exact .inl (Goes.running (λ_ _ x=>x.1) w (.refl _ _ _ _) h)
 |d1 h=>exact .inl (Goes.running (λ_ _ x=>x.1) w (.refl _ _ _ _) h)
 |d2 h=>exact .inl (Goes.running (λ_ _ x=>x.1) w (.refl _ _ _ _) h)
 |d3 h=>exact .inl (Goes.running (λ_ _ x=>x.1) w (.refl _ _ _ _) h)
 |d4 h=>exact .inl (Goes.running (λ_ _ x=>x.1) w (.refl _ _ _ _) h)
 |quit h=>exact h.status.elim .inl λx=>.inr ⟨trivial,.inr x⟩
 |Rl _ h=>exact .inl (Way.running (λ_ _ _ x=>x.1) h)
 |Pu a h=>exact .inl (Way.running (λ_ _ _ x=>x.1) h)
 |Rm a h=>exact .inl (Way.running (λ_ _ _ x=>x.1) h)
 |Rn h=>exact .inl (Way.running (λ_ _ _ x=>x.1) h)
 |Pw h=>exact .inl (Way.running (λ_ _ _ x=>x.1) h)
 |Px h=>exact .inr ⟨trivial,.inl rfl⟩
 |Ro h=>exact .inl (Way.running (λ_ _ _ x=>x.1) h)
 |Py h=>exact .inl (Way.running (λ_ _ _ x=>x.1) h)
 |Rp h=>exact .inl (Way.running (λ_ _ _ x=>x.1) h)
 |Rq h=>exact .inl (Way.running (λ_ _ _ x=>x.1) h)
 |Pb h=>exact h.status.elim .inl λx=>.inr ⟨trivial,.inr x⟩
def mj(b:Bool):dD->dD
 | .cl .blk=>if b then .cl .w3 else .cl .blk
 |r=>r
def ix(P:cf)(g g':cj):Bool:=mayWake P g&&g'.status != .blocked&&g'.status != .waiting
theorem Ef(g g' o:cj)(w':cd):woken P g g' w' o=if ix P g g' then o.again w' else o:=by unfold woken ix;rfl
theorem kT.again(h:kT P ty Wg Ch n rd0 val End ro τ d own rd g w)(b:Bool){s:Nat}{c:Bool}(k:w.heap[Ch]? =some (.chan 0 #[] c s s false))(l:c=true->(∀r S,ro≠ .rc r S 1)/\∀i,ro≠ .wk i 8):
 kT P ty Wg Ch n rd0 val End (mj b ro) τ d own rd (if b then g.again w else g) w:=by
 cases b with
 |false=>
  simp only[iq,eo];have:mj false ro=ro:=by unfold mj;split<;>simp
  rw[this];exact h
 |true=>
  simp only[cX];have a:g.status=.running\/g.status=.finished->mj true ro=ro->kT P ty Wg Ch n rd0 val End (mj true ro) τ d own rd (g.again w) w:=λf e=>by rw[again_running w f,e];exact h
  rcases h.running with f|⟨j,f⟩;refine a (.inl f) ?_;cases h with
  |Px h=>cases f
  |_=>rfl
  cases h with
  |old h=>exact a (.inr (f.resolve_left (by rcases h.status with x|x<;>rw[x]<;>simp))) rfl
  |LY h=>
   cases c with
   |true=>exact absurd rfl ((l rfl).1 _ _)
   |false=>rw[again_recv_open k];exact .LY h
  |tu h=>
   cases c with
   |true=>exact absurd rfl ((l rfl).2 _)
   |false=>rw[again_send_open k];exact .tu h
  |quit h=>exact a (.inr (f.resolve_left (by rcases h.status with x|x<;>rw[x]<;>simp))) rfl
  |Px h=>
   have m:=h w (.refl _ _ _ _);rw[Go.ConcR.again_blocked m.1 m.2.1];exact .Pw (.here h)
  |Pb h=>exact a (.inr (f.resolve_left (by rcases h.status with x|x<;>rw[x]<;>simp))) rfl
  |_=>exact j.elim
end
section
variable(P:cf)(ty:cg)(Wg Ch n:Nat)(rd0:Nat->Prop)(val:Nat->ce->(Nat->Prop)->cd->Prop)(End:gF)(w0:cd)(B0 m0:Nat)
structure Com(ro:Nat->dD)(rk:Nat->WT)(dd:Nat->Nat)(G:Gh)(cl:Bool)(gs:Array cj)(w:cd)(t:Trace):Prop where
 sit:∀(k:Nat) (g:cj),gs[k]? =some g->kT P ty Wg Ch n rd0 val End (ro k) (rk k) (dd k) (G.own k) (G.rd k) g w
 kn:Kn.ft G w.heap.size t
 fits:G.Fits w.heap.size
 deaf:∀k,Deaf t k=dd k
 above:∀k,gs.size<=k->dd k=0
 wg:∀b,G.wg b↔b=Wg\/b=Ch
 off:∀k b,G.own k b\/G.rd k b->b≠Ch
 wgch:Wg≠Ch
 wglow:Wg<w.heap.size
 gsz:∀i k,G.t0<=i->t.g? i=some k->k<gs.size
 new:∀k b,G.own k b->B0<=b
 base:∀b,b<B0->b≠Wg->b≠Ch->w.heap[b]? =w0.heap[b]?
 grown:B0<=w.heap.size
 world:w.tape=w0.tape/\w.os=w0.os/\w.output=w0.output
 live:Lv ty Wg w
 ch:∃s,w.heap[Ch]? =some (.chan 0 #[] cl s s false)
end
section
variable{P:cf}{ty:cg}{Wg Ch n:Nat}{rd0:Nat->Prop}{val:Nat->ce->(Nat->Prop)->cd->Prop}{End:gF}{w0:cd}{B0 m0:Nat} {ro:Nat->dD}{rk:Nat->WT}{dd:Nat->Nat}{G:Gh}{cl:Bool}{gs:Array cj}{w w':cd}{t:Trace}
structure yI(Wg:Nat)(own:Nat->Prop)(w w':cd):Prop where
 tape:w'.tape=w.tape
 os:w'.os=w.os
 output:w'.output=w.output
 size:w.heap.size<=w'.heap.size
 same:∀b,b<w.heap.size->¬own b->b≠Wg->w'.heap[b]? =w.heap[b]?
theorem Com.SL(h:Com P ty Wg Ch n rd0 val End w0 B0 ro rk dd G cl gs w t){k:Nat}(c:yI Wg (G.own k) w w')(e:Lv ty Wg w'){x:Nat}(f:x≠k):dG (G.own x) (G.rd x) (Lv ty Wg) w w':=by refine⟨c.tape,c.os,c.output,c.size,λb g a=>c.same b g (λd=>?_) ?_,λ_=>e⟩;rcases a with a|a;exact f (h.fits.one _ _ _ a d);exact h.fits.still _ _ _ d a;rintro rfl;rcases a with a|a;exact h.fits.ownwg _ _ a ((h.wg _).2 (.inl rfl));exact h.fits.rdwg _ _ a ((h.wg _).2 (.inl rfl))
theorem Com.go(h:Com P ty Wg Ch n rd0 val End w0 B0 ro rk dd G cl gs w t){k:Nat}{g g':cj}{es:Array Event}{r':dD}{τ':WT}(K:gs[k]? =some g) (L:cl=true->∀x,x<gs.size->(∀r S,ro x≠ .rc r S 1)/\∀i,ro x≠ .wk i 8) (d:yI Wg (G.own k) w w')(E:Lv ty Wg w')(B:na G k (dd k) w.heap.size w'.heap.size es)(F:G.done k->w'.heap.size=w.heap.size) (M:kT P ty Wg Ch n rd0 val End r' τ' (deafBehind (dd k) es) ((G.grow k w.heap.size w'.heap.size).own k) (G.rd k) g' w'):
 Com P ty Wg Ch n rd0 val End w0 B0 (upd (λx=>mj (ix P g g') (ro x)) k r') (upd rk k τ') (upd dd k (deafBehind (dd k) es)) (G.grow k w.heap.size w'.heap.size) cl
  ((gs.map (woken P g g' w')).setIfInBounds k g') w' (t++MemOp.ofEvents k g.frame.fn g.frame.place es):=by
 have p:k<gs.size:=(eP.1 K).1;obtain⟨s,j⟩:=h.ch;have f:w'.heap[Ch]? =some (.chan 0 #[] cl s s false):=by rw[d.same Ch (lt_of_heap j) (λx=>h.off k _ (.inl x) rfl) (fO h.wgch)];exact j
 have H:∀z∈MemOp.ofEvents k g.frame.fn g.frame.place es,z.g=k:=λz l=>by obtain⟨e,_,rfl⟩:=Go.Conc.mem_ofEvents l;rfl
 refine⟨λx o A=>?_,h.kn.step h.fits d.size F (by rw[h.deaf];exact B),h.fits.grow d.size k F,λx=>?_,λx C=>?_,h.wg,λx b c=>?_,h.wgch,dl h.wglow d.size,λi x N C=>?_,λx b c=>?_,λb c I O=>?_,cJ h.grown d.size,
  ⟨d.tape.trans h.world.1,d.os.trans h.world.2.1,d.output.trans h.world.2.2⟩,E,⟨s,f⟩⟩
 by_cases e:x=k;subst e;rw[jE (by simpa using p)]at A;obtain rfl:=cE A;rw[upd_same,upd_same,upd_same];exact M;rw[eY (fO e),qF]at A;obtain⟨y,J,rfl⟩:=ij.1 A;rw[upd_ne _ _ e,upd_ne _ _ e,upd_ne _ _ e,Ef];have a:(G.grow k w.heap.size w'.heap.size).own x=G.own x:=by funext b;apply propext;exact⟨λc=>c.elim id λc=>absurd c.1 e,.inl⟩
 rw[a];exact((h.sit x y J).rely (h.SL d E e)).again _ f (λQ=>L Q x (eP.1 J).1);by_cases e:x=k;subst e;rw[Deaf_own,h.deaf,upd_same];rw[Deaf_other t (fO e) _ H,h.deaf,upd_ne _ _ e];have D:gs.size<=x:=by simpa using C
 rw[upd_ne _ _ (by omega)];exact h.above x D;rcases c with(c|⟨_,q,R⟩)|c;exact h.off x b (.inl c);have:=lt_of_heap j;omega;exact h.off x b (.inr c);obtain⟨z,l,m⟩:=ij.1 C;rcases getElem?_append_cases l with⟨T,u⟩|⟨_,v⟩;have:=h.gsz i x N (by simp[Trace.g?,u,m]);simpa using this;rw[H z v]at m;subst m;simpa using p;rcases c with c|⟨_,q,_⟩;exact h.new x b c;exact cJ h.grown q;rw[d.same b (dl c h.grown) (λx=>by have:=h.new k b x;omega) I];exact h.base b c I O
end
def jd:dD->Nat
 | .wk _ s=>s
 |_=>0
def cnt(s:Nat):Nat:=if 5<=s then 1 else 0
def V(n m0:Nat)(ro:Nat->dD):Nat:=sumTo n λi=>cnt (jd (ro (m0+i)))
def Sg(n m0:Nat)(ro:Nat->dD):Nat:=sumTo n λi=>jd (ro (m0+i))
def pend:dD->Nat
 | .st _ s=>if s<=4 then 1 else 0
 |_=>0
def isOpen:dD->Prop
 | .none| .cl .kd| .cl .w1| .cl (.w2 _)=>True
 |_=>False
def isW3:dD->Prop
 | .cl .sw| .cl .w3| .cl .blk=>True
 |_=>False
def isFin:dD->Prop
 | .cl .w4| .cl .ke| .cl .ac| .cl .cl| .cl .quit=>True
 |_=>False
def OpenSt(n m0:Nat)(ro:Nat->dD):Prop:=∀i,i<n->jd (ro (m0+i))=0\/5<=jd (ro (m0+i))\/jd (ro (m0+i))=1
def AllQuit(n m0:Nat)(ro:Nat->dD):Prop:=∀i,i<n->jd (ro (m0+i))=1
inductive Mode (n m0:Nat) (ro:Nat->dD):Int->Int->Prop
 |opn:isOpen (ro (m0+n))->OpenSt n m0 ro->(∀vs,ro (m0+n)=.cl (.w2 vs)->V n m0 ro<=vs/\1<=vs)->Mode n m0 ro (((V n m0 ro+pend (ro 0):Nat):Int)*KK) 0
 |reg:isW3 (ro (m0+n))->OpenSt n m0 ro->1<=V n m0 ro->Mode n m0 ro (((V n m0 ro:Nat):Int)*KK+1) 0
 |last (L:Nat):isW3 (ro (m0+n))->L<n->(jd (ro (m0+L))=4\/jd (ro (m0+L))=3\/jd (ro (m0+L))=2)->(∀i,i<n->i≠L->jd (ro (m0+i))=1)->Mode n m0 ro (if jd (ro (m0+L))=2 then 0 else 1) 0
 |sema:(ro (m0+n)=.cl .sw\/ro (m0+n)=.cl .w3)->AllQuit n m0 ro->Mode n m0 ro 0 1
 |fin:isFin (ro (m0+n))->AllQuit n m0 ro->Mode n m0 ro 0 0
inductive TU (n m0:Nat) (ro:Nat->dD) (cl:Bool) (size:Nat):Prop
 |st (r s:Nat) (h0:ro 0=.st r s) (hs:2<=s/\s<=6) (hr:r<n) (hc:ro (m0+n)=.none) (hz:size=m0+(n-(r+1))) (hw:∀i,i<n-(r+1)->∃s,ro (m0+i)=.wk i s/\(s=9\/s=8)) (hn:∀i,n-(r+1)<=i->i<n->ro (m0+i)=.none)
 |sG (h0:ro 0=.sG) (hc:ro (m0+n)=.none) (hz:size=m0+n) (hw:∀i,i<n->∃s,ro (m0+i)=.wk i s/\(s=9\/s=8))
 |rc (r:Nat) (S:Nat->Bool) (s:Nat) (h0:ro 0=.rc r S s) (hc:∃c,ro (m0+n)=.cl c) (hz:size=m0+n+1) (hw:∀i,i<n->∃s,ro (m0+i)=.wk i s/\1<=s/\s<=9/\(S i=true↔s<=7))
  (hS:r+sumTo n (λi=>if S i then 1 else 0)=n) (hs:s=2\/(s=1/\cl=false/\∀i,i<n->jd (ro (m0+i))≠8))
def sayOf(m0 n:Nat):dD->Nat
 | .none=>0
 |_=>m0+n
structure Pl(n m0:Nat)(ro:Nat->dD)(cl:Bool)(G:Gh)(size:Nat)(st sm:Int):Prop where
 pos:0<m0
 lay:TU n m0 ro cl size
 old:∀k,0<k->k<m0->ro k=.old
 clq:cl=true↔ro (m0+n)=.cl .quit
 mode:Mode n m0 ro st sm
 usr:∀k,G.user k↔k=0\/(m0<=k/\k<size)
 say:G.sayer=sayOf m0 n (ro (m0+n))
 done:∀k,G.done k↔(0<k/\k<m0)\/∃i s,ro k=.wk i s/\s<=7
def tv(n:Nat):dD->Nat
 | .st r s=>12*n+64+20*(r+1)+s
 | .sG=>12*n+64
 | .rc r _ s=>4*r+s
 |_=>0
def oA(n v:Nat):dD->Nat
 | .cl .kd=>8*n+9
 | .cl .w1=>8*v+7
 | .cl (.w2 vs)=>8*vs+6
 | .cl .sw=>9
 | .cl .w3=>8
 | .cl .blk=>8
 | .cl .w4=>7
 | .cl .ke=>6
 | .cl .ac=>5
 | .cl .cl=>4
 | .cl .quit=>1
 |_=>0
def Eg:dD->Nat
 | .cl .w3=>1
 |_=>0
def meas(n m0:Nat)(ro:Nat->dD):Nat:=tv n (ro 0)+Sg n m0 ro+oA n (V n m0 ro) (ro (m0+n))
def JV(n:Nat){v a:Nat}(h:a<=v)(r:dD):oA n a r<=oA n v r:=by unfold oA;split<;>omega
def nW(b:Bool)(r:dD):jd (mj b r)=jd r:=by unfold mj;split;cases b<;>rfl;rfl
def Mq(n:Nat)(b:Bool)(r:dD):tv n (mj b r)=tv n r:=by unfold mj;split;cases b<;>rfl;rfl
def Mr(n v:Nat)(b:Bool)(r:dD):oA n v (mj b r)=oA n v r:=by unfold mj;split;cases b<;>rfl;rfl
def pD(b:Bool)(r:dD):mj b r=r\/(b=true/\r=.cl .blk/\mj b r=.cl .w3):=by unfold mj;split;cases b;exact .inl rfl;exact .inr ⟨rfl,rfl,rfl⟩;exact .inl rfl
def vN{b:Bool}{r:dD}(h:r≠ .cl .blk):mj b r=r:=(pD b r).resolve_right λx=>h x.2.1
def SM(b:Bool)(r:dD)(i s:Nat):mj b r=.wk i s↔r=.wk i s:=by rcases pD b r with h|⟨_,a,c⟩;rw[h];rw[c,a];simp
section
variable{n m0:Nat}{ro:Nat->dD}{cl:Bool}{G:Gh}{size:Nat}{st sm:Int}
def Bo(b:Bool):V n m0 (λx=>mj b (ro x))=V n m0 ro:=sumTo_congr λi _=>by simp only[nW]
def SO(b:Bool):Sg n m0 (λx=>mj b (ro x))=Sg n m0 ro:=sumTo_congr λi _=>by simp only[nW]
def ur(b:Bool):meas n m0 (λx=>mj b (ro x))=meas n m0 ro:=by unfold meas;rw[Bo,SO,Mq,Mr]
def Pl.Pz(h:Pl n m0 ro cl G size st sm)(b:Bool):Pl n m0 (λx=>mj b (ro x)) cl G size st sm:=by
 refine⟨h.pos,?_,λk d f=>by simp only[h.old k d f];rfl,?_,?_,h.usr,?_,λk=>?_⟩;cases h.lay with
 |st r s l t w j m o A=>
  exact .st r s (by simp only[l];rfl) t w (by simp only[j];rfl) m (λi g=>let⟨s,d,f⟩:=o i g;⟨s,by simp only[d];rfl,f⟩) (λi d f=>by simp only[A i d f];rfl)
 |sG l j m o=>exact .sG (by simp only[l];rfl) (by simp only[j];rfl) m (λi g=>let⟨s,d,f⟩:=o i g;⟨s,by simp only[d];rfl,f⟩)
 |rc r S s l j m o B t=>
  refine .rc r S s (by simp only[l];rfl) ?_ m (λi g=>let⟨s,d,f⟩:=o i g;⟨s,by simp only[d];rfl,f⟩) B (t.imp id λ⟨x,y,z⟩=>⟨x,y,λi g=>by rw[nW];exact z i g⟩);obtain⟨c,j⟩:=j;rcases pD b (ro (m0+n))with e|⟨_,_,e⟩;exact⟨c,by(try simp only);rw[e];exact j⟩;exact⟨_,e⟩
 rw[h.clq];rcases pD b (ro (m0+n))with e|⟨_,p,e⟩;(try simp only);rw[e];(try simp only);rw[e,p];simp;have u:OpenSt n m0 ro->OpenSt n m0 (λx=>mj b (ro x)):=λh i g=>by simp only[nW];exact h i g
 have v:AllQuit n m0 ro->AllQuit n m0 (λx=>mj b (ro x)):=λh i g=>by simp only[nW];exact h i g
 cases h.mode with
 |opn d f q=>
  have e:mj b (ro (m0+n))=ro (m0+n):=vN λe=>by rw[e]at d;exact d
  have:=Mode.opn (n:=n) (m0:=m0) (ro:=λx=>mj b (ro x)) (by(try simp only);rw[e];exact d) (u f) (λC D=>by rw[Bo];exact q C (e.symm.trans D));rw[Bo]at this;have a:pend (mj b (ro 0))=pend (ro 0):=by rcases pD b (ro 0)with e|⟨_,p,e⟩;rw[e];rw[e,p];rfl
  simp only[a]at this;exact this
 |reg d f q=>
  have:=Mode.reg (n:=n) (m0:=m0) (ro:=λx=>mj b (ro x)) (by rcases pD b (ro (m0+n))with e|⟨_,_,e⟩;(try simp only);rw[e];exact d;(try simp only);rw[e];trivial) (u f) (by rw[Bo];exact q);rw[Bo]at this;exact this
 |last L d f q E=>
  have:=Mode.last (n:=n) (m0:=m0) (ro:=λx=>mj b (ro x)) L (by rcases pD b (ro (m0+n))with e|⟨_,_,e⟩;(try simp only);rw[e];exact d;(try simp only);rw[e];trivial) f (by simp only[nW];exact q) (λi g F=>by simp only[nW];exact E i g F);simp only[nW]at this;exact this
 |sema d f=>exact .sema (by rcases d with d|d<;>simp only[d]<;>simp[mj]) (v f)
 |fin d f=>
  refine .fin ?_ (v f);have e:mj b (ro (m0+n))=ro (m0+n):=vN λe=>by rw[e]at d;exact d
  (try simp only);rw[e];exact d
 rw[h.say];rcases pD b (ro (m0+n))with e|⟨_,p,e⟩;rw[e];rw[e,p];rfl;rw[h.done];simp only[SM]
def Pl.lt_size(h:Pl n m0 ro cl G size st sm){k:Nat}(q:k<size):k=0\/(0<k/\k<m0)\/(∃i s,i<n/\k=m0+i/\ro k=.wk i s/\1<=s/\s<=9)\/(k=m0+n/\∃c,ro k=.cl c):=by
 rcases nS k with rfl|m;exact .inl rfl;rcases eA k m0 with d|d;exact .inr (.inl ⟨m,d⟩);obtain⟨i,rfl⟩:=Nat.exists_eq_add_of_le d;cases h.lay with
 |st r s j o t e l a u=>
  obtain⟨s,b,f⟩:=a i (by omega);exact .inr (.inr (.inl ⟨i,s,by omega,rfl,b,by omega,by omega⟩))
 |sG j e l a=>
  obtain⟨s,b,f⟩:=a i (by omega);exact .inr (.inr (.inl ⟨i,s,by omega,rfl,b,by omega,by omega⟩))
 |rc r S s j e l a v o=>
  rcases eA i n with g|g;obtain⟨s,b,f,p,_⟩:=a i g;exact .inr (.inr (.inl ⟨i,s,g,rfl,b,f,p⟩));obtain rfl:i=n:=by omega
  exact .inr (.inr (.inr ⟨rfl,e⟩))
end
section
variable{n m0:Nat}{ro:Nat->dD}{cl:Bool}{G:Gh}{size:Nat}{st sm:Int}{r':dD}
def r9(ro:Nat->dD)(m0 i:Nat)(x:dD)(a:Nat):upd ro (m0+i) x (m0+a)=upd (λa=>ro (m0+a)) i x a:=by unfold upd;by_cases h:a=i;subst h;simp;rw[cr (by omega),cr h]
def Ms(i:Nat)(b:i<n)(x:dD):V n m0 (upd ro (m0+i) x)+cnt (jd (ro (m0+i)))=V n m0 ro+cnt (jd x):=by have:=sumTo_upd (λa=>ro (m0+a)) x (λr=>cnt (jd r)) b;simp only[V,r9];exact this
def Rr(i:Nat)(b:i<n)(x:dD):Sg n m0 (upd ro (m0+i) x)+jd (ro (m0+i))=Sg n m0 ro+jd x:=by have:=sumTo_upd (λa=>ro (m0+a)) x jd b;simp only[Sg,r9];exact this
def oW{k:Nat}(a:k<m0\/m0+n<=k)(x:dD):V n m0 (upd ro k x)=V n m0 ro:=sumTo_congr λi b=>by rw[upd_ne ro x (by omega)]
def qV{k:Nat}(a:k<m0\/m0+n<=k)(x:dD):Sg n m0 (upd ro k x)=Sg n m0 ro:=sumTo_congr λi b=>by rw[upd_ne ro x (by omega)]
def oX{α:Type}(f:Nat->α)(k:Nat):upd f k (f k)=f:=by funext a;unfold upd;split;rename_i h;rw[h];rfl
def Mt(n m0:Nat)(ro:Nat->dD):V n m0 ro<=n:=by
 have:=sumTo_le (f:=λi=>cnt (jd (ro (m0+i)))) (c:=1) (j:=n) λi _=>by simp only[cnt];split<;>omega
 simpa[V]using this
def Mv{i:Nat}(a:i<n)(h:5<=jd (ro (m0+i))):1<=V n m0 ro:=by have:=le_sumTo (f:=λi=>cnt (jd (ro (m0+i)))) a;simp only[V];simp only[cnt,cx h]at this;exact this
def nf(a:0<m0)(h:tv n r'<tv n (ro 0)):meas n m0 (upd ro 0 r')<meas n m0 ro:=by unfold meas;rw[oW (.inl a),qV (.inl a),upd_same,upd_ne ro r' (show m0+n≠0 by omega)];omega
def ml(b:0<m0){i:Nat}(a:i<n)(c:jd r'<jd (ro (m0+i))):meas n m0 (upd ro (m0+i) r')<meas n m0 ro:=by
 unfold meas;have d:=Ms (ro:=ro) (m0:=m0) i a r';have e:=Rr (ro:=ro) (m0:=m0) i a r';rw[upd_ne ro r' (show 0≠m0+i by omega),upd_ne ro r' (show m0+n≠m0+i by omega)];have f:cnt (jd r')<=cnt (jd (ro (m0+i))):=by simp only[cnt];split<;>split<;>omega
 have:=JV n (show V n m0 (upd ro (m0+i) r')<=V n m0 ro by omega) (ro (m0+n));omega
def lB(a:0<m0)(h:oA n (V n m0 ro) r'<oA n (V n m0 ro) (ro (m0+n))):meas n m0 (upd ro (m0+n) r')<meas n m0 ro:=by unfold meas;rw[oW (.inr (cz _)),qV (.inr (cz _)),upd_same,upd_ne ro r' (show 0≠m0+n by omega)];omega
def Mode.zero(k:0<m0)(h:Mode n m0 ro st sm)(l:pend r'=pend (ro 0)):Mode n m0 (upd ro 0 r') st sm:=by
 have f:upd ro 0 r' (m0+n)=ro (m0+n):=upd_ne ro r' (by omega);have e:∀i,upd ro 0 r' (m0+i)=ro (m0+i):=λi=>upd_ne ro r' (by omega);have a:V n m0 (upd ro 0 r')=V n m0 ro:=oW (.inl k) r';cases h with
 |opn b c g=>
  have:=Mode.opn (n:=n) (m0:=m0) (ro:=upd ro 0 r') (by rw[f];exact b) (λi d=>by rw[e];exact c i d) (λm j=>by rw[a];rw[f]at j;exact g m j);rwa[a,upd_same,l]at this
 |reg b c g=>
  have:=Mode.reg (n:=n) (m0:=m0) (ro:=upd ro 0 r') (by rw[f];exact b) (λi d=>by rw[e];exact c i d) (by rw[a];exact g);rwa[a]at this
 |last L b c g o=>
  have:=Mode.last (n:=n) (m0:=m0) (ro:=upd ro 0 r') L (by rw[f];exact b) c (by rw[e];exact g) (λi d p=>by rw[e];exact o i d p);rwa[e]at this
 |sema b c=>exact .sema (by rw[f];exact b) λi d=>by rw[e];exact c i d
 |fin b c=>exact .fin (by rw[f];exact b) λi d=>by rw[e];exact c i d
def Pl.zero(h:Pl n m0 ro cl G size st sm)(b:TU n m0 (upd ro 0 r') cl size)(c:∀i s,r'≠ .wk i s)(d:∀i s,ro 0≠ .wk i s){st' sm':Int}(f:Mode n m0 (upd ro 0 r') st' sm'):Pl n m0 (upd ro 0 r') cl G size st' sm':=by have a:upd ro 0 r' (m0+n)=ro (m0+n):=upd_ne ro r' (by have:=h.pos;omega);refine⟨h.pos,b,λk g j=>by rw[upd_ne ro r' (by omega)];exact h.old k g j,by rw[a];exact h.clq,f,h.usr,by rw[a];exact h.say,λk=>?_⟩;rw[h.done];refine or_congr l8 ?_;by_cases e:k=0;subst e;rw[upd_same];exact⟨λ⟨i,s,x,_⟩=>absurd x (d i s),λ⟨i,s,x,_⟩=>absurd x (c i s)⟩;rw[upd_ne ro r' e]
def Pl.Mw(h:Pl n m0 ro cl G size st sm){r s s':Nat}(b:ro 0=.st r s)(f:2<=s'/\s'<=6):TU n m0 (upd ro 0 (.st r s')) cl size:=by
 have t:=h.pos;cases h.lay with
 |st g j a k l c d e m=>
  rw[b]at a;cases a;exact .st r s' (upd_same _ _ _) f l (by rw[upd_ne ro _ (by omega)];exact c) d (λi o=>by rw[upd_ne ro _ (by omega)];exact e i o) (λi p q=>by rw[upd_ne ro _ (by omega)];exact m i p q)
 |sG a c d e=>rw[b]at a;cases a
 |rc g S j a c d e u k=>rw[b]at a;cases a
def Pl.CL(h:Pl n m0 ro cl G size st sm){r s s':Nat}(a:ro 0=.st r s)(b:2<=s'/\s'<=6)(c:s<=4↔s'<=4):Pl n m0 (upd ro 0 (.st r s')) cl G size st sm:=
 h.zero (h.Mw a b) (by simp) (by simp[a]) (h.mode.zero h.pos (by rw[a];simp only[pend,c]))
def Pl.CM(h:Pl n m0 ro cl G size st sm){r s:Nat}(b:ro 0=.st r s):ro (m0+n)=.none/\r<n/\size=m0+(n-(r+1)):=by
 cases h.lay with
 |st f g a i j c d e k=>rw[b]at a;cases a;exact⟨c,j,d⟩
 |sG a c d e=>rw[b]at a;cases a
 |rc f S g a c d e l i=>rw[b]at a;cases a
def Pl.GY(h:Pl n m0 ro cl G size st sm){r s':Nat}(e:ro 0=.st r 5)(j:s'=4\/s'=3):st=((V n m0 ro:Nat):Int)*KK/\sm=0/\Pl n m0 (upd ro 0 (.st r s')) cl G size (((V n m0 ro:Nat)+1:Int)*KK) 0:=by
 have d:=(h.CM e).1;have k:=h.pos;cases s:h.mode with
 |opn c l m=>
  rw[e];refine⟨by simp[pend],rfl,h.zero (h.Mw e (by omega)) (by simp) (by simp[e]) ?_⟩;have f:upd ro 0 (dD.st r s') (m0+n)=ro (m0+n):=upd_ne ro _ (by omega);have o:∀i,upd ro 0 (dD.st r s') (m0+i)=ro (m0+i):=λi=>upd_ne ro _ (by omega);have a:V n m0 (upd ro 0 (dD.st r s'))=V n m0 ro:=oW (.inl k) _;have:=Mode.opn (n:=n) (m0:=m0) (ro:=upd ro 0 (dD.st r s')) (by rw[f];exact c) (λi p=>by rw[o];exact l i p) (λq g=>by rw[a];rw[f]at g;exact m q g);rw[a,upd_same]at this;have b:pend (dD.st r s')=1:=by rcases j with rfl|rfl<;>rfl
  rw[b]at this;simpa using this
 |reg c _ _=>rw[d]at c;exact c.elim
 |last L c _ _ _=>rw[d]at c;exact c.elim
 |sema c _=>rw[d]at c;rcases c with c|c<;>cases c
 |fin c _=>rw[d]at c;exact c.elim
def oB:Nat->dD
 |0=>.sG
 |r+1=>.st r 6
def Pl.spawn{G':Gh}(h:Pl n m0 ro cl G size st sm){r:Nat}(m:ro 0=.st r 2)(E:∀k,G'.user k↔G.user k\/k=size)(u:G'.sayer=G.sayer)(F:G'.done=G.done):Pl n m0 (upd (upd ro size (.wk (n-(r+1)) 9)) 0 (oB r)) cl G' (size+1) st sm/\meas n m0 (upd (upd ro size (.wk (n-(r+1)) 9)) 0 (oB r))<meas n m0 ro:=by
 have v:=h.pos;cases h.lay with
 |sG g f w q=>rw[m]at g;cases g
 |rc H S I g f w q N J=>rw[m]at g;cases g
 |st H I g J O f w q C=>
 rw[m]at g;cases g;generalize o:oB r=x;have A:∀i s,x≠ .wk i s:=by subst o;cases r<;>simp[oB]
 subst w;have B:n-(r+1)<n:=by omega
 have a:ro (m0+(n-(r+1)))=.none:=C _ (cz _) B;have d:∀i,upd (upd ro (m0+(n-(r+1))) (dD.wk (n-(r+1)) 9)) 0 x (m0+i)=if i=n-(r+1)then dD.wk (n-(r+1)) 9 else ro (m0+i):=by intro i;rw[upd_ne _ _ (by omega),r9];rfl
 have j:upd (upd ro (m0+(n-(r+1))) (dD.wk (n-(r+1)) 9)) 0 x (m0+n)=.none:=by rw[d,cr (by omega)];exact f
 have b:V n m0 (upd (upd ro (m0+(n-(r+1))) (dD.wk (n-(r+1)) 9)) 0 x)=V n m0 ro+1:=by rw[oW (.inl v)];have:=Ms (ro:=ro) (m0:=m0) (n-(r+1)) B (.wk (n-(r+1)) 9);rw[a]at this;simpa[jd,cnt]using this
 have K:Sg n m0 (upd (upd ro (m0+(n-(r+1))) (dD.wk (n-(r+1)) 9)) 0 x)=Sg n m0 ro+9:=by rw[qV (.inl v)];have:=Rr (ro:=ro) (m0:=m0) (n-(r+1)) B (.wk (n-(r+1)) 9);rw[a]at this;simpa[jd]using this
 refine⟨⟨v,?_,λk c p=>by rw[upd_ne _ _ (by omega),upd_ne _ _ (by omega)];exact h.old k c p,?_,?_,λk=>?_,?_,λk=>?_⟩,?_⟩;cases r with
 |zero=>
  subst o;refine .sG (upd_same _ _ _) j (by omega) λi l=>?_;rw[d];split;rename_i e;subst e;exact⟨9,rfl,.inl rfl⟩;exact q i (by omega)
 |succ r=>
  subst o;refine .st r 6 (upd_same _ _ _) (by omega) (by omega) j (by omega) (λi l=>?_) λi c p=>?_;rw[d];split;rename_i e;subst e;exact⟨9,rfl,.inl rfl⟩;exact q i (by omega);rw[d,cr (by omega)];exact C i (by omega) p
 rw[j,h.clq,f];cases P:h.mode with
 |opn c p Q=>
  have:=Mode.opn (n:=n) (m0:=m0) (ro:=upd (upd ro (m0+(n-(r+1))) (dD.wk (n-(r+1)) 9)) 0 x) (by rw[j];trivial) (λi l=>by rw[d];split;exact .inr (.inl (by simp[jd]));exact p i l) (λR D=>by rw[j]at D;cases D);rw[b,upd_same]at this;have M:pend x=0:=by subst o;cases r<;>rfl
  have t:pend (ro 0)=1:=by rw[m];rfl
  rw[M]at this;rw[t];simpa using this
 |reg c _ _=>rw[f]at c;exact c.elim
 |last L c _ _ _=>rw[f]at c;exact c.elim
 |sema c _=>rw[f]at c;rcases c with c|c<;>cases c
 |fin c _=>rw[f]at c;exact c.elim
 rw[E,h.usr];omega;rw[j,u,h.say,f];rw[F,h.done];refine or_congr l8 ?_;by_cases e:k=0;subst e;rw[upd_same,m];exact⟨λ⟨i,s,y,_⟩=>(nomatch y),λ⟨i,s,y,_⟩=>absurd y (A i s)⟩;rw[upd_ne _ _ e];by_cases t:k=m0+(n-(r+1));subst t;rw[upd_same,a];exact⟨λ⟨i,s,y,_⟩=>(nomatch y),λ⟨i,s,y,z⟩=>by cases y;omega⟩;rw[upd_ne _ _ t];unfold meas;rw[b,K,j,upd_same,f,m];subst o;cases r<;>simp[oB,tv,oA]<;>omega
end
end Go.cF.Cr
