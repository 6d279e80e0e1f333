/- Part 10 of what scriptParses_card rests on. -/
import Derived.Test.YtjjaojnglnpgaaaGreatDoorProg
import Derived.BigQuiet
import Derived.Test.YtjjaojnglnpgaaaGreatDoorShelf
import Derived.Lib.IndexLaws
import Derived.Deep.RegionWith
import Derived.Test.YtjjaojnglnpgaaaGreatDoorZ05
import Derived.Test.YtjjaojnglnpgaaaGreatDoorZ01
import Derived.Test.YtjjaojnglnpgaaaGreatDoorZ02
import Derived.Test.YtjjaojnglnpgaaaGreatDoorZ07
import Derived.Test.YtjjaojnglnpgaaaGreatDoorZ08
import Derived.Test.YtjjaojnglnpgaaaGreatDoorZ00
set_option linter.unusedVariables false
set_option linter.unusedSimpArgs false
set_option maxHeartbeats 16000000
set_option maxRecDepth 1000000
namespace Go.Proofs.YtjjaojnglnpgaaaGreatDoor
section
open Go.RowKit
def NodeAt(d:Nat)(l:List UInt8):Prop:=∃(k:Nat) (t:ByteArray) (n:Int) (ks:Fo) (l':List UInt8),NodeFit k t n ks∧ks.high+1+d≤40∧l=nodeB k t n ks++l'
def NodesAt(d:Nat)(l:List UInt8):Prop:=∃(f:Fo) (l':List UInt8),NodesFit f∧f.high+d≤40∧l=nodesB f++l'
theorem Qg{d:Nat}{l:List UInt8}(h:l.length<8):¬NodesAt d l:=by
 rintro⟨f,l',_,_,rfl⟩;unfold nodesB at h;rw[aJ,aJ,eY]at h;omega
theorem Vx{d:Nat}{n:Int}{l1:List UInt8}(hn:is63 n)(h :¬(0≤n∧n≤(l1.length:Int) / 8)):¬NodesAt d (num8 n++l1):=by
 rintro⟨f,l',hf,_,he⟩;unfold nodesB at he;rw[List.append_assoc]at he;obtain⟨e1,e2⟩:=zag hn (iK hf.2) he;have:=jW f;rw[e2,aJ]at h;refine h ⟨by omega,?_⟩;omega
theorem Qh{d:Nat}{n:Int}{f:Fo}{l1 lq:List UInt8}(hn:is63 n)(hf:f.fit)(he:l1=foB f++lq)(hlt:(f.len:Int)<n)(hno :¬NodeAt d lq):¬NodesAt d (num8 n++l1):=by
 rintro⟨g,l',hg,hh,h⟩;unfold nodesB at h;rw[List.append_assoc]at h;obtain⟨e1,e2⟩:=zag hn (iK hg.2) h;rw[he]at e2;have hle:f.len<g.len:=by omega
 obtain⟨_,e4⟩:=UQ hf hg.1 (by omega) e2;have hfit:=(Fo.fit_take f.len hg.1).2;have hhigh:=congrArg Fo.high (Fo.take_drop f.len g);rw[Fo.high_app]at hhigh;have hlen:=Fo.len_drop g f.len
 match hd:g.drop f.len with
 | .nil=>rw[hd]at hlen;simp[Fo.len]at hlen;omega
 | .cons k t m ks r =>
  rw[hd]at hfit e4 hhigh;obtain⟨a1,a2,a3,a4,a5,_⟩:=hfit;rw[G5,List.append_assoc]at e4;simp only[Fo.high]at hhigh;exact hno ⟨k,t,m,ks,_,⟨a1,a2,a3,a5,a4⟩,by omega,e4⟩
theorem jk{B e n:Nat}{w:World}{v:Value}{vs:List Value}{f:Fo}(h:w.ownsRow 0 e 4 v n vs)(hB :∀g,v.ownBlock=some g→B≤g)(hf:FoCells (fun b=>B≤b∧v.ownBlock≠some b) w vs f)(hn:n=f.len):
  ∃A c,v = .slice A f.len c∧FoIn (fun b=>B≤b) w A f∧f.len≤c∧c≤9223372036854775807:=by
 subst hn;rcases h.2 with⟨rfl,h0⟩|⟨g,cap,cur,rfl,hb,hgg,hn,hc,_⟩
 ·have:f = .nil:=by cases f with
   | nil=>rfl
   | cons=>simp[Fo.len]at h0
  subst this;exact⟨none,0,rfl,trivial,aC _,by omega⟩
 ·refine⟨_,_,rfl,hf.at_ (fun b hS=>hS.1) (hB g rfl) (fun j u hu=>?_),hn,by unfold maxLen at hc;omega⟩;have:=h.cells (g:=g) rfl j u hu
  rwa [Addr.add_lit]at this
theorem Qi(w:World)(a b c d:Value)(t:TypeId):∀j u,[a,b,c,d][j]?=some u→(w.alloc (.cells #[a,b,c,d] t)).cell? ((⟨w.heap.size,0,none⟩:Addr).add j)=some u:=by
 intro j u hu;rw[Addr.add_lit,Nat.zero_add,World.cell?_alloc_new]
 simpa using hu
def NodePost(D:Nat→Prop)(rb d:Nat)(w:World)(l:List UInt8)(e:Ending)(w':World):Prop :=
 (∃k t n ks l' KA c,l=nodeB k t n ks++l'∧NodeFit k t n ks∧ks.high+1+d≤40∧e = .returned (.agg #[.int .u8 k,.string t,.int .i64 n,.slice KA ks.len c])∧FoIn (fun b=>w.heap.size≤b) w' KA ks∧ks.len≤c∧c≤9223372036854775807∧Rdr D rb w' l' d∧Side rb w w'∧∃L,NodesO w' KA c ks L∧∀b∈L,w.heap.size≤b)∨
 (¬NodeAt d l∧e=oops∧Side rb w w')
def NodesPost(D:Nat→Prop)(rb d:Nat)(w:World)(l:List UInt8)(e:Ending)(w':World):Prop :=
 (∃f l' A c,l=nodesB f++l'∧f.fit∧f.high+d≤40∧e = .returned (.slice A f.len c)∧FoIn (fun b=>w.heap.size≤b) w' A f∧f.len≤c∧c≤9223372036854775807∧Rdr D rb w' l' d∧Side rb w w'∧∃L,NodesO w' A c f L∧∀b∈L,w.heap.size≤b)∨
 (¬NodesAt d l∧e=oops∧Side rb w w')
theorem Qj{D:Nat→Prop}{rb d:Nat}{w:World}{l:List UInt8}
  (yg :∀(D':Nat→Prop) (w':World) (l':List UInt8),l'.length<l.length→Rdr D' rb w' l' d→Calls Tryz.prog 279 #[.pointer (some ⟨rb,0,none⟩)] w' (NodePost D' rb d w' l'))
  (h:Rdr D rb w l d) (hd:d≤40) (hl:l.length≤lid):
  Calls Tryz.prog 278 #[.pointer (some ⟨rb,0,none⟩),.func (.func 279) #[.pointer (some ⟨rb,0,none⟩)] #[]] w (NodesPost D rb d w l):=by
 have hrb:=h.lt;have gI:=hide h.off;have H:=hide h.old;have DC:=hide yg;obtain⟨i0,hi,hz0,hz1,hz2⟩:=info_parts Pz;clear h yg;by_cases h8:l.length<8
 ·go_enter Tryz.func278,Tryz.ntmps278
  go_wp2_with(go_at_call 250;(with_reducible refine(Ib H.out h8).mono ?_);rintro e w1 ⟨rfl,hs⟩;exact⟨rfl,.inr ⟨Qg h8,rfl,hs⟩⟩)
 obtain⟨n,l1,rfl,hn⟩:=Ia (l:=l) (by omega);have Hn:=hide hn;unfold is63 at hn;have hl1:8+l1.length≤1099511627776:=by rw[aJ,eY]at hl;exact hl
 have hq8:wrap64 ((l1.length:Int) / 8)=(l1.length:Int) / 8:=by unfold wrap64;omega
 by_cases hok:0≤n∧n≤(l1.length:Int) / 8
 ·obtain⟨ha,hb⟩:=hok;clear hl h8;go_enter Tryz.func278,Tryz.ntmps278
  go_wp2_with(first
   | (go_at_call 250;(with_reducible refine(xZ (n:=n) (l':=l1) H.out Hn.out).mono ?_);rintro e w1 ⟨rfl,hr,hs⟩;obtain⟨A1,c1,q0⟩:=hr.slice;have Hr:=hide hr;have Hs:=hide hs;clear hr hs)
   | (go_at_call 253;refine(uY (by first|rfl|(simp;omega)) _).mono ?_;rintro e w2 ⟨rfl,rfl⟩))
  have hw1:=Hs.out.size
  go_loopw [24,6] (fun i v wr=>∃(f:Fo) (vs:List Value) (lq:List UInt8),i = .int .i64 f.len∧(f.len:Int)≤n∧Hid (l1=foB f++lq)∧Hid f.fit∧Hid (f.high+d≤40)∧Hid (wr.ownsRow 0 218 4 v f.len vs)∧Hid (∀g,v.ownBlock=some g→w.heap.size≤g)∧
    Hid (∃R,FoR wr vs f R∧(ob v++obs R).Nodup∧∀b∈obs R,w.heap.size≤b)∧Hid (Rdr (fun b=>D b∧b<w.heap.size) rb wr lq d)∧Hid (Side rb w wr)) (fun i _ _=>(n-intOf i).toNat)
  case atStart=>exact⟨.nil,[],l1,rfl,ha,hide rfl,hide trivial,hide (by simpa[Fo.high]using hd),hide (World.ownsRow_nil _ _ _ _),hide (by simp[Value.ownBlock]),hide ⟨[],⟨rfl,rfl⟩,by simp[ob,obs,Value.ownBlock],by simp[obs]⟩,Hr,Hs⟩
  case round =>
   obtain⟨f,vs,lq,rfl,hle,He,Hf,Hh,Ho,Hg,Hc,Hq,HS⟩:=hrel;have hfl:=jW f;have hlq:(foB f).length+lq.length=l1.length:=by rw[He.out,aJ]
   have hxl:8*f.len≤l1.length:=by omega
   have hwr:=HS.out.size;by_cases hlt:(f.len:Int)<n
   ·go_wp2_with(first
     | (go_at_call 279;(refine(DC.out _ _ lq (by rw[aJ,eY];omega) Hq.out).mono ?_);rintro e w3 (⟨k,t,m,ks,l2,KA,c,he2,hfit,hhi,rfl,hin,hc1,hc2,hr2,hs2,L1,hO,zB⟩|⟨hno,rfl,hs2⟩))
     | (at_builtin;refine BC _ rfl _ _ 39 rfl 218 i0 (.agg #[.int .u8 0,.string ByteArray.empty,.int .i64 0,.slice none 0 0]) 4 56 Tryz.underlying39 hi hz0 hz1 hz2 rfl (by decide) _ f.len vs rfl ((BH Ho.out (fun g hg=>by have:=Hg.out g hg;omega) hs2).alloc _) ⟨w3.heap.size,0,none⟩ 1 1 [.int .u8 k,.string t,.int .i64 m,.slice KA ks.len c] rfl rfl (Qi _ _ _ _ _ _) (by intro u hu;simp at hu;rcases hu with rfl|rfl|rfl|rfl<;>rfl) (by unfold maxLen;omega) (by omega) ?_;intro v' w4 hown hgrow hnil aX))
    ·have hS3:Side rb w w3:=Side.trans HS.out hs2;have hsz:=hS3.size;have Vy:=hs2.size;obtain⟨f1,f2,f3,f4,f5⟩:=hfit;have hlen1:(f.app (.cons k t m ks .nil)).len=f.len+1:=by rw[Fo.len_app];rfl
     have hc3 :∃R,FoR w4 (vs++[.int .u8 k,.string t,.int .i64 m,.slice KA ks.len c]) (f.app (.cons k t m ks .nil)) R∧(ob v'++obs R).Nodup∧∀b∈obs R,w.heap.size≤b:=by
      obtain⟨R,hR,DD,hRl⟩:=Hc.out;obtain⟨ys,R1,hy,hR1,rfl,hn1⟩:=hO;have Qk:=(List.nodup_append.1 DD).2.2;have hu1 :∀b∈ob (.slice KA ks.len c)++obs R1,b<w3.heap.size:=fun b hb=>(List.mem_append.1 hb).elim (H6 hy b) (hR1.lt b);have hu :∀b∈obs R,b<wr.heap.size:=hR.lt;have hk1 :∀b∈ob (.slice KA ks.len c)++obs R1,w4.heap[b]?=w3.heap[b]?:=fun b hb=>by
       have h1:=hu1 b hb;have h2:=zB b hb;rw[hgrow.block b (by simp;omega) (fun e=>by have:=(Ho.out.lt b e.symm).2;omega)];exact Below.heap_alloc w3 _ b h1
      have hk :∀b∈obs R,w4.heap[b]?=wr.heap[b]?:=fun b hb=>by
       have h1:=hu b hb;have h2:=hRl b hb;rw[hgrow.block b (by simp;omega) (fun e=>Qk b (fA.2 e.symm) b hb rfl),Below.heap_alloc w3 _ b (by omega)];exact hs2.block b ⟨h1,by omega⟩
      refine⟨_,FoR.snoc ⟨f1,f2,f3⟩ (Dv hy fun b hb=>hk1 b (by simp[hb])) (hR1.keep fun b hb=>hk1 b (by simp[hb])) (hR.keep hk),?_,?_⟩
      ·rw[zo,BF];refine List.nodup_append.2 ⟨H9 _,BG (List.nodup_append.1 DD).2.1 hn1 hu zB,fun a ha b hb e=>?_⟩;subst e;have ha:=fA.1 ha;rcases aX with e2|e2
       ·rw[e2]at ha;have h0:=(Ho.out.lt a ha).2;rcases List.mem_append.1 hb with hb|hb
        ·exact Qk a (fA.2 ha) a hb rfl
        ·have:=zB a hb;omega
       ·rw[ha]at e2;injection e2 with e2;simp at e2;rcases List.mem_append.1 hb with hb|hb
        ·have:=hu a hb;omega
        ·have:=hu1 a hb;omega
      ·intro b hb;rw[zo,BF]at hb;rcases List.mem_append.1 hb with hb|hb
       ·exact hRl b hb
       ·exact aI hwr (zB b hb)
     refine⟨⟨f.app (.cons k t m ks .nil),_,l2,by rw[hlen1];simp,by rw[hlen1];omega,hide ?_,hide ?_,hide ?_,hide ?_,hide ?_,hide hc3,hide ?_,hide ?_⟩,by simp[intOf];omega⟩
     ·rw[He.out,he2,J3,G5];simp[foB]
     ·exact Fo.fit_app.mpr ⟨Hf.out,f1,f2,f3,f5,f4,trivial⟩
     ·rw[Fo.high_app];simp only[Fo.high];have:=Hh.out;omega
     ·rw[hlen1];exact hown
     ·intro g hg;rcases aX with e|e
      ·exact Hg.out g (e▸hg)
      ·rw[hg]at e;injection e with e;simp at e;omega
     ·exact KJ (hr2.alloc _) hgrow hrb (by simp;omega) (fun k hk=>Hg.out k hk)
     ·exact Keep.grown (Side.alloc hS3 _) hgrow (fun k hk=>hk.1) (fun k hk hp=>absurd hp.1 (by have:=Hg.out k hk;omega))
    ·exact⟨rfl,.inr ⟨Qh Hn.out Hf.out He.out hlt hno,rfl,Side.trans HS.out hs2⟩⟩
   ·go_wp2_with fail
    obtain⟨R,hR,DD,hRl⟩:=Hc.out;obtain⟨A2,c2,rfl,hrd,hc2,hc3⟩:=jk Ho.out Hg.out (hR.cells fun b hb=>⟨hRl b hb,fun e=>(List.nodup_append.1 DD).2.2 b (fA.2 e) b hb rfl⟩) rfl;go_ret;have hnn:n=(f.len:Int):=by omega
    refine .inl ⟨f,lq,_,_,?_,Hf.out,Hh.out,rfl,hrd,hc2,hc3,Hq.out.back gI.out,HS.out,_,⟨vs,R,Ho.out,hR,rfl,DD⟩,fun b hb=>(List.mem_append.1 hb).elim (fun h=>Hg.out b (fA.1 h)) (hRl b)⟩;rw[He.out,hnn,←List.append_assoc];rfl
 ·go_enter Tryz.func278,Tryz.ntmps278
  go_wp2_with(first
   | (go_at_call 250;(with_reducible refine(xZ (n:=n) (l':=l1) H.out Hn.out).mono ?_);rintro e w1 ⟨rfl,hr,hs⟩;obtain⟨A1,c1,q0⟩:=hr.slice;have Hr:=hide hr;have Hs:=hide hs;clear hr hs)
   | (go_at_call 253;refine(uZ (by first|rfl|(simp;omega)) _).mono ?_;rintro e w2 ⟨rfl,rfl⟩))
  all_goals exact⟨rfl,.inr ⟨Vx Hn.out hok,rfl,Hs.out⟩⟩
theorem Rdr.setNew{D:Nat→Prop}{rb d B:Nat}{w:World}{l:List UInt8}(h:Rdr (fun b=>D b∧b<B) rb w l d)(hrb:rb<B){a:Addr}(ha:B≤a.block)(u:Value):Rdr (fun b=>D b∧b<B) rb (w.setCell a u) l d :=
 h.keep fun b hb=>Below.heap_setCell w a u b (by
  have hlt:b<B:=hb.elim (fun h=>h.2) (fun e=>e▸hrb);omega)
theorem Rdr.setDeep{D:Nat→Prop}{rb d d':Nat}{w:World}{l:List UInt8}(h:Rdr D rb w l d):Rdr D rb (w.setCell ⟨rb,1,none⟩ (.int .i64 d')) l d':=by
 obtain⟨A,c,h0,h1,h2,h3,h4,h5,h6,h7⟩:=h;refine⟨A,c,?_,World.cell?_setCell_same _ _ _ h1,by rw[World.frozen?_setCell];exact h2,by rw[World.frozen?_setCell];exact h3,h4.keep fun b hb=>Below.heap_setCell w _ _ b (h7 b hb),h5,h6,h7⟩;rw[World.cell?_setCell_other]
 ·exact h0
 ·simp
theorem Iq{d:Nat}{l:List UInt8}(h:l=[]∨40≤d):¬NodeAt d l:=by
 rintro⟨k,t,n,ks,l',_,hh,rfl⟩;rcases h with h|h
 ·simp[nodeB]at h
 ·omega
theorem FoIn.setLow{B:Nat}{w:World}{A:Option Addr}{f:Fo}(h:FoIn (fun b=>B≤b) w A f){a:Addr}(ha:a.block<B)(u:Value):FoIn (fun b=>B≤b) (w.setCell a u) A f :=
 h.keep fun b hb=>Below.heap_setCell w a u b (by omega)
theorem NodesO.setLow{B c:Nat}{w:World}{A:Option Addr}{f:Fo}{L:List Nat}(h:NodesO w A c f L∧∀b∈L,B≤b){a:Addr}(ha:a.block<B)(u:Value):NodesO (w.setCell a u) A c f L∧∀b∈L,B≤b :=
 ⟨h.1.keep fun b hb=>Below.heap_setCell w a u b (by have:=h.2 b hb;omega),h.2⟩
theorem Ql{d:Nat}{x:UInt8}{l1:List UInt8}(h :¬TextAt l1):¬NodeAt d (x::l1):=by
 rintro⟨k,t,n,ks,l',hf,_,he⟩;simp only[nodeB,List.cons_append,List.append_assoc,List.cons.injEq]at he;exact h ⟨t,_,hf.2.1,he.2⟩
theorem Qm{d:Nat}{x:UInt8}{s:ByteArray}{l2:List UInt8}(hs:s.size≤max63)(h:l2.length<8):¬NodeAt d (x::(txtB s++l2)):=by
 rintro⟨k,t,n,ks,l',hf,_,he⟩;simp only[nodeB,List.cons_append,List.append_assoc,List.cons.injEq]at he;obtain⟨_,e2⟩:=jb hs hf.2.1 he.2;rw[e2,aJ,eY]at h;omega
theorem Qn{d:Nat}{x:UInt8}{s:ByteArray}{n:Int}{l3:List UInt8}(hs:s.size≤max63)(hn:is63 n)(h :¬NodesAt (d+1) l3):¬NodeAt d (x::(txtB s++(num8 n++l3))):=by
 rintro⟨k,t,m,ks,l',hf,hh,he⟩;simp only[nodeB,List.cons_append,List.append_assoc,List.cons.injEq]at he;obtain⟨_,e2⟩:=jb hs hf.2.1 he.2;obtain⟨_,e3⟩:=zag hn hf.2.2.1 e2;exact h ⟨ks,l',hf.2.2.2,by omega,e3⟩
theorem Vz{D:Nat→Prop}{rb d:Nat}{w:World}{l:List UInt8}
  (hsome :∀(D':Nat→Prop) (w':World) (l':List UInt8),l'.length<l.length→Rdr D' rb w' l' (d+1)→Calls Tryz.prog 278 #[.pointer (some ⟨rb,0,none⟩),.func (.func 279) #[.pointer (some ⟨rb,0,none⟩)] #[]] w' (NodesPost D' rb (d+1) w' l'))
  (h:Rdr D rb w l d) (hd:d≤40) (hl:l.length≤lid):
  Calls Tryz.prog 279 #[.pointer (some ⟨rb,0,none⟩)] w (NodePost D rb d w l):=by
 have hrb:=h.lt;have gI:=hide h.off;have H:=hide h.old;have DF:=hide hsome;obtain⟨qd,qf⟩:=h.deep;clear h hsome;by_cases KX:d<40
 ·have Ha :∀o,Hid (Rdr (fun b=>D b∧b<w.heap.size) rb ((w.setCell ⟨rb,1,none⟩ (.int .i64 ((d:Int)+1))).alloc o) l (d+1)):=fun o=>hide (by
   have:=(H.out.setDeep (d':=d+1)).alloc o
   simpa using this)
  have Sa :∀o,Hid (Side rb w ((w.setCell ⟨rb,1,none⟩ (.int .i64 ((d:Int)+1))).alloc o)):=fun o=>hide (Side.alloc (Side.set (Side.refl rb w) 1 _) o);rcases l with _|⟨x,l1⟩
  ·go_enter Tryz.func279,Tryz.ntmps279
   go_wp2_with(first
    | (go_at_call 253;refine(uY (by first|rfl|(simp;omega)) _).mono ?_;rintro e w2 ⟨rfl,rfl⟩)
    | (go_at_call 248;refine(Ic (Ha _).out (by unfold is63;omega) (by simp)).mono ?_;rintro e w2 ⟨rfl,hs⟩;exact⟨rfl,.inr ⟨Iq (.inl rfl),rfl,Side.trans (Sa _).out hs⟩⟩))
  ·have hx:=x.toNat_lt;have hll:l1.length+1≤1099511627776:=hl;go_enter Tryz.func279,Tryz.ntmps279
   go_wp2_with(first
    | (go_at_call 253;refine(uY (by first|rfl|(simp;omega)) _).mono ?_;rintro e w2 ⟨rfl,rfl⟩)
    | (go_at_call 248;refine(Dw (Ha _).out (by simp)).mono ?_;rintro e w2 ⟨A,c,rfl,hb,hr,hs⟩;obtain⟨bb,bo,rfl,hx0⟩:=hb.1.at_ (j:=0) (by simp[bytesV]);simp only[bytesV,List.take_succ_cons,List.take_zero,List.map_cons,List.map_nil,aE,Nat.add_zero]at hx0;obtain⟨ha2,hb2,hc2⟩:=hs.box (N:=w.heap.size) (by simp) (by omega);have pF:Hid (Rdr (fun b=>D b∧b<w.heap.size) rb w2 l1 (d+1)):=hide hr;have HS2:=hide (Side.trans (Sa _).out hs);clear hb hr hs)
    | (go_at_call 249;refine(yc (pF.out.alloc _) (show _≤9223372036854775807 by omega)).mono ?_;rintro e w3 (⟨s,l2,he3,hsz,rfl,hr,hs⟩|⟨hno,rfl,hs⟩);all_goals first
      | exact⟨rfl,.inr ⟨Ql hno,rfl,Side.trans (Side.alloc HS2.out _) hs⟩⟩
      | (obtain⟨nS,hb3,hc3⟩:=hs.box (N:=w.heap.size) (by simp;omega) (by omega);obtain⟨ia3,ib3,ic3⟩:=hs.box (N:=w2.heap.size) (by simp) (by omega);have vG:=hide hr;have dF:=hide (Side.trans (Side.alloc HS2.out _) hs);have eu:=hide he3;clear hr hs he3))
    | (go_at_call 250;refine(zi (vG.out.setNew hrb (a:=⟨w2.heap.size,1,none⟩) (Nat.le_of_lt hc2) _)).mono ?_;rintro e w4 (⟨n,l3,he4,hn,rfl,hr,hs⟩|⟨h8,rfl,hs⟩);all_goals first
      | exact⟨rfl,.inr ⟨by rw[eu.out];exact Qm hsz h8,rfl,Side.trans (Side.setNew dF.out (a:=⟨w2.heap.size,1,none⟩) (Nat.le_of_lt hc2) _) hs⟩⟩
      | (obtain⟨nT,hb4,hc4⟩:=hs.box (N:=w.heap.size) (by simp;omega) (by omega);obtain⟨VA,VB,VC⟩:=hs.box (N:=w2.heap.size) (by simp;omega) (by omega);have zC:=hide hr;have gu:=hide (Side.trans (Side.setNew dF.out (a:=⟨w2.heap.size,1,none⟩) (Nat.le_of_lt hc2) _) hs);have iQ:=hide he4;have Hn:=hide hn;have KY:l3.length<(x::l1).length:=(by rw[eu.out,he4];simp[eY];omega);clear hr hs he4 hn))
    | (go_at_call 278;refine(DF.out _ _ l3 KY (zC.out.setNew hrb (a:=⟨w2.heap.size,2,none⟩) (Nat.le_of_lt hc2) _)).mono ?_;rintro e w5 hP;rcases hP with⟨ks,l4,KA,kc,uD,hfit,hhi,rfl,hin,hk1,hk2,hr,hs,L1,hO,zB⟩|⟨hno,rfl,hs⟩;all_goals first
      | exact⟨rfl,.inr ⟨by rw[eu.out,iQ.out];exact Qn hsz Hn.out hno,rfl,Side.trans (Side.setNew gu.out (a:=⟨w2.heap.size,2,none⟩) (Nat.le_of_lt hc2) _) hs⟩⟩
      | (obtain⟨nU,hb5,hc5⟩:=hs.box (N:=w.heap.size) (by simp;omega) (by omega);obtain⟨VD,VE,VF⟩:=hs.box (N:=w2.heap.size) (by simp;omega) (by omega);have DI:=hide hr;obtain⟨qd5,qf5⟩:=hr.deep;have jl:=hide (Side.trans (Side.setNew gu.out (a:=⟨w2.heap.size,2,none⟩) (Nat.le_of_lt hc2) _) hs);have uF:=hide uD;have pU:=hide hfit;have yh:=hide hin;have bC:=hide (And.intro hO zB);clear hr hs uD hfit hin hO zB)))
   refine bodyPost_ret (v:= .agg #[.int .u8 x.toNat,.string s,.int .i64 n,.slice KA ks.len kc]) ?_ rfl ?_
   ·have hne1 :¬w.heap.size=rb:=by omega
    have hne2 :¬rb=w.heap.size:=by omega
    have jm :¬w2.heap.size=w.heap.size:=by omega
    have VG :¬w.heap.size=w2.heap.size:=by omega
    have hne5 :¬w2.heap.size=rb:=by omega
    have VH :¬rb=w2.heap.size:=by omega
    simp only[results,Tryz.results279];go_simp
   ·have hle2:w.heap.size≤w2.heap.size:=Nat.le_of_lt hc2;have kF :∀N,N≤w2.heap.size→N<(w4.setCell ⟨w2.heap.size,2,none⟩ (.int .i64 n)).heap.size:=fun N h=>by simp;omega
    refine .inl ⟨x.toNat,s,n,ks,l4,KA,kc,?_,⟨by omega,hsz,Hn.out,pU.out,aI hk1 hk2⟩,by omega,rfl,?_,hk1,hk2,?_,?_,L1,?_⟩
    ·rw[eu.out,iQ.out,uF.out];simp[nodeB]
    ·refine FoIn.mono (((((((yh.out.setLow (a:=⟨w2.heap.size,3,none⟩) (kF _ (aC _)) _).setLow (a:=⟨rb,1,none⟩) (kF _ (by show rb≤_;omega)) _).setLow (a:=⟨w.heap.size,0,none⟩) (kF _ hle2) _).setLow (a:=⟨w.heap.size,1,none⟩) (kF _ hle2) _).setLow (a:=⟨w.heap.size,2,none⟩) (kF _ hle2) _).setLow (a:=⟨w.heap.size,3,none⟩) (kF _ hle2) _)) (fun b _ hb=>?_);have h1:=kF _ (aC _);exact aI (aI hle2 (Nat.le_of_lt h1)) hb
    ·exact((((((DI.out.setNew hrb (a:=⟨w2.heap.size,3,none⟩) hle2 _).setDeep (d':=d)).setNew hrb (a:=⟨w.heap.size,0,none⟩) (aC _) _).setNew hrb (a:=⟨w.heap.size,1,none⟩) (aC _) _).setNew hrb (a:=⟨w.heap.size,2,none⟩) (aC _) _).setNew hrb (a:=⟨w.heap.size,3,none⟩) (aC _) _).back gI.out
    ·exact Side.setNew (Side.setNew (Side.setNew (Side.setNew (Side.set (Side.setNew jl.out (a:=⟨w2.heap.size,3,none⟩) hle2 _) 1 _) (a:=⟨w.heap.size,0,none⟩) (aC _) _) (a:=⟨w.heap.size,1,none⟩) (aC _) _) (a:=⟨w.heap.size,2,none⟩) (aC _) _) (a:=⟨w.heap.size,3,none⟩) (aC _) _
    ·have h1:=kF _ (aC _);have hz:=NodesO.setLow (NodesO.setLow (NodesO.setLow (NodesO.setLow (NodesO.setLow (NodesO.setLow bC.out (a:=⟨w2.heap.size,3,none⟩) (kF _ (aC _)) (.slice KA ks.len kc)) (a:=⟨rb,1,none⟩) (kF _ (by show rb≤_;omega)) (.int .i64 d)) (a:=⟨w.heap.size,0,none⟩) (kF _ hle2) (.int .u8 x.toNat)) (a:=⟨w.heap.size,1,none⟩) (kF _ hle2) (.string s)) (a:=⟨w.heap.size,2,none⟩) (kF _ hle2) (.int .i64 n)) (a:=⟨w.heap.size,3,none⟩) (kF _ hle2) (.slice KA ks.len kc);exact⟨hz.1,fun b hb=>aI (aI hle2 (Nat.le_of_lt h1)) (hz.2 b hb)⟩
 ·go_enter Tryz.func279,Tryz.ntmps279
  go_wp2_with(go_at_call 253;refine(uZ (by first|rfl|(simp;omega)) _).mono ?_;rintro e w2 ⟨rfl,rfl⟩)
  all_goals exact⟨rfl,.inr ⟨Iq (.inr (by omega)),rfl,(Side.refl rb w).alloc _⟩⟩
theorem lS(N:Nat):∀(D:Nat→Prop) (rb d:Nat) (w:World) (l:List UInt8),l.length<N→Rdr D rb w l d→d≤40→l.length≤lid→
  Calls Tryz.prog 279 #[.pointer (some ⟨rb,0,none⟩)] w (NodePost D rb d w l):=by
 induction N with
 | zero=>intro D rb d w l h;omega
 | succ N ih =>
  intro D rb d w l hN h hd hl;by_cases KX:d<40
  ·exact Vz (fun D' w' l' hlt h'=>Qj (fun D2 w2 l2 hlt2 h2=>ih D2 rb (d+1) w2 l2 (by omega) h2 (by omega) (by omega)) h' (by omega) (by omega)) h hd hl
  ·have hrb:=h.lt;obtain⟨qd,qf⟩:=h.deep;clear h;go_enter Tryz.func279,Tryz.ntmps279
   go_wp2_with(go_at_call 253;refine(uZ (by first|rfl|(simp;omega)) _).mono ?_;rintro e w2 ⟨rfl,rfl⟩)
   all_goals exact⟨rfl,.inr ⟨Iq (.inr (by omega)),rfl,(Side.refl rb w).alloc _⟩⟩
theorem pV{D:Nat→Prop}{rb d:Nat}{w:World}{l:List UInt8}(h:Rdr D rb w l d)(hd:d≤40)(hl:l.length≤lid):Calls Tryz.prog 279 #[.pointer (some ⟨rb,0,none⟩)] w (NodePost D rb d w l):=
 lS (l.length+1) D rb d w l (by omega) h hd hl
theorem Qo{D:Nat→Prop}{rb d:Nat}{w:World}{l:List UInt8}(h:Rdr D rb w l d)(hd:d≤40)(hl:l.length≤lid):
  Calls Tryz.prog 278 #[.pointer (some ⟨rb,0,none⟩),.func (.func 279) #[.pointer (some ⟨rb,0,none⟩)] #[]] w (NodesPost D rb d w l):=
 Qj (fun _ _ _ hlt h'=>pV h' hd (by omega)) h hd hl
def LineSays(s:List UInt8)(b1 b2:Bool):Prop:=∀last:Bool,(b1=true∧(b2=true→last=true))↔LineIn last s
theorem vH{s:ByteArray}{k:Nat}(hk:k+1<s.size)(h:s[k]=10):LineSays s.data.toList false false:=by
 intro last;have hl:s.data.toList.length=s.size:=by simp
 constructor
 ·rintro⟨h1,_⟩;cases h1
 ·rintro⟨_,h2,_⟩;have hlt:k<s.data.toList.length:=by omega
  exact absurd (show s.data.toList[k]?=some 10 by rw[List.getElem?_eq_getElem hlt];exact congrArg some h) (h2 k (by omega))
theorem pW{s:ByteArray}(h:s.size=0):LineSays s.data.toList false true:=by
 intro last;have hl:s.data.toList.length=s.size:=by simp
 have hn:s.data.toList=[]:=List.length_eq_zero_iff.1 (by omega);constructor
 ·rintro⟨h1,_⟩;cases h1
 ·rintro⟨h1,_⟩;exact absurd hn h1
theorem pX{s:ByteArray}{b:Bool}{k:Nat}(hk:k+1=s.size)(h :∀j,(h:j+1<s.size)→s[j]≠10)(hb:b=true↔s[k]≠10):LineSays s.data.toList true b:=by
 intro last;have hl:s.data.toList.length=s.size:=by simp
 have hne:s.data.toList≠[]:=by intro e;rw[e]at hl;simp at hl;omega
 have hlast:s.data.toList.getLast?=some s[k]:=by
  have hlt:k<s.data.toList.length:=by omega
  rw[List.getLast?_eq_getElem?,hl,show s.size-1=k by omega,List.getElem?_eq_getElem hlt];rfl
 unfold LineIn;rw[hlast];have h2 :∀i,i+1<s.data.toList.length→s.data.toList[i]?≠some 10:=by
  intro i hi e;have hlt:i<s.data.toList.length:=by omega
  rw[List.getElem?_eq_getElem hlt]at e;exact h i (by omega) (Option.some.inj e)
 constructor
 ·rintro⟨_,h3⟩;refine⟨hne,h2,?_⟩;by_cases hb1:b=true
  ·exact .inl (h3 hb1)
  ·refine .inr ?_;by_cases h4:s[k]=10
   ·rw[h4]
   ·exact absurd (hb.2 h4) hb1
 ·rintro⟨_,_,h3⟩;refine⟨rfl,fun hb1=>?_⟩;rcases h3 with h3|h3
  ·exact h3
  ·exact absurd (Option.some.inj h3) (hb.1 hb1)
theorem lT(s:ByteArray)(w:World)(hs:s.size≤9223372036854775807):Calls Tryz.prog 260 #[.string s] w fun e w'=>(∃b1 b2,e = .returned (.tuple #[.bool b1,.bool b2])∧LineSays s.data.toList b1 b2)∧Below w.heap.size w w':=by
 have hz:=hide (fH s);by_cases h0:s.size=0
 ·have he:s.toList=[]:=by rw[fH];omega
  have He:=hide he;go_enter Tryz.func260,Tryz.ntmps260
  go_wp2
  go_loop [4] (fun i=>i = .int .i64 0) (fun _=>0)
  case atStart=>rfl
  case round =>
   subst hrel
   go_wp2_with fail
   go_quiet (fail)
   go_wp2_with fail
   go_ret2
   exact⟨⟨false,true,rfl,pW h0⟩,aO (Below.refl _ _) _⟩
 ·have h1:1≤s.size:=by omega
  have hne :¬s.toList=[]:=by rw[fH];omega
  have hne2:s.toList.isEmpty=false:=by simpa using hne
  go_enter Tryz.func260,Tryz.ntmps260
  go_wp2
  go_loop [4] (fun i=>∃k:Nat,k+1≤s.size∧i = .int .i64 k∧Hid (∀j,j<k→(h:j+1<s.size)→s[j]≠10)) (fun i=>s.size-(intOf i).toNat)
  case atStart=>exact⟨0,by omega,rfl,hide (fun j h=>absurd h (by omega))⟩
  case round =>
   obtain⟨k,hk,rfl,hall⟩:=hrel;by_cases hlt:k+1<s.size
   ·go_wp2_with fail
    ·have ht:((s[k].toNat:Int) == 10)=true:=by assumption
     go_ret2
     exact⟨⟨false,false,rfl,vH hlt (UInt8.toNat_inj.1 (by have:=beq_iff_eq.1 ht;show s[k].toNat=10;omega))⟩,Below.refl _ _⟩
    ·have ht:((s[k].toNat:Int) == 10)=false:=by assumption
     go_round
     case rel=>exact⟨k+1,by omega,by go_num,hide (fun j hj h=>by
      rcases Nat.lt_or_ge j k with h2|h2
      ·exact hall.out j h2 h
      ·obtain rfl:j=k:=by omega
       intro e;rw[e]at ht;exact absurd ht (by decide))⟩
     case measure=>simp[intOf];omega
   ·have hkk:(s.size:Int)-1=(k:Int):=by omega
    have hks:k<s.size:=by omega
    go_wp2_with fail
    go_quiet (fail)
    go_wp2_with fail
    go_ret2
    refine⟨⟨true,_,rfl,pX (k:=k) (by omega) (fun j h=>hall.out j (by omega) h) ?_⟩,aO (Below.refl _ _) _⟩;show((s[k].toNat:Int) != 10)=true↔s[k]≠10;rw[bne_iff_ne];constructor
    ·intro h1 h2;rw[h2]at h1;exact h1 rfl
    ·intro h1 h2;exact h1 (UInt8.toNat_inj.1 (by show s[k].toNat=10;omega))
theorem VI{l:List ByteArray}{k:Nat}(hk:k<l.length){s:ByteArray}(hs:l[k]?=some s):LinesOk (l.drop k)↔LineIn (decide (k+1=l.length)) s.data.toList∧LinesOk (l.drop (k+1)):=by
 have e:l[k]=s:=by
  have:=List.getElem?_eq_getElem hk;rw[this]at hs;injection hs
 rw[List.drop_eq_getElem_cons hk,LinesOk,e];have:(l.drop (k+1)).isEmpty=decide (k+1=l.length):=by
  rw[Bool.eq_iff_iff];simp;omega
 rw[this]
theorem Qp{S:Nat→Prop}{A:Option Addr}{c:Nat}{l:List ByteArray}{w:World}(hl:StrsIn S w A l):
    Calls Tryz.prog 228 #[.slice A l.length c] w fun e w'=>RetB (LinesOk l) e∧Below w.heap.size w w':=by
  have hl3:=hl.2.2;have Hl:=hide hl;clear hl;go_enter Tryz.func228,Tryz.ntmps228
  go_wp2_with fail
  go_loopw [3] (fun i wr=>∃k:Nat,k≤l.length∧i = .int .i64 k∧Hid (LinesOk l↔LinesOk (l.drop k))∧Hid (Below w.heap.size w wr)) (fun i _=>l.length-(intOf i).toNat)
  case atStart=>exact⟨0,Nat.zero_le _,rfl,hide Iff.rfl,hide (Below.refl _ _)⟩
  case round =>
    obtain⟨k,hk,rfl,hall,HB⟩:=hrel;by_cases hlt:k<l.length
    · obtain⟨b,o,rfl,h1⟩:=(Hl.out.below HB.out).1.at_ (j:=k) (by simpa using hlt)
      simp only[List.getElem_map]at h1;have hsz:=Hl.out.2.1 _ (List.getElem_mem hlt);have hd:=VI hlt (s:=l[k]) (by simp[hlt]);generalize l[k]=s at h1 hsz hd;have Hd:=hide hd;clear hd
      go_wp2_with(go_at_call 260;(with_reducible refine(lT s _ hsz).mono ?_);rintro e w1 ⟨⟨b1,b2,rfl,DJ⟩,hB1⟩;have DK:=hide DJ;have HB1:=hide (ak HB.out hB1);clear DJ hB1)
      all_goals first
        | (go_ret
           exact⟨RetB.no (fun h=>by
            have h3:=(DK.out _).2 (Hd.out.1 (hall.out.1 h)).1;have h4:=h3.1;have h5:=h3.2;simp only[decide_eq_true_eq]at h5
            first
              | contradiction
              | (have h6:=h5 (by assumption);omega)),HB1.out⟩)
        | (go_roundw
           case rel=>exact⟨k+1,by omega,by go_num,hide ⟨fun h=>(Hd.out.1 (hall.out.1 h)).2,fun h=>hall.out.2 (Hd.out.2 ⟨(DK.out _).1 ⟨by assumption,fun hb=>decide_eq_true (by first|contradiction|omega)⟩,h⟩)⟩,HB1⟩
           case measure=>simp[intOf];omega)
    · go_wp2_with fail
      go_ret;exact⟨RetB.yes (by have:=hall.out;rw[List.drop_eq_nil_of_le (by omega)]at this;exact this.2 trivial),HB.out⟩
theorem Qq(last:Bool)(s:List UInt8){p:Int}(hp:Lib.indexByte s 10=p):LineIn last s↔s≠[]∧¬(0≤p∧p<s.length-1)∧(p<0→last=true):=by
 have hge:=Lib.indexByte_ge s 10;rw[hp]at hge;unfold LineIn;by_cases h0:p<0
 ·have e:p = -1:=by omega
  subst e;have hn:=Lib.indexByte_none hp;constructor
  ·rintro⟨h1,h2,h3⟩;refine⟨h1,by omega,fun _=>?_⟩;rcases h3 with h3|h3
   ·exact h3
   ·rw[List.getLast?_eq_getElem?]at h3;exact absurd h3 (hn _)
  ·rintro⟨h1,_,h3⟩;exact⟨h1,fun i _=>hn i,.inl (h3 (by omega))⟩
 ·obtain⟨o,rfl⟩:=Int.eq_ofNat_of_zero_le (a:=p) (by omega);obtain⟨hs,hlt⟩:=Lib.indexByte_some hp;have hol:o<s.length:=(List.getElem?_eq_some_iff.1 hs).1;constructor
  ·rintro⟨h1,h2,h3⟩;refine⟨h1,fun h=>h2 o (by omega) hs,by omega⟩
  ·rintro⟨h1,h2,_⟩;have e:o=s.length-1:=by omega
   refine⟨h1,fun i hi=>hlt i (by omega),.inr ?_⟩;rw[List.getLast?_eq_getElem?,←e];exact hs
theorem Qr{l:List ByteArray}{k:Nat}(hk:k<l.length){s:ByteArray}(hs:l[k]?=some s):LinesOk (l.drop k)↔LineIn (decide (k+1=l.length)) s.data.toList∧LinesOk (l.drop (k+1)):=by
 have e:l[k]=s:=by
  have:=List.getElem?_eq_getElem hk;rw[this]at hs;injection hs
 rw[List.drop_eq_getElem_cons hk,LinesOk,e];have:(l.drop (k+1)).isEmpty=decide (k+1=l.length):=by
  rw[Bool.eq_iff_iff];simp;omega
 rw[this]
theorem VJ{l:List ByteArray}{k:Nat}(h:LinesOk l↔LinesOk (l.drop k))(hk:k<l.length){s:ByteArray}(hs:l[k]?=some s){p:Int}(hp:Lib.indexByte s.data.toList 10=p)
  (hok :¬s.toList=[]∧¬(0≤p∧p<(s.size:Int)-1)∧(p<0→k+1=l.length)):LinesOk l↔LinesOk (l.drop (k+1)):=by
 rw[ByteArray.toList_eq]at hok;have hl:s.data.toList.length=s.size:=by simp
 rw[←hl]at hok;rw[h,Qr hk hs,Qq _ _ hp];simp only[decide_eq_true_eq];exact⟨fun h=>h.2,fun h=>⟨hok,h⟩⟩
theorem pY{l:List ByteArray}{k:Nat}(h:LinesOk l↔LinesOk (l.drop k))(hk:k<l.length){s:ByteArray}(hs:l[k]?=some s){p:Int}(hp:Lib.indexByte s.data.toList 10=p)
  (hok :¬(¬s.toList=[]∧¬(0≤p∧p<(s.size:Int)-1)∧(p<0→k+1=l.length))):¬LinesOk l:=by
 rw[ByteArray.toList_eq]at hok;have hl:s.data.toList.length=s.size:=by simp
 rw[←hl]at hok;rw[h,Qr hk hs,Qq _ _ hp];simp only[decide_eq_true_eq];exact fun h=>hok h.1
theorem lU{l:List ByteArray}{k:Nat}(h:LinesOk l↔LinesOk (l.drop k))(hk :¬k<l.length):LinesOk l:=by
 rw[h,List.drop_eq_nil_of_le (by omega)];trivial
theorem Qs{S:Nat→Prop}{A:Option Addr}{c:Nat}{l:List ByteArray}{w:World}(hl:StrsIn S w A l):
    Calls Tryz.prog 214 #[.slice A l.length c] w fun e w'=>RetB (LinesOk l) e∧w=w':=by
  have hl3:=hl.2.2;have Hl:=hide hl;clear hl;go_enter Tryz.func214,Tryz.ntmps214
  go_wp2_with fail
  go_loop [8,3,4,5,15,29] (fun i _ _ _ _ _=>∃k:Nat,k≤l.length∧i = .int .i64 k∧Hid (LinesOk l↔LinesOk (l.drop k))) (fun i _ _ _ _ _=>l.length-(intOf i).toNat)
  case atStart=>exact⟨0,Nat.zero_le _,rfl,hide Iff.rfl⟩
  case round =>
    obtain⟨k,hk,rfl,hall⟩:=hrel;by_cases hlt:k<l.length
    · obtain⟨b,o,rfl,h1⟩:=Hl.out.1.at_ (j:=k) (by simpa using hlt)
      simp only[List.getElem_map]at h1;have hsz:=Hl.out.2.1 _ (List.getElem_mem hlt);have E:=hide (show l[k]?=some l[k]by simp[hlt]);generalize l[k]=s at h1 hsz E;have hge:=Lib.indexByte_ge s.data.toList 10;obtain⟨p,hp⟩:∃p,Lib.indexByte s.data.toList 10=p:=⟨_,rfl⟩;rw[hp]at hge;have hup:p<s.size+1:=by
        rcases Int.lt_or_le p 0 with h|h
        · omega
        · obtain⟨q,rfl⟩:=Int.eq_ofNat_of_zero_le h
          have:=(List.getElem?_eq_some_iff.1 (Lib.indexByte_some hp).1).1;simp at this;omega
      have Hp:=hide hp;clear hp
      go_wp2_with(go_at_call 213;refine(Tryz.strings_IndexByte s 10 _).mono ?_;rintro e w' ⟨rfl,rfl⟩;simp only[show((10:Int).toNat.toUInt8)=10 from rfl,Hp.out])
      all_goals first
        | (go_ret
           exact⟨RetB.no (pY hall.out hlt E.out Hp.out (by go_tidy;clear hall Hp E Hl;grind)),rfl⟩)
        | (go_round
           case rel=>exact⟨k+1,by omega,by go_num,hide (VJ hall.out hlt E.out Hp.out (by go_tidy;clear hall Hp E Hl;grind))⟩
           case measure=>simp[intOf];omega)
    · go_wp2_with fail
      go_ret;exact⟨RetB.yes (lU hall.out hlt),rfl⟩
theorem VK{S:Nat→Prop}{x:Hh}{a:Hk}{w:World}(ha:HkIn S w x a):
  Calls Tryz.prog 172 #[.agg #[.int .i64 a.at_,.slice x.oA a.old.length x.oc,.slice x.nA a.new.length x.nc]] w
   fun e w'=>RetB (HkOk a) e∧Below w.heap.size w w':=by
 have h1:=ha.at_;unfold isInt64 at h1;have Ha:=hide ha;have bK:Hid (HkOk a↔0≤a.at_∧a.at_≤1099511627776∧LinesOk a.old∧LinesOk a.new∧a.old≠a.new):=hide Iff.rfl;clear ha;go_enter Tryz.func172,Tryz.ntmps172
 go_wp2_with(first
  | (go_at_call 214;(with_reducible refine(Qs (Ha.out.old.below (ag _ _))).mono ?_);rintro e w1 ⟨⟨b1,rfl,hb⟩,rfl⟩;have Hb1:=hide hb;clear hb)
  | (go_at_call 214;(with_reducible refine(Qs (Ha.out.new.below (ag _ _))).mono ?_);rintro e w1 ⟨⟨b2,rfl,hb⟩,rfl⟩;have Hb2:=hide hb;clear hb)
  | (go_at_call 215;(with_reducible refine(Ko (Ha.out.old.below (ag _ _)) (Ha.out.new.below (ag _ _))).mono ?_);rintro e w1 ⟨⟨b3,rfl,hb⟩,q,rfl⟩;have Hb3:=hide hb;clear hb))
 all_goals
  go_ret;go_tidy;refine⟨RetB.mk ?_,?_⟩
  ·rw[bK.out]
   first
    | (have h1:=Hb1.out;have h2:=Hb2.out;have h3:=Hb3.out;clear Hb1 Hb2 Hb3 Ha bK;grind)
    | (have h1:=Hb1.out;have h2:=Hb2.out;clear Hb1 Hb2 Ha bK;grind)
    | (have h1:=Hb1.out;clear Hb1 Ha bK;grind)
    | grind
  ·first
    | exact ag _ _
    | exact aO (ag _ _) _
theorem Qu(s:List UInt8)(ws:List (List UInt8))(bx:Nat)(t:ByteArray)(w:World)(ht:TabOk w)(hf:Lib.fields s=ws)(hs:s.length<4294967281)(ha :∀b∈s,b.toNat<128)(hl:(txts ws).length≤9223372036854775807)
  (hc:w.cell? ⟨bx,1,none⟩=some (.string t)) (hemp:[]∉ws):
  Calls Tryz.prog 296 #[.string ⟨s.toArray⟩,.pointer (some ⟨bx,0,none⟩)] w fun e w'=>RetB (t.data.toList∈ws) e∧Below w.heap.size w w':=by
 have Ht:Hid (TabOk w):=ht;have Hf:=hide hf;have Ha:=hide ha;have Hl:=hide hl;have He:=hide hemp;have hbx:=block_lt_of_cell hc;clear ht hf ha hl hemp;by_cases h0:t.toList=[]
 ·have hz:t.data.toList=[]:=by rw[←ByteArray.toList_eq];exact h0
  have Hz:=hide hz;clear hz;go_enter Tryz.func296,Tryz.ntmps296
  go_wp2_with fail
  go_quiet (fail)
  go_wp2_with fail
  go_ret;exact⟨RetB.no (by rw[Hz.out];exact He.out),aO (Below.refl _ _) _⟩
 ·have h1:t.toList.isEmpty=false:=by simpa using h0
  go_enter Tryz.func296,Tryz.ntmps296
  go_wp2_with fail
  go_region_with (first
   | (go_at_call 281;refine(Qb s ws _ (Ht.out.below (aO (Below.refl _ _) 1)) Hf.out hs Ha.out).mono ?_;rintro e w1 ⟨A,c,rfl,hr,hB⟩;have hcw:=(hB.cell (p:=⟨bx,1,none⟩) hbx).trans hc;have Hr:=hide hr;have HB:=hide hB;clear hr hB)
   | (go_at_call 256;refine(PE (l:=txts ws) (x:=t) Hr.out Hl.out).mono ?_;rintro e w2 ⟨⟨b2,rfl,hb⟩,rfl⟩;have Hc:=hide hb;clear hb))
  all_goals
   go_wp2_with fail
   go_ret;exact⟨RetB.mk (by rw[Hc.out,KT]),uu HB.out⟩
def signs1:List (List UInt8):=[[45],[33]]
theorem VL{k:Nat}{t:ByteArray}(h:Named k):TextOk k t↔LexName t:=by unfold TextOk;rw[if_pos h]
theorem VM{t:ByteArray}:TextOk 23 t↔t.data.toList∈signs1:=by
 unfold TextOk;rw[if_neg (by unfold Named;omega),if_pos rfl];simp[signs1]
theorem VN{t:ByteArray}:TextOk 24 t↔t.data.toList∈binaries:=by
 unfold TextOk;rw[if_neg (by unfold Named;omega),if_neg (by omega),if_pos rfl]
theorem DL{k:Nat}{t:ByteArray}(h :¬Named k)(h3:k≠23)(h4:k≠24):TextOk k t↔t.toList=[]:=by
 unfold TextOk;rw[if_neg h,if_neg h3,if_neg h4,ByteArray.toList_eq]
theorem KZ(k:Nat)(t:ByteArray)(n:Int)(A:Option Addr)(l c:Nat)(w:World)(ht:TabOk w)(hk:k<256)(hs:t.size≤9223372036854775807)(hn:isInt64 n):
  Calls Tryz.prog 284 #[.agg #[.int .u8 k,.string t,.int .i64 n,.slice A l c]] w fun e w'=>RetB (NumOk k n∧TextOk k t) e∧Below w.heap.size w w':=by
 have Ht:Hid (TabOk w):=ht;unfold isInt64 at hn;have hmf :∀(fn:Fn) (first cap:Array Value) (w:World),(Instr.makeFunc fn first cap).run Tryz.prog w = .ok (.func fn first cap) w:=fun _ _ _ _=>rfl;clear ht;go_enter Tryz.func284,Tryz.ntmps284
 go_wp2_with(first
  | (go_at_call 297;refine(lJ k _).mono ?_;rintro e w1 ⟨⟨_|_,rfl,hb⟩,hB⟩<;>(have Hb:=hide hb;have HB:=hide (ak (ag _ _) hB);obtain⟨hc1,hf1⟩:=bV hB;have hz:w.heap.size<w1.heap.size:=(by have:=hB.size;simp at this;omega);clear hb hB))
  | (go_at_call 219;refine(dN t _ hs (Ht.out.below HB.out)).mono ?_;rintro e w2 ⟨⟨b2,rfl,hb⟩,hB⟩;have Hb2:=hide hb;have HB2:=hide (ak HB.out hB);clear hb hB)
  | (go_at_call 296;first
   | ((with_reducible refine(Qu [45,32,33] signs1 _ t _ (Ht.out.below HB.out) (by decide +kernel) (by decide) (by decide) (by decide) ?_ (by decide)).mono ?_);(rw[hc1 _ _ (by simp)];simp);rintro e w2 ⟨⟨b2,rfl,hb⟩,hB⟩;have Hb2:=hide hb;have HB2:=hide (ak HB.out hB);clear hb hB)
   | ((with_reducible refine(Qu [124,124,32,38,38,32,61,61,32,33,61,32,60,32,60,61,32,62,32,62,61,32,43,32,45,32,42,32,47,32,37] binaries _ t _ (Ht.out.below HB.out) (by decide +kernel) (by decide) (by decide) (by decide) ?_ (by decide)).mono ?_);(rw[hc1 _ _ (by simp)];simp);rintro e w2 ⟨⟨b2,rfl,hb⟩,hB⟩;have Hb2:=hide hb;have HB2:=hide (ak HB.out hB);clear hb hB)))
 all_goals go_ret
 all_goals go_tidy
 all_goals(try have hb:=Hb.out)
 all_goals(try have hb2:=Hb2.out)
 all_goals(try clear hc1 hf1 hz)
 all_goals refine⟨RetB.mk ?_,(by first|exact HB2.out|exact HB.out|exact ag _ _)⟩
 all_goals(try clear HB2)
 all_goals(try clear HB)
 all_goals(try clear Hb)
 all_goals(try clear Hb2)
 all_goals clear Ht
 all_goals(try clear hk hs)
 all_goals simp only[beq_iff_eq,aK,bne_eq_false_iff_eq,bne_iff_ne,ne_eq,decide_eq_true_eq,List.isEmpty_iff]at *
 all_goals unfold NumOk
 ·have hk:k=20:=by omega
  subst hk;rw[DL (by unfold Named;omega) (by omega) (by omega)];constructor
  ·intro h;exact⟨by omega,by assumption⟩
  ·rintro⟨h,_⟩;omega
 ·have hk:k=20:=by omega
  subst hk;rw[DL (by unfold Named;omega) (by omega) (by omega)];constructor
  ·intro h;exact absurd h (by decide)
  ·rintro⟨_,h⟩;exact absurd h (by assumption)
 ·have hk:k=21:=by omega
  subst hk;rw[DL (by unfold Named;omega) (by omega) (by omega)];constructor
  ·intro h;exact⟨by omega,by assumption⟩
  ·rintro⟨h,_⟩;omega
 ·have hk:k=21:=by omega
  subst hk;rw[DL (by unfold Named;omega) (by omega) (by omega)];constructor
  ·intro h;exact absurd h (by decide)
  ·rintro⟨_,h⟩;exact absurd h (by assumption)
 ·constructor
  ·intro h;exact absurd h (by decide)
  ·rintro⟨h,_⟩;omega
 ·have hk:k=23:=by omega
  subst hk;rw[VM,hb2];constructor
  ·intro h;exact⟨by omega,h⟩
  ·rintro⟨_,h⟩;exact h
 ·have hk:k=24:=by omega
  subst hk;rw[VN,hb2];constructor
  ·intro h;exact⟨by omega,h⟩
  ·rintro⟨_,h⟩;exact h
 ·rw[DL (fun h=>absurd (hb.mpr h) (by decide)) (by omega) (by omega)];constructor
  ·intro h;exact⟨by omega,h⟩
  ·rintro⟨_,h⟩;exact h
 ·rw[VL (hb.mp trivial),hb2];constructor
  ·intro h;exact⟨by omega,h⟩
  ·rintro⟨_,h⟩;exact h
def cnt:List ByteArray→Int→Int→Int
 | [],_,n=>n
 | s::r,m,n=>if n≤m then cnt r m (wrap64 (n+wrap64 ((s.size:Int) / 8)))else n
end
end Go.Proofs.YtjjaojnglnpgaaaGreatDoor
