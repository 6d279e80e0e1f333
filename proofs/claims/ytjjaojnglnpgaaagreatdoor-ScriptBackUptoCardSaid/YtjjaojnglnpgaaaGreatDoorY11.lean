/- Part 12 of what scriptBack_cardUpto rests on. -/
import Derived.Deep.RegionWith
import Derived.Deep.CutRange
import Derived.Deep.DeepCutAuto
import Derived.Test.YtjjaojnglnpgaaaGreatDoorY04
import Derived.Test.YtjjaojnglnpgaaaGreatDoorY00
set_option linter.unusedVariables false
set_option linter.unusedSimpArgs false
set_option maxHeartbeats 16000000
set_option maxRecDepth 1000000
namespace Go.Proofs.YtjjaojnglnpgaaaGreatDoor
section
open Go.RowKit
theorem JO{l:List UInt8}(h:8≤l.length):∃n l',l=au n++l'∧aT n:=by
 have Ci:(l.take 8).length=8:=by simp;omega
 have hb8:=MI (l.take 8);rw[Ci,show(256:Nat) ^ 8=18446744073709551616 from rfl]at hb8;refine⟨wrap64 (beNat (l.take 8)),l.drop 8,?_,?_⟩
 ·rw[oH Ci (by unfold wrap64;omega),List.take_append_drop]
 ·unfold aT wrap64;omega
section
variable {D : Nat → Prop} {rb d : Nat} {w : World} {l l' : List UInt8} {n : Int}
theorem Bd(h:bP D rb w (au n++l') d)(hn:aT n):
  Calls Tryz.prog 250 #[.pointer (some ⟨rb,0,none⟩)] w fun e w'=>e = .returned (.int .i64 n)∧bP D rb w' l' d∧Side rb w w':=by
 refine(Cf h).mono ?_;rintro e w' (⟨n',l2,he,hn',rfl,hr,hs⟩|⟨hl,_⟩)
 ·obtain⟨rfl,rfl⟩:=jg hn hn' he;exact⟨rfl,hr,hs⟩
 ·rw[aJ,fD]at hl;omega
theorem JP(h:bP D rb w l d)(hl:l.length<8):Calls Tryz.prog 250 #[.pointer (some ⟨rb,0,none⟩)] w fun e w'=>e=iW∧Side rb w w':=by
 refine(Cf h).mono ?_;rintro e w' (⟨n',l2,rfl,_⟩|⟨_,he,hs⟩)
 ·rw[aJ,fD]at hl;omega
 ·exact⟨he,hs⟩
theorem RP(h:bP D rb w l d)(hn:aT n)(h1:0≤n∧n≤l.length):Calls Tryz.prog 248 #[.pointer (some ⟨rb,0,none⟩),.int .i64 n] w fun e w' =>
  ∃A c,e = .returned (.slice A n.toNat c)∧BytesIn (Off rb) w' A (l.take n.toNat)∧bP D rb w' (l.drop n.toNat) d∧Side rb w w':=by
 refine(MH h hn).mono ?_;rintro e w' (⟨A,c,_,_,h2⟩|⟨h2,_⟩)
 ·exact⟨A,c,h2⟩
 ·exact absurd h1 h2
theorem JQ(h:bP D rb w l d)(hn:aT n)(h1 :¬(0≤n∧n≤l.length)):Calls Tryz.prog 248 #[.pointer (some ⟨rb,0,none⟩),.int .i64 n] w fun e w'=>e=iW∧Side rb w w':=by
 refine(MH h hn).mono ?_;rintro e w' (⟨A,c,h2,h3,_⟩|⟨_,h2⟩)
 ·exact absurd ⟨h2,h3⟩ h1
 ·exact h2
theorem Gq(h:bP D rb w l d)(hne:0<l.length):Calls Tryz.prog 248 #[.pointer (some ⟨rb,0,none⟩),.int .i64 1] w fun e w' =>
  ∃A c,e = .returned (.slice A 1 c)∧BytesIn (Off rb) w' A (l.take 1)∧bP D rb w' (l.drop 1) d∧Side rb w w':=RP (n:=1) h (by unfold aT;omega) (by omega)
theorem WM(w:World)(A:Option Addr)(c:Nat)(l:List UInt8)(hb:BytesIn (Off rb) w A l):
  (convert 44 9 (.slice A l.length c)).run Tryz.prog w = .ok (.string ⟨l.toArray⟩) w:=by
 rcases hb.1 with h|⟨b,o,rfl,_,hc⟩
 ·have:l=[]:=by simpa[bytesV]using h
  subst this;show(convert 44 9 (.slice A 0 c)).run Tryz.prog w=_;rw[run_convert_bytes_string w 44 9 5 A 0 c Tryz.underlying44 Tryz.underlying5 Tryz.underlying9];cases A<;>simp[Conv.bytesToString,loadCells,loadCellsFrom]
  all_goals rfl
 ·refine run_convert_bytes_back w _ _ _ ⟨b,o,none⟩ c l Tryz.underlying44 Tryz.underlying5 Tryz.underlying9 (fun j hj=>?_);rw[Addr.add_lit];exact hc j _ (by simp[bytesV,hj])
end
theorem ve{D:Nat→Prop}{rb d:Nat}{w:World}{l':List UInt8}{n:Int}(h:bP D rb w (au n++l') d)(hn:aT n)(h1:0≤n∧n≤l'.length):
  Calls Tryz.prog 249 #[.pointer (some ⟨rb,0,none⟩)] w fun e w'=>e = .returned (.string ⟨(l'.take n.toNat).toArray⟩)∧bP D rb w' (l'.drop n.toNat) d∧Side rb w w':=by
 have H:=hide h;have Hn:=hide hn;have hl:(l'.take n.toNat).length=n.toNat:=by simp;omega
 have Hl:=hide hl;have hcv :∀w' A c,Hid (BytesIn (Off rb) w' A (l'.take n.toNat))→(convert 44 9 (.slice A n.toNat c)).run Tryz.prog w' = .ok (.string ⟨(l'.take n.toNat).toArray⟩) w':=by
  intro w' A c hb;have:=WM w' A c _ hb.out
  rwa [hl]at this
 clear h hn hl;go_enter Tryz.func249,Tryz.ntmps249
 go_upto_region 1 with fail
 go_region_with (first
  | (go_at_call 250;(with_reducible refine(Bd (l':=l') (n:=n) (bP.drew H.out) Hn.out).mono ?_);rintro e w1 ⟨rfl,hr,hs⟩;have Hr:=hide hr;have Hs:Hid (Side rb w w1):=hide (Side.trans (Side.drew (Side.refl rb w)) hs);clear hr hs)
  | (go_at_call 248;(with_reducible refine(RP Hr.out Hn.out h1).mono ?_);rintro e w2 ⟨A,c,rfl,hb,hr,hs⟩;have hcv2:=hcv w2 A c (hide hb);have kD:=hide hr;have WN:=hide (Side.trans Hs.out hs);clear hb hr hs))
 all_goals(go_wp2_with fail;go_ret;exact⟨rfl,kD.out,WN.out⟩)
theorem vg{D:Nat→Prop}{rb d:Nat}{w:World}{l:List UInt8}(h:bP D rb w l d)(hl:l.length<8):
  Calls Tryz.prog 249 #[.pointer (some ⟨rb,0,none⟩)] w fun e w'=>e=iW∧Side rb w w':=by
 have H:=hide h;clear h;go_enter Tryz.func249,Tryz.ntmps249
 go_upto_region 1 with fail
 refine wp_region_any (by kernel_rfl) ?_;change wpAny _ _ _ _ _ _ _ (World.drew _);refine wpAny_take (i:=0) (v:=?_) rfl (by kernel_rfl) (by kernel_rfl) (by kernel_rfl) (fun _ _ _ h=>h) (Or.inl ⟨by rfl,?_⟩) ?_;rotate_left
 ·intro w'
  first|(go_simp;done)|(go_simp;with_reducible rfl)
 refine wpAny_take (i:=1) (v:=?_) rfl (by kernel_rfl) (by kernel_rfl) (by kernel_rfl) (fun _ _ _ h=>h) (Or.inl ⟨by rfl,?_⟩) ?_;rotate_left
 ·intro w'
  first|(go_simp;done)|(go_simp;with_reducible rfl)
 refine wpAny_take (i:=2) (v:=?_) rfl (by kernel_rfl) (by kernel_rfl) (by kernel_rfl) (fun _ _ _ h=>h) (Or.inl ⟨by rfl,?_⟩) ?_;rotate_left
 ·intro w'
  first|(go_simp;done)|(go_simp;with_reducible rfl)
 refine wpAny_take (i:=3) (v:=?_) rfl (by kernel_rfl) (by kernel_rfl) (by kernel_rfl) (fun _ _ _ h=>h) (Or.inl ⟨by rfl,?_⟩) ?_;rotate_left
 ·intro w'
  first|(go_simp;done)|(go_simp;with_reducible rfl)
 refine wpAny_ready (rs:=[4]) (by kernel_rfl) (by simp) ?_;refine AllReady.cons rfl (fun K hK=>?_) AllReady.nil;go_simp
 go_wp2_with(go_at_call 250;(with_reducible refine(JP (bP.drew H.out) hl).mono ?_);rintro e w1 ⟨rfl,hs⟩;have hs1:Side rb w w1:=Side.trans (Side.drew (Side.refl rb w)) hs;clear hs)
 exact⟨rfl,rfl,hs1⟩
theorem vk{D:Nat→Prop}{rb d:Nat}{w:World}{l':List UInt8}{n:Int}(h:bP D rb w (au n++l') d)(hn:aT n)(h1 :¬(0≤n∧n≤l'.length)):
  Calls Tryz.prog 249 #[.pointer (some ⟨rb,0,none⟩)] w fun e w'=>e=iW∧Side rb w w':=by
 have H:=hide h;have Hn:=hide hn;clear h hn;go_enter Tryz.func249,Tryz.ntmps249
 go_upto_region 1 with fail
 refine wp_region_any (by kernel_rfl) ?_;change wpAny _ _ _ _ _ _ _ (World.drew _);refine wpAny_take (i:=0) (v:=?_) rfl (by kernel_rfl) (by kernel_rfl) (by kernel_rfl) (fun _ _ _ h=>h) (Or.inl ⟨by rfl,?_⟩) ?_;rotate_left
 ·intro w'
  first|(go_simp;done)|(go_simp;with_reducible rfl)
 refine wpAny_take (i:=1) (v:=?_) rfl (by kernel_rfl) (by kernel_rfl) (by kernel_rfl) (fun _ _ _ h=>h) (Or.inl ⟨by rfl,?_⟩) ?_;rotate_left
 ·intro w'
  first|(go_simp;done)|(go_simp;with_reducible rfl)
 refine wpAny_take (i:=2) (v:=?_) rfl (by kernel_rfl) (by kernel_rfl) (by kernel_rfl) (fun _ _ _ h=>h) (Or.inl ⟨by rfl,?_⟩) ?_;rotate_left
 ·intro w'
  first|(go_simp;done)|(go_simp;with_reducible rfl)
 refine wpAny_take (i:=3) (v:=?_) rfl (by kernel_rfl) (by kernel_rfl) (by kernel_rfl) (fun _ _ _ h=>h) (Or.inl ⟨by rfl,?_⟩) ?_;rotate_left
 ·intro w'
  first|(go_simp;done)|(go_simp;with_reducible rfl)
 refine wpAny_ready (rs:=[4]) (by kernel_rfl) (by simp) ?_;refine AllReady.cons rfl (fun K hK=>?_) AllReady.nil;go_simp
 go_wp2_with(go_at_call 250;(with_reducible refine(Bd (l':=l') (n:=n) (bP.drew H.out) Hn.out).mono ?_);rintro e w1 ⟨rfl,hr,hs⟩;have Hr:=hide hr;have Hs:Hid (Side rb w w1):=hide (Side.trans (Side.drew (Side.refl rb w)) hs);clear hr hs)
 first|(refine hK _ _ ?_;clear hK K)|skip
 refine wpAny_ready (rs:=[5]) (by kernel_rfl) (by simp) ?_;refine AllReady.cons rfl (fun K2 hK2=>?_) AllReady.nil;go_simp
 go_wp2_with(go_at_call 248;(with_reducible refine(JQ Hr.out Hn.out h1).mono ?_);rintro e w2 ⟨rfl,hs⟩;have hs2:Side rb w w2:=Side.trans Hs.out hs;clear hs)
 exact⟨rfl,rfl,hs2⟩
def jm(l:List UInt8):Prop:=∃(s:ByteArray) (l':List UInt8),s.size≤aU∧l=aP s++l'
theorem Be{D:Nat→Prop}{rb d:Nat}{w:World}{l:List UInt8}(h:bP D rb w l d)(hl63:l.length≤aU):
  Calls Tryz.prog 249 #[.pointer (some ⟨rb,0,none⟩)] w fun e w' =>
   (∃s l',l=aP s++l'∧s.size≤aU∧e = .returned (.string s)∧bP D rb w' l' d∧Side rb w w')∨(¬jm l∧e=iW∧Side rb w w'):=by
 by_cases h8:l.length<8
 ·refine(vg h h8).mono ?_;rintro e w' ⟨he,hs⟩;refine .inr ⟨?_,he,hs⟩;rintro⟨s,l',_,rfl⟩;rw[aJ,yu]at h8;omega
 ·obtain⟨n,l',rfl,hn⟩:=JO (l:=l) (by omega);by_cases h1:0≤n∧n≤l'.length
  ·refine(ve h hn h1).mono ?_;rintro e w' ⟨he,hr,hs⟩;have hsz:(⟨(l'.take n.toNat).toArray⟩:ByteArray).size=n.toNat:=by
    show(l'.take n.toNat).toArray.size=n.toNat;simp;omega
   refine .inl ⟨_,_,?_,?_,he,hr,hs⟩
   ·unfold aP;rw[hsz];have:((n.toNat:Nat):Int)=n:=by omega
    rw[this,List.append_assoc];simp
   ·rw[hsz];rw[aJ,fD]at hl63;omega
  ·refine(vk h hn h1).mono ?_;rintro e w' ⟨he,hs⟩;refine .inr ⟨?_,he,hs⟩;rintro⟨s,l2,hsz,hl2⟩;unfold aP at hl2;rw[List.append_assoc]at hl2;obtain⟨e1,e2⟩:=jg hn (lI hsz) hl2;refine h1 ⟨by omega,?_⟩;have e3:s.data.toList.length=s.size:=by simp
   rw[e2,aJ,e3];omega
end
section
open Go.RowKit
theorem Nl{rb e size n:Nat}{w w':World}{v:Value}{xs:List Value}(h:w.ownsRow 0 e size v n xs)(hne :∀g,v.ownBlock=some g→g≠rb)(hs:Side rb w w'):w'.ownsRow 0 e size v n xs:=by
 refine⟨h.1,?_⟩;rcases h.2 with hn|⟨g,cap,cur,rfl,hb,hgg,rest⟩
 ·exact .inl hn
 ·refine .inr ⟨g,cap,cur,rfl,hb,?_,rest⟩;rw[hs.block g ⟨(Array.getElem?_eq_some_iff.1 hgg).1,hne g rfl⟩];exact hgg
theorem Np{D:Nat→Prop}{rb d:Nat}{W w w':World}{l:List UInt8}{row:Option Nat}(h:bP (fun b=>D b∧b<W.heap.size) rb w l d)(hg:w.grownBy w' row)(hrb:rb<W.heap.size)(hW:W.heap.size≤w.heap.size)(hr :∀k,row=some k→W.heap.size≤k):
  bP (fun b=>D b∧b<W.heap.size) rb w' l d :=
 h.keep fun b hb=>hg.block b (aH (hb.elim (fun h=>h.2) (fun e=>e▸hrb)) hW) (fun e=>by
  have h1:=hr b e.symm;have h2:b<W.heap.size:=hb.elim (fun h=>h.2) (fun e=>e▸hrb);omega)
def jG{α:Type}(enc:α→List UInt8)(fit:α→Prop)(l:List UInt8):Prop:=∃(m:List α) (l':List UInt8),(∀a∈m,fit a)∧m.length≤aU∧l=rowB enc m++l'
theorem RQ{α:Type}{enc:α→List UInt8}{fit:α→Prop}{l:List UInt8}(h:l.length<8):¬jG enc fit l:=by
 rintro⟨m,l',_,_,rfl⟩;unfold rowB at h;rw[aJ,aJ,fD]at h;omega
theorem RS{α:Type}{enc:α→List UInt8}{fit:α→Prop}(h8 :∀a,8≤(enc a).length){n:Int}{l1:List UInt8}(hn:aT n)(h :¬(0≤n∧n≤(l1.length:Int) / 8)):¬jG enc fit (au n++l1):=by
 rintro⟨m,l',hf,hm,he⟩;unfold rowB at he;rw[List.append_assoc]at he;obtain⟨e1,e2⟩:=jg hn (lI hm) he;have:=Lt h8 m;rw[e2,aJ]at h;refine h ⟨by omega,?_⟩;omega
theorem RU{α:Type}{enc:α→List UInt8}{fit:α→Prop}(hs :∀a b x y,fit a→fit b→enc a++x=enc b++y→a=b∧x=y){n:Int}{xs:List α}{l1 lq:List UInt8}(hn:aT n)(hx :∀a∈xs,fit a)
  (he:l1=(xs.map enc).flatten++lq) (hlt:(xs.length:Int)<n) (hno :¬∃a l',fit a∧lq=enc a++l'):¬jG enc fit (au n++l1):=by
 rintro⟨m,l',hf,hm,h⟩;unfold rowB at h;rw[List.append_assoc]at h;obtain⟨e1,e2⟩:=jg hn (lI hm) h;rw[he]at e2;have hle:xs.length<m.length:=by omega
 obtain⟨_,e4⟩:=Vh hs hx hf (by omega) e2;rw[List.drop_eq_getElem_cons hle]at e4;rw[List.map_cons,List.flatten_cons,List.append_assoc]at e4;exact hno ⟨m[xs.length],_,hf _ (List.getElem_mem hle),e4⟩
theorem qK{l:List UInt8}(h:l.length<8):¬∃(n:Int) (l':List UInt8),aT n∧l=au n++l':=by
 rintro⟨n,l',_,rfl⟩;rw[aJ,fD]at h;omega
theorem WO{D:Nat→Prop}{rb d:Nat}{w:World}{l:List UInt8}(h:bP D rb w l d)(hl:l.length≤lid):
  Calls Tryz.prog 277 #[.pointer (some ⟨rb,0,none⟩),.func (.func 250) #[.pointer (some ⟨rb,0,none⟩)] #[]] w fun e w' =>
   (∃xs l' A c,l=di xs++l'∧(∀a∈xs,aT a)∧e = .returned (.slice A xs.length c)∧IntsIn (fun b=>w.heap.size≤b) w' A xs∧xs.length≤c∧c≤9223372036854775807∧bP D rb w' l' d∧Side rb w w'∧∃L,fH 3 w' A c xs.length (xs.map (.int .i64)) L∧∀b∈L,w.heap.size≤b)∨
   (¬jG au (aT) l∧e=iW∧Side rb w w'):=by
 have hrb:=h.lt;have kU:=hide h.off;have H:=hide h.old;obtain⟨i0,hi,hz0,hz1,hz2⟩:=info_parts Vo;clear h;by_cases h8:l.length<8
 ·go_enter Tryz.func277,Tryz.ntmps277
  go_wp2_with(go_at_call 250;(with_reducible refine(JP H.out h8).mono ?_);rintro e w1 ⟨rfl,hs⟩;exact⟨rfl,.inr ⟨RQ h8,rfl,hs⟩⟩)
 obtain⟨n,l1,rfl,hn⟩:=JO (l:=l) (by omega);have Hn:=hide hn;unfold aT at hn;have hl1:8+l1.length≤1099511627776:=by rw[aJ,fD]at hl;exact hl
 have hq8:wrap64 ((l1.length:Int) / 8)=(l1.length:Int) / 8:=by unfold wrap64;omega
 by_cases hok:0≤n∧n≤(l1.length:Int) / 8
 ·obtain⟨ha,hb⟩:=hok;clear hl h8;go_enter Tryz.func277,Tryz.ntmps277
  go_wp2_with(first
   | (go_at_call 250;(with_reducible refine(Bd (n:=n) (l':=l1) H.out Hn.out).mono ?_);rintro e w1 ⟨rfl,hr,hs⟩;obtain⟨A1,c1,q0⟩:=hr.slice;have Hr:=hide hr;have Hs:=hide hs;clear hr hs)
   | (go_at_call 253;refine(yJ (by first|rfl|(simp;omega)) _).mono ?_;rintro e w2 ⟨rfl,rfl⟩))
  have hw1:=Hs.out.size
  go_loopw [24,6] (fun i v wr=>∃(xs:List Int) (lq:List UInt8),i = .int .i64 xs.length∧(xs.length:Int)≤n∧Hid (l1=(xs.map au).flatten++lq)∧Hid (∀a∈xs,aT a)∧Hid (wr.ownsRow 0 3 1 v xs.length (xs.map (.int .i64)))∧Hid (∀g,v.ownBlock=some g→w.heap.size≤g)∧
    Hid (bP (fun b=>D b∧b<w.heap.size) rb wr lq d)∧Hid (Side rb w wr)) (fun i _ _=>(n-intOf i).toNat)
  case atStart=>exact⟨[],l1,rfl,ha,hide rfl,hide (by simp),hide (World.ownsRow_nil _ _ _ _),hide (by simp[Value.ownBlock]),Hr,Hs⟩
  case round =>
   obtain⟨xs,lq,rfl,hle,He,Hf,Ho,Hg,Hq,HS⟩:=hrel;have hfl:=Lt (enc:=au) (fun a=>Nat.le_of_eq (fD a).symm) xs;have hlq:(xs.map au).flatten.length+lq.length=l1.length:=by rw[He.out,aJ]
   have hxl:8*xs.length≤l1.length:=by omega
   have hwr:=HS.out.size;by_cases hlt:(xs.length:Int)<n
   ·go_wp2_with(first
     | (go_at_call 250;(refine(Cf Hq.out).mono ?_);rintro e w3 (⟨a,l2,he2,ha2,rfl,hr2,hs2⟩|⟨hno,rfl,hs2⟩))
     | (at_builtin;refine Js _ rfl _ _ 38 rfl 3 i0 (.int .i64 0) 1 8 Tryz.underlying38 hi hz0 hz1 hz2 rfl (by decide) _ xs.length (xs.map (.int .i64)) rfl ((Nl Ho.out (fun g hg=>by have:=Hg.out g hg;omega) hs2).alloc _) ⟨w3.heap.size,0,none⟩ 1 1 [.int .i64 a] rfl rfl (cell_one_new _ _ _) (by intro u hu;simp at hu;subst hu;rfl) (by unfold maxLen;omega) (by omega) ?_;intro v' w4 hown hgrow hnil jo))
    ·have hS3:Side rb w w3:=Side.trans HS.out hs2;have hsz:=hS3.size;refine⟨⟨xs++[a],l2,by simp,by simp;omega,hide ?_,hide ?_,hide ?_,hide ?_,hide ?_,hide ?_⟩,by simp[intOf];omega⟩
     ·rw[He.out,he2];simp
     ·intro b hb;rcases List.mem_append.mp hb with hb|hb
      ·exact Hf.out b hb
      ·rw[List.mem_singleton]at hb;rw[hb];exact ha2
     ·simpa using hown
     ·intro g hg;rcases jo with e|e
      ·exact Hg.out g (e▸hg)
      ·rw[hg]at e;injection e with e;simp at e;omega
     ·exact Np (hr2.alloc _) hgrow hrb (by simp;omega) (fun k hk=>Hg.out k hk)
     ·exact Keep.grown (Side.alloc hS3 _) hgrow (fun k hk=>hk.1) (fun k hk hp=>absurd hp.1 (by have:=Hg.out k hk;omega))
    ·exact⟨rfl,.inr ⟨RU (fun _ _ _ _ ha hb h=>jg ha hb h) Hn.out Hf.out He.out hlt (qK hno),rfl,Side.trans HS.out hs2⟩⟩
   ·go_wp2_with fail
    obtain⟨A2,c2,rfl,hrd,hc2,hc3⟩:=mQ (S:=fun b=>w.heap.size≤b) Ho.out Hg.out;go_ret;have hnn:n=(xs.length:Int):=by omega
    refine .inl ⟨xs,lq,?_,Hf.out,_,_,rfl,⟨hrd,fun a ha=>Hf.out a ha,by omega⟩,hc2,hc3,Hq.out.back kU.out,HS.out,_,⟨Ho.out,rfl⟩,fun b hb=>Hg.out b (iV.1 hb)⟩;rw[He.out,hnn,←List.append_assoc];rfl
 ·go_enter Tryz.func277,Tryz.ntmps277
  go_wp2_with(first
   | (go_at_call 250;(with_reducible refine(Bd (n:=n) (l':=l1) H.out Hn.out).mono ?_);rintro e w1 ⟨rfl,hr,hs⟩;obtain⟨A1,c1,q0⟩:=hr.slice;have Hr:=hide hr;have Hs:=hide hs;clear hr hs)
   | (go_at_call 253;refine(yK (by first|rfl|(simp;omega)) _).mono ?_;rintro e w2 ⟨rfl,rfl⟩))
  all_goals exact⟨rfl,.inr ⟨RS (fun a=>Nat.le_of_eq (fD a).symm) Hn.out hok,rfl,Hs.out⟩⟩
theorem RV{D:Nat→Prop}{rb d:Nat}{w:World}{l:List UInt8}(h:bP D rb w l d)(hl:l.length≤lid):
  Calls Tryz.prog 251 #[.pointer (some ⟨rb,0,none⟩),.func (.func 249) #[.pointer (some ⟨rb,0,none⟩)] #[]] w fun e w' =>
   (∃xs l' A c,l=bC xs++l'∧(∀a∈xs,(fun s=>s.size≤aU) a)∧e = .returned (.slice A xs.length c)∧bH (fun b=>w.heap.size≤b) w' A xs∧xs.length≤c∧c≤9223372036854775807∧bP D rb w' l' d∧Side rb w w'∧∃L,fH 9 w' A c xs.length (xs.map .string) L∧∀b∈L,w.heap.size≤b)∨
   (¬jG aP ((fun s=>s.size≤aU)) l∧e=iW∧Side rb w w'):=by
 have hrb:=h.lt;have kU:=hide h.off;have H:=hide h.old;obtain⟨i0,hi,hz0,hz1,hz2⟩:=info_parts Vp;clear h;by_cases h8:l.length<8
 ·go_enter Tryz.func251,Tryz.ntmps251
  go_wp2_with(go_at_call 250;(with_reducible refine(JP H.out h8).mono ?_);rintro e w1 ⟨rfl,hs⟩;exact⟨rfl,.inr ⟨RQ h8,rfl,hs⟩⟩)
 obtain⟨n,l1,rfl,hn⟩:=JO (l:=l) (by omega);have Hn:=hide hn;unfold aT at hn;have hl1:8+l1.length≤1099511627776:=by rw[aJ,fD]at hl;exact hl
 have hq8:wrap64 ((l1.length:Int) / 8)=(l1.length:Int) / 8:=by unfold wrap64;omega
 by_cases hok:0≤n∧n≤(l1.length:Int) / 8
 ·obtain⟨ha,hb⟩:=hok;clear hl h8;go_enter Tryz.func251,Tryz.ntmps251
  go_wp2_with(first
   | (go_at_call 250;(with_reducible refine(Bd (n:=n) (l':=l1) H.out Hn.out).mono ?_);rintro e w1 ⟨rfl,hr,hs⟩;obtain⟨A1,c1,q0⟩:=hr.slice;have Hr:=hide hr;have Hs:=hide hs;clear hr hs)
   | (go_at_call 253;refine(yJ (by first|rfl|(simp;omega)) _).mono ?_;rintro e w2 ⟨rfl,rfl⟩))
  have hw1:=Hs.out.size
  go_loopw [24,6] (fun i v wr=>∃(xs:List ByteArray) (lq:List UInt8),i = .int .i64 xs.length∧(xs.length:Int)≤n∧Hid (l1=(xs.map aP).flatten++lq)∧Hid (∀a∈xs,(fun s=>s.size≤aU) a)∧Hid (wr.ownsRow 0 9 1 v xs.length (xs.map (.string)))∧Hid (∀g,v.ownBlock=some g→w.heap.size≤g)∧
    Hid (bP (fun b=>D b∧b<w.heap.size) rb wr lq d)∧Hid (Side rb w wr)) (fun i _ _=>(n-intOf i).toNat)
  case atStart=>exact⟨[],l1,rfl,ha,hide rfl,hide (by simp),hide (World.ownsRow_nil _ _ _ _),hide (by simp[Value.ownBlock]),Hr,Hs⟩
  case round =>
   obtain⟨xs,lq,rfl,hle,He,Hf,Ho,Hg,Hq,HS⟩:=hrel;have hfl:=Lt (enc:=aP) (fun a=>by rw[yu];omega) xs;have hlq:(xs.map aP).flatten.length+lq.length=l1.length:=by rw[He.out,aJ]
   have hxl:8*xs.length≤l1.length:=by omega
   have hwr:=HS.out.size;by_cases hlt:(xs.length:Int)<n
   ·go_wp2_with(first
     | (go_at_call 249;(refine(Be Hq.out (show _≤9223372036854775807 by omega)).mono ?_);rintro e w3 (⟨a,l2,he2,ha2,rfl,hr2,hs2⟩|⟨hno,rfl,hs2⟩))
     | (at_builtin;refine Js _ rfl _ _ 34 rfl 9 i0 (.string ByteArray.empty) 1 16 Tryz.underlying34 hi hz0 hz1 hz2 rfl (by decide) _ xs.length (xs.map (.string)) rfl ((Nl Ho.out (fun g hg=>by have:=Hg.out g hg;omega) hs2).alloc _) ⟨w3.heap.size,0,none⟩ 1 1 [.string a] rfl rfl (cell_one_new _ _ _) (by intro u hu;simp at hu;subst hu;rfl) (by unfold maxLen;omega) (by omega) ?_;intro v' w4 hown hgrow hnil jo))
    ·have hS3:Side rb w w3:=Side.trans HS.out hs2;have hsz:=hS3.size;refine⟨⟨xs++[a],l2,by simp,by simp;omega,hide ?_,hide ?_,hide ?_,hide ?_,hide ?_,hide ?_⟩,by simp[intOf];omega⟩
     ·rw[He.out,he2];simp
     ·intro b hb;rcases List.mem_append.mp hb with hb|hb
      ·exact Hf.out b hb
      ·rw[List.mem_singleton]at hb;rw[hb];exact ha2
     ·simpa using hown
     ·intro g hg;rcases jo with e|e
      ·exact Hg.out g (e▸hg)
      ·rw[hg]at e;injection e with e;simp at e;omega
     ·exact Np (hr2.alloc _) hgrow hrb (by simp;omega) (fun k hk=>Hg.out k hk)
     ·exact Keep.grown (Side.alloc hS3 _) hgrow (fun k hk=>hk.1) (fun k hk hp=>absurd hp.1 (by have:=Hg.out k hk;omega))
    ·exact⟨rfl,.inr ⟨RU (fun _ _ _ _ ha hb h=>mO ha hb h) Hn.out Hf.out He.out hlt hno,rfl,Side.trans HS.out hs2⟩⟩
   ·go_wp2_with fail
    obtain⟨A2,c2,rfl,hrd,hc2,hc3⟩:=mQ (S:=fun b=>w.heap.size≤b) Ho.out Hg.out;go_ret;have hnn:n=(xs.length:Int):=by omega
    refine .inl ⟨xs,lq,?_,Hf.out,_,_,rfl,⟨hrd,fun a ha=>Hf.out a ha,by omega⟩,hc2,hc3,Hq.out.back kU.out,HS.out,_,⟨Ho.out,rfl⟩,fun b hb=>Hg.out b (iV.1 hb)⟩;rw[He.out,hnn,←List.append_assoc];rfl
 ·go_enter Tryz.func251,Tryz.ntmps251
  go_wp2_with(first
   | (go_at_call 250;(with_reducible refine(Bd (n:=n) (l':=l1) H.out Hn.out).mono ?_);rintro e w1 ⟨rfl,hr,hs⟩;obtain⟨A1,c1,q0⟩:=hr.slice;have Hr:=hide hr;have Hs:=hide hs;clear hr hs)
   | (go_at_call 253;refine(yK (by first|rfl|(simp;omega)) _).mono ?_;rintro e w2 ⟨rfl,rfl⟩))
  all_goals exact⟨rfl,.inr ⟨RS (fun a=>by rw[yu];omega) Hn.out hok,rfl,Hs.out⟩⟩
def jq(d:Nat)(l:List UInt8):Prop:=∃(k:Nat) (t:ByteArray) (n:Int) (ks:Fo) (l':List UInt8),nV k t n ks∧ks.high+1+d≤40∧l=eU k t n ks++l'
def gG(d:Nat)(l:List UInt8):Prop:=∃(f:Fo) (l':List UInt8),dL f∧f.high+d≤40∧l=aS f++l'
theorem WQ{d:Nat}{l:List UInt8}(h:l.length<8):¬gG d l:=by
 rintro⟨f,l',_,_,rfl⟩;unfold aS at h;rw[aJ,aJ,fD]at h;omega
theorem WR{d:Nat}{n:Int}{l1:List UInt8}(hn:aT n)(h :¬(0≤n∧n≤(l1.length:Int) / 8)):¬gG d (au n++l1):=by
 rintro⟨f,l',hf,_,he⟩;unfold aS at he;rw[List.append_assoc]at he;obtain⟨e1,e2⟩:=jg hn (lI hf.2) he;have:=nX f;rw[e2,aJ]at h;refine h ⟨by omega,?_⟩;omega
theorem WS{d:Nat}{n:Int}{f:Fo}{l1 lq:List UInt8}(hn:aT n)(hf:f.fit)(he:l1=fC f++lq)(hlt:(f.len:Int)<n)(hno :¬jq d lq):¬gG d (au n++l1):=by
 rintro⟨g,l',hg,hh,h⟩;unfold aS at h;rw[List.append_assoc]at h;obtain⟨e1,e2⟩:=jg hn (lI hg.2) h;rw[he]at e2;have hle:f.len<g.len:=by omega
 obtain⟨_,e4⟩:=Vg hf hg.1 (by omega) e2;have hfit:=(Fo.fit_take f.len hg.1).2;have hhigh:=congrArg Fo.high (Fo.take_drop f.len g);rw[Fo.high_app]at hhigh;have hlen:=Fo.len_drop g f.len
 match hd:g.drop f.len with
 | .nil=>rw[hd]at hlen;simp[Fo.len]at hlen;omega
 | .cons k t m ks r =>
  rw[hd]at hfit e4 hhigh;obtain⟨a1,a2,a3,a4,a5,_⟩:=hfit;rw[Jp,List.append_assoc]at e4;simp only[Fo.high]at hhigh;exact hno ⟨k,t,m,ks,_,⟨a1,a2,a3,a5,a4⟩,by omega,e4⟩
theorem CS{B e n:Nat}{w:World}{v:Value}{vs:List Value}{f:Fo}(h:w.ownsRow 0 e 4 v n vs)(hB :∀g,v.ownBlock=some g→B≤g)(hf:iG (fun b=>B≤b∧v.ownBlock≠some b) w vs f)(hn:n=f.len):
  ∃A c,v = .slice A f.len c∧bz (fun b=>B≤b) w A f∧f.len≤c∧c≤9223372036854775807:=by
 subst hn;rcases h.2 with⟨rfl,h0⟩|⟨g,cap,cur,rfl,hb,hgg,hn,hc,_⟩
 ·have:f = .nil:=by cases f with
   | nil=>rfl
   | cons=>simp[Fo.len]at h0
  subst this;exact⟨none,0,rfl,trivial,aC _,by omega⟩
 ·refine⟨_,_,rfl,hf.at_ (fun b hS=>hS.1) (hB g rfl) (fun j u hu=>?_),hn,by unfold maxLen at hc;omega⟩;have:=h.cells (g:=g) rfl j u hu
  rwa [Addr.add_lit]at this
theorem WT(w:World)(a b c d:Value)(t:TypeId):∀j u,[a,b,c,d][j]?=some u→(w.alloc (.cells #[a,b,c,d] t)).cell? ((⟨w.heap.size,0,none⟩:Addr).add j)=some u:=by
 intro j u hu;rw[Addr.add_lit,Nat.zero_add,World.cell?_alloc_new]
 simpa using hu
def ja(D:Nat→Prop)(rb d:Nat)(w:World)(l:List UInt8)(e:Ending)(w':World):Prop :=
 (∃k t n ks l' KA c,l=eU k t n ks++l'∧nV k t n ks∧ks.high+1+d≤40∧e = .returned (.agg #[.int .u8 k,.string t,.int .i64 n,.slice KA ks.len c])∧bz (fun b=>w.heap.size≤b) w' KA ks∧ks.len≤c∧c≤9223372036854775807∧bP D rb w' l' d∧Side rb w w'∧∃L,bg w' KA c ks L∧∀b∈L,w.heap.size≤b)∨
 (¬jq d l∧e=iW∧Side rb w w')
def jr(D:Nat→Prop)(rb d:Nat)(w:World)(l:List UInt8)(e:Ending)(w':World):Prop :=
 (∃f l' A c,l=aS f++l'∧f.fit∧f.high+d≤40∧e = .returned (.slice A f.len c)∧bz (fun b=>w.heap.size≤b) w' A f∧f.len≤c∧c≤9223372036854775807∧bP D rb w' l' d∧Side rb w w'∧∃L,bg w' A c f L∧∀b∈L,w.heap.size≤b)∨
 (¬gG d l∧e=iW∧Side rb w w')
theorem RX{D:Nat→Prop}{rb d:Nat}{w:World}{l:List UInt8}
  (Bf :∀(D':Nat→Prop) (w':World) (l':List UInt8),l'.length<l.length→bP D' rb w' l' d→Calls Tryz.prog 279 #[.pointer (some ⟨rb,0,none⟩)] w' (ja D' rb d w' l'))
  (h:bP D rb w l d) (hd:d≤40) (hl:l.length≤lid):
  Calls Tryz.prog 278 #[.pointer (some ⟨rb,0,none⟩),.func (.func 279) #[.pointer (some ⟨rb,0,none⟩)] #[]] w (jr D rb d w l):=by
 have hrb:=h.lt;have kU:=hide h.off;have H:=hide h.old;have Gs:=hide Bf;obtain⟨i0,hi,hz0,hz1,hz2⟩:=info_parts tC;clear h Bf;by_cases h8:l.length<8
 ·go_enter Tryz.func278,Tryz.ntmps278
  go_wp2_with(go_at_call 250;(with_reducible refine(JP H.out h8).mono ?_);rintro e w1 ⟨rfl,hs⟩;exact⟨rfl,.inr ⟨WQ h8,rfl,hs⟩⟩)
 obtain⟨n,l1,rfl,hn⟩:=JO (l:=l) (by omega);have Hn:=hide hn;unfold aT at hn;have hl1:8+l1.length≤1099511627776:=by rw[aJ,fD]at hl;exact hl
 have hq8:wrap64 ((l1.length:Int) / 8)=(l1.length:Int) / 8:=by unfold wrap64;omega
 by_cases hok:0≤n∧n≤(l1.length:Int) / 8
 ·obtain⟨ha,hb⟩:=hok;clear hl h8;go_enter Tryz.func278,Tryz.ntmps278
  go_wp2_with(first
   | (go_at_call 250;(with_reducible refine(Bd (n:=n) (l':=l1) H.out Hn.out).mono ?_);rintro e w1 ⟨rfl,hr,hs⟩;obtain⟨A1,c1,q0⟩:=hr.slice;have Hr:=hide hr;have Hs:=hide hs;clear hr hs)
   | (go_at_call 253;refine(yJ (by first|rfl|(simp;omega)) _).mono ?_;rintro e w2 ⟨rfl,rfl⟩))
  have hw1:=Hs.out.size
  go_loopw [24,6] (fun i v wr=>∃(f:Fo) (vs:List Value) (lq:List UInt8),i = .int .i64 f.len∧(f.len:Int)≤n∧Hid (l1=fC f++lq)∧Hid f.fit∧Hid (f.high+d≤40)∧Hid (wr.ownsRow 0 218 4 v f.len vs)∧Hid (∀g,v.ownBlock=some g→w.heap.size≤g)∧
    Hid (∃R,lJ wr vs f R∧(ob v++jZ R).Nodup∧∀b∈jZ R,w.heap.size≤b)∧Hid (bP (fun b=>D b∧b<w.heap.size) rb wr lq d)∧Hid (Side rb w wr)) (fun i _ _=>(n-intOf i).toNat)
  case atStart=>exact⟨.nil,[],l1,rfl,ha,hide rfl,hide trivial,hide (by simpa[Fo.high]using hd),hide (World.ownsRow_nil _ _ _ _),hide (by simp[Value.ownBlock]),hide ⟨[],⟨rfl,rfl⟩,by simp[ob,jZ,Value.ownBlock],by simp[jZ]⟩,Hr,Hs⟩
  case round =>
   obtain⟨f,vs,lq,rfl,hle,He,Hf,Hh,Ho,Hg,Hc,Hq,HS⟩:=hrel;have hfl:=nX f;have hlq:(fC f).length+lq.length=l1.length:=by rw[He.out,aJ]
   have hxl:8*f.len≤l1.length:=by omega
   have hwr:=HS.out.size;by_cases hlt:(f.len:Int)<n
   ·go_wp2_with(first
     | (go_at_call 279;(refine(Gs.out _ _ lq (by rw[aJ,fD];omega) Hq.out).mono ?_);rintro e w3 (⟨k,t,m,ks,l2,KA,c,he2,hfit,hhi,rfl,hin,hc1,hc2,hr2,hs2,L1,hO,CU⟩|⟨hno,rfl,hs2⟩))
     | (at_builtin;refine Js _ rfl _ _ 39 rfl 218 i0 (.agg #[.int .u8 0,.string ByteArray.empty,.int .i64 0,.slice none 0 0]) 4 56 Tryz.underlying39 hi hz0 hz1 hz2 rfl (by decide) _ f.len vs rfl ((Nl Ho.out (fun g hg=>by have:=Hg.out g hg;omega) hs2).alloc _) ⟨w3.heap.size,0,none⟩ 1 1 [.int .u8 k,.string t,.int .i64 m,.slice KA ks.len c] rfl rfl (WT _ _ _ _ _ _) (by intro u hu;simp at hu;rcases hu with rfl|rfl|rfl|rfl<;>rfl) (by unfold maxLen;omega) (by omega) ?_;intro v' w4 hown hgrow hnil jo))
    ·have hS3:Side rb w w3:=Side.trans HS.out hs2;have hsz:=hS3.size;have WU:=hs2.size;obtain⟨f1,f2,f3,f4,f5⟩:=hfit;have hlen1:(f.app (.cons k t m ks .nil)).len=f.len+1:=by rw[Fo.len_app];rfl
     have hc3 :∃R,lJ w4 (vs++[.int .u8 k,.string t,.int .i64 m,.slice KA ks.len c]) (f.app (.cons k t m ks .nil)) R∧(ob v'++jZ R).Nodup∧∀b∈jZ R,w.heap.size≤b:=by
      obtain⟨R,hR,Gt,hRl⟩:=Hc.out;obtain⟨ys,R1,hy,hR1,rfl,hn1⟩:=hO;have RY:=(List.nodup_append.1 Gt).2.2;have hu1 :∀b∈ob (.slice KA ks.len c)++jZ R1,b<w3.heap.size:=fun b hb=>(List.mem_append.1 hb).elim (JC hy b) (hR1.lt b);have hu :∀b∈jZ R,b<wr.heap.size:=hR.lt;have hk1 :∀b∈ob (.slice KA ks.len c)++jZ R1,w4.heap[b]?=w3.heap[b]?:=fun b hb=>by
       have h1:=hu1 b hb;have h2:=CU b hb;rw[hgrow.block b (by simp;omega) (fun e=>by have:=(Ho.out.lt b e.symm).2;omega)];exact Below.heap_alloc w3 _ b h1
      have hk :∀b∈jZ R,w4.heap[b]?=wr.heap[b]?:=fun b hb=>by
       have h1:=hu b hb;have h2:=hRl b hb;rw[hgrow.block b (by simp;omega) (fun e=>RY b (iV.2 e.symm) b hb rfl),Below.heap_alloc w3 _ b (by omega)];exact hs2.block b ⟨h1,by omega⟩
      refine⟨_,lJ.snoc ⟨f1,f2,f3⟩ (JB hy fun b hb=>hk1 b (by simp[hb])) (hR1.keep fun b hb=>hk1 b (by simp[hb])) (hR.keep hk),?_,?_⟩
      ·rw[FU,FT];refine List.nodup_append.2 ⟨JD _,FV (List.nodup_append.1 Gt).2.1 hn1 hu CU,fun a ha b hb e=>?_⟩;subst e;have ha:=iV.1 ha;rcases jo with e2|e2
       ·rw[e2]at ha;have h0:=(Ho.out.lt a ha).2;rcases List.mem_append.1 hb with hb|hb
        ·exact RY a (iV.2 ha) a hb rfl
        ·have:=CU a hb;omega
       ·rw[ha]at e2;injection e2 with e2;simp at e2;rcases List.mem_append.1 hb with hb|hb
        ·have:=hu a hb;omega
        ·have:=hu1 a hb;omega
      ·intro b hb;rw[FU,FT]at hb;rcases List.mem_append.1 hb with hb|hb
       ·exact hRl b hb
       ·exact aI hwr (CU b hb)
     refine⟨⟨f.app (.cons k t m ks .nil),_,l2,by rw[hlen1];simp,by rw[hlen1];omega,hide ?_,hide ?_,hide ?_,hide ?_,hide ?_,hide hc3,hide ?_,hide ?_⟩,by simp[intOf];omega⟩
     ·rw[He.out,he2,Jr,Jp];simp[fC]
     ·exact Fo.fit_app.mpr ⟨Hf.out,f1,f2,f3,f5,f4,trivial⟩
     ·rw[Fo.high_app];simp only[Fo.high];have:=Hh.out;omega
     ·rw[hlen1];exact hown
     ·intro g hg;rcases jo with e|e
      ·exact Hg.out g (e▸hg)
      ·rw[hg]at e;injection e with e;simp at e;omega
     ·exact Np (hr2.alloc _) hgrow hrb (by simp;omega) (fun k hk=>Hg.out k hk)
     ·exact Keep.grown (Side.alloc hS3 _) hgrow (fun k hk=>hk.1) (fun k hk hp=>absurd hp.1 (by have:=Hg.out k hk;omega))
    ·exact⟨rfl,.inr ⟨WS Hn.out Hf.out He.out hlt hno,rfl,Side.trans HS.out hs2⟩⟩
   ·go_wp2_with fail
    obtain⟨R,hR,Gt,hRl⟩:=Hc.out;obtain⟨A2,c2,rfl,hrd,hc2,hc3⟩:=CS Ho.out Hg.out (hR.cells fun b hb=>⟨hRl b hb,fun e=>(List.nodup_append.1 Gt).2.2 b (iV.2 e) b hb rfl⟩) rfl;go_ret;have hnn:n=(f.len:Int):=by omega
    refine .inl ⟨f,lq,_,_,?_,Hf.out,Hh.out,rfl,hrd,hc2,hc3,Hq.out.back kU.out,HS.out,_,⟨vs,R,Ho.out,hR,rfl,Gt⟩,fun b hb=>(List.mem_append.1 hb).elim (fun h=>Hg.out b (iV.1 h)) (hRl b)⟩;rw[He.out,hnn,←List.append_assoc];rfl
 ·go_enter Tryz.func278,Tryz.ntmps278
  go_wp2_with(first
   | (go_at_call 250;(with_reducible refine(Bd (n:=n) (l':=l1) H.out Hn.out).mono ?_);rintro e w1 ⟨rfl,hr,hs⟩;obtain⟨A1,c1,q0⟩:=hr.slice;have Hr:=hide hr;have Hs:=hide hs;clear hr hs)
   | (go_at_call 253;refine(yK (by first|rfl|(simp;omega)) _).mono ?_;rintro e w2 ⟨rfl,rfl⟩))
  all_goals exact⟨rfl,.inr ⟨WR Hn.out hok,rfl,Hs.out⟩⟩
theorem bP.setNew{D:Nat→Prop}{rb d B:Nat}{w:World}{l:List UInt8}(h:bP (fun b=>D b∧b<B) rb w l d)(hrb:rb<B){a:Addr}(ha:B≤a.block)(u:Value):bP (fun b=>D b∧b<B) rb (w.setCell a u) l d :=
 h.keep fun b hb=>Below.heap_setCell w a u b (by
  have hlt:b<B:=hb.elim (fun h=>h.2) (fun e=>e▸hrb);omega)
theorem bP.setDeep{D:Nat→Prop}{rb d d':Nat}{w:World}{l:List UInt8}(h:bP D rb w l d):bP D rb (w.setCell ⟨rb,1,none⟩ (.int .i64 d')) l d':=by
 obtain⟨A,c,h0,h1,h2,h3,h4,h5,h6,h7⟩:=h;refine⟨A,c,?_,World.cell?_setCell_same _ _ _ h1,by rw[World.frozen?_setCell];exact h2,by rw[World.frozen?_setCell];exact h3,h4.keep fun b hb=>Below.heap_setCell w _ _ b (h7 b hb),h5,h6,h7⟩;rw[World.cell?_setCell_other]
 ·exact h0
 ·simp
theorem Nq{d:Nat}{l:List UInt8}(h:l=[]∨40≤d):¬jq d l:=by
 rintro⟨k,t,n,ks,l',_,hh,rfl⟩;rcases h with h|h
 ·simp[eU]at h
 ·omega
theorem bz.setLow{B:Nat}{w:World}{A:Option Addr}{f:Fo}(h:bz (fun b=>B≤b) w A f){a:Addr}(ha:a.block<B)(u:Value):bz (fun b=>B≤b) (w.setCell a u) A f :=
 h.keep fun b hb=>Below.heap_setCell w a u b (by omega)
theorem bg.setLow{B c:Nat}{w:World}{A:Option Addr}{f:Fo}{L:List Nat}(h:bg w A c f L∧∀b∈L,B≤b){a:Addr}(ha:a.block<B)(u:Value):bg (w.setCell a u) A c f L∧∀b∈L,B≤b :=
 ⟨h.1.keep fun b hb=>Below.heap_setCell w a u b (by have:=h.2 b hb;omega),h.2⟩
theorem vw{d:Nat}{x:UInt8}{l1:List UInt8}(h :¬jm l1):¬jq d (x::l1):=by
 rintro⟨k,t,n,ks,l',hf,_,he⟩;simp only[eU,List.cons_append,List.append_assoc,List.cons.injEq]at he;exact h ⟨t,_,hf.2.1,he.2⟩
theorem vz{d:Nat}{x:UInt8}{s:ByteArray}{l2:List UInt8}(hs:s.size≤aU)(h:l2.length<8):¬jq d (x::(aP s++l2)):=by
 rintro⟨k,t,n,ks,l',hf,_,he⟩;simp only[eU,List.cons_append,List.append_assoc,List.cons.injEq]at he;obtain⟨_,e2⟩:=mO hs hf.2.1 he.2;rw[e2,aJ,fD]at h;omega
theorem vC{d:Nat}{x:UInt8}{s:ByteArray}{n:Int}{l3:List UInt8}(hs:s.size≤aU)(hn:aT n)(h :¬gG (d+1) l3):¬jq d (x::(aP s++(au n++l3))):=by
 rintro⟨k,t,m,ks,l',hf,hh,he⟩;simp only[eU,List.cons_append,List.append_assoc,List.cons.injEq]at he;obtain⟨_,e2⟩:=mO hs hf.2.1 he.2;obtain⟨_,e3⟩:=jg hn hf.2.2.1 e2;exact h ⟨ks,l',hf.2.2.2,by omega,e3⟩
theorem WV{D:Nat→Prop}{rb d:Nat}{w:World}{l:List UInt8}
  (hsome :∀(D':Nat→Prop) (w':World) (l':List UInt8),l'.length<l.length→bP D' rb w' l' (d+1)→Calls Tryz.prog 278 #[.pointer (some ⟨rb,0,none⟩),.func (.func 279) #[.pointer (some ⟨rb,0,none⟩)] #[]] w' (jr D' rb (d+1) w' l'))
  (h:bP D rb w l d) (hd:d≤40) (hl:l.length≤lid):
  Calls Tryz.prog 279 #[.pointer (some ⟨rb,0,none⟩)] w (ja D rb d w l):=by
 have hrb:=h.lt;have kU:=hide h.off;have H:=hide h.old;have Gu:=hide hsome;obtain⟨qd,qf⟩:=h.deep;clear h hsome;by_cases Nr:d<40
 ·have Ha :∀o,Hid (bP (fun b=>D b∧b<w.heap.size) rb ((w.setCell ⟨rb,1,none⟩ (.int .i64 ((d:Int)+1))).alloc o) l (d+1)):=fun o=>hide (by
   have:=(H.out.setDeep (d':=d+1)).alloc o
   simpa using this)
  have Sa :∀o,Hid (Side rb w ((w.setCell ⟨rb,1,none⟩ (.int .i64 ((d:Int)+1))).alloc o)):=fun o=>hide (Side.alloc (Side.set (Side.refl rb w) 1 _) o);rcases l with _|⟨x,l1⟩
  ·go_enter Tryz.func279,Tryz.ntmps279
   go_wp2_with(first
    | (go_at_call 253;refine(yJ (by first|rfl|(simp;omega)) _).mono ?_;rintro e w2 ⟨rfl,rfl⟩)
    | (go_at_call 248;refine(JQ (Ha _).out (by unfold aT;omega) (by simp)).mono ?_;rintro e w2 ⟨rfl,hs⟩;exact⟨rfl,.inr ⟨Nq (.inl rfl),rfl,Side.trans (Sa _).out hs⟩⟩))
  ·have hx:=x.toNat_lt;have hll:l1.length+1≤1099511627776:=hl;go_enter Tryz.func279,Tryz.ntmps279
   go_wp2_with(first
    | (go_at_call 253;refine(yJ (by first|rfl|(simp;omega)) _).mono ?_;rintro e w2 ⟨rfl,rfl⟩)
    | (go_at_call 248;refine(Gq (Ha _).out (by simp)).mono ?_;rintro e w2 ⟨A,c,rfl,hb,hr,hs⟩;obtain⟨bb,bo,rfl,hx0⟩:=hb.1.at_ (j:=0) (by simp[bytesV]);simp only[bytesV,List.take_succ_cons,List.take_zero,List.map_cons,List.map_nil,aE,Nat.add_zero]at hx0;obtain⟨ha2,hb2,hc2⟩:=hs.box (N:=w.heap.size) (by simp) (by omega);have kD:Hid (bP (fun b=>D b∧b<w.heap.size) rb w2 l1 (d+1)):=hide hr;have HS2:=hide (Side.trans (Sa _).out hs);clear hb hr hs)
    | (go_at_call 249;refine(Be (kD.out.alloc _) (show _≤9223372036854775807 by omega)).mono ?_;rintro e w3 (⟨s,l2,he3,hsz,rfl,hr,hs⟩|⟨hno,rfl,hs⟩);all_goals first
      | exact⟨rfl,.inr ⟨vw hno,rfl,Side.trans (Side.alloc HS2.out _) hs⟩⟩
      | (obtain⟨sD,hb3,hc3⟩:=hs.box (N:=w.heap.size) (by simp;omega) (by omega);obtain⟨ZU,ZV,ZW⟩:=hs.box (N:=w2.heap.size) (by simp) (by omega);have y9:=hide hr;have jh:=hide (Side.trans (Side.alloc HS2.out _) hs);have jv:=hide he3;clear hr hs he3))
    | (go_at_call 250;refine(Cf (y9.out.setNew hrb (a:=⟨w2.heap.size,1,none⟩) (Nat.le_of_lt hc2) _)).mono ?_;rintro e w4 (⟨n,l3,he4,hn,rfl,hr,hs⟩|⟨h8,rfl,hs⟩);all_goals first
      | exact⟨rfl,.inr ⟨by rw[jv.out];exact vz hsz h8,rfl,Side.trans (Side.setNew jh.out (a:=⟨w2.heap.size,1,none⟩) (Nat.le_of_lt hc2) _) hs⟩⟩
      | (obtain⟨sF,hb4,hc4⟩:=hs.box (N:=w.heap.size) (by simp;omega) (by omega);obtain⟨ZX,ZY,ZZ⟩:=hs.box (N:=w2.heap.size) (by simp;omega) (by omega);have CV:=hide hr;have lC:=hide (Side.trans (Side.setNew jh.out (a:=⟨w2.heap.size,1,none⟩) (Nat.le_of_lt hc2) _) hs);have lQ:=hide he4;have Hn:=hide hn;have Ns:l3.length<(x::l1).length:=(by rw[jv.out,he4];simp[fD];omega);clear hr hs he4 hn))
    | (go_at_call 278;refine(Gu.out _ _ l3 Ns (CV.out.setNew hrb (a:=⟨w2.heap.size,2,none⟩) (Nat.le_of_lt hc2) _)).mono ?_;rintro e w5 hP;rcases hP with⟨ks,l4,KA,kc,xX,hfit,hhi,rfl,hin,hk1,hk2,hr,hs,L1,hO,CU⟩|⟨hno,rfl,hs⟩;all_goals first
      | exact⟨rfl,.inr ⟨by rw[jv.out,lQ.out];exact vC hsz Hn.out hno,rfl,Side.trans (Side.setNew lC.out (a:=⟨w2.heap.size,2,none⟩) (Nat.le_of_lt hc2) _) hs⟩⟩
      | (obtain⟨sG,hb5,hc5⟩:=hs.box (N:=w.heap.size) (by simp;omega) (by omega);obtain⟨Z4,Z5,Z7⟩:=hs.box (N:=w2.heap.size) (by simp;omega) (by omega);have Gv:=hide hr;obtain⟨Z8,Z9⟩:=hr.deep;have qL:=hide (Side.trans (Side.setNew lC.out (a:=⟨w2.heap.size,2,none⟩) (Nat.le_of_lt hc2) _) hs);have xY:=hide xX;have Nu:=hide hfit;have WW:=hide hin;have oO:=hide (And.intro hO CU);clear hr hs xX hfit hin hO CU)))
   refine bodyPost_ret (v:= .agg #[.int .u8 x.toNat,.string s,.int .i64 n,.slice KA ks.len kc]) ?_ rfl ?_
   ·have hne1 :¬w.heap.size=rb:=by omega
    have hne2 :¬rb=w.heap.size:=by omega
    have vG :¬w2.heap.size=w.heap.size:=by omega
    have WX :¬w.heap.size=w2.heap.size:=by omega
    have hne5 :¬w2.heap.size=rb:=by omega
    have WY :¬rb=w2.heap.size:=by omega
    simp only[results,Tryz.results279];go_simp
   ·have hle2:w.heap.size≤w2.heap.size:=Nat.le_of_lt hc2;have oW :∀N,N≤w2.heap.size→N<(w4.setCell ⟨w2.heap.size,2,none⟩ (.int .i64 n)).heap.size:=fun N h=>by simp;omega
    refine .inl ⟨x.toNat,s,n,ks,l4,KA,kc,?_,⟨by omega,hsz,Hn.out,Nu.out,aI hk1 hk2⟩,by omega,rfl,?_,hk1,hk2,?_,?_,L1,?_⟩
    ·rw[jv.out,lQ.out,xY.out];simp[eU]
    ·refine bz.mono (((((((WW.out.setLow (a:=⟨w2.heap.size,3,none⟩) (oW _ (aC _)) _).setLow (a:=⟨rb,1,none⟩) (oW _ (by show rb≤_;omega)) _).setLow (a:=⟨w.heap.size,0,none⟩) (oW _ hle2) _).setLow (a:=⟨w.heap.size,1,none⟩) (oW _ hle2) _).setLow (a:=⟨w.heap.size,2,none⟩) (oW _ hle2) _).setLow (a:=⟨w.heap.size,3,none⟩) (oW _ hle2) _)) (fun b _ hb=>?_);have h1:=oW _ (aC _);exact aI (aI hle2 (Nat.le_of_lt h1)) hb
    ·exact((((((Gv.out.setNew hrb (a:=⟨w2.heap.size,3,none⟩) hle2 _).setDeep (d':=d)).setNew hrb (a:=⟨w.heap.size,0,none⟩) (aC _) _).setNew hrb (a:=⟨w.heap.size,1,none⟩) (aC _) _).setNew hrb (a:=⟨w.heap.size,2,none⟩) (aC _) _).setNew hrb (a:=⟨w.heap.size,3,none⟩) (aC _) _).back kU.out
    ·exact Side.setNew (Side.setNew (Side.setNew (Side.setNew (Side.set (Side.setNew qL.out (a:=⟨w2.heap.size,3,none⟩) hle2 _) 1 _) (a:=⟨w.heap.size,0,none⟩) (aC _) _) (a:=⟨w.heap.size,1,none⟩) (aC _) _) (a:=⟨w.heap.size,2,none⟩) (aC _) _) (a:=⟨w.heap.size,3,none⟩) (aC _) _
    ·have h1:=oW _ (aC _);have hz:=bg.setLow (bg.setLow (bg.setLow (bg.setLow (bg.setLow (bg.setLow oO.out (a:=⟨w2.heap.size,3,none⟩) (oW _ (aC _)) (.slice KA ks.len kc)) (a:=⟨rb,1,none⟩) (oW _ (by show rb≤_;omega)) (.int .i64 d)) (a:=⟨w.heap.size,0,none⟩) (oW _ hle2) (.int .u8 x.toNat)) (a:=⟨w.heap.size,1,none⟩) (oW _ hle2) (.string s)) (a:=⟨w.heap.size,2,none⟩) (oW _ hle2) (.int .i64 n)) (a:=⟨w.heap.size,3,none⟩) (oW _ hle2) (.slice KA ks.len kc);exact⟨hz.1,fun b hb=>aI (aI hle2 (Nat.le_of_lt h1)) (hz.2 b hb)⟩
 ·go_enter Tryz.func279,Tryz.ntmps279
  go_wp2_with(go_at_call 253;refine(yK (by first|rfl|(simp;omega)) _).mono ?_;rintro e w2 ⟨rfl,rfl⟩)
  all_goals exact⟨rfl,.inr ⟨Nq (.inr (by omega)),rfl,(Side.refl rb w).alloc _⟩⟩
theorem qM(N:Nat):∀(D:Nat→Prop) (rb d:Nat) (w:World) (l:List UInt8),l.length<N→bP D rb w l d→d≤40→l.length≤lid→
  Calls Tryz.prog 279 #[.pointer (some ⟨rb,0,none⟩)] w (ja D rb d w l):=by
 induction N with
 | zero=>intro D rb d w l h;omega
 | succ N ih =>
  intro D rb d w l hN h hd hl;by_cases Nr:d<40
  ·exact WV (fun D' w' l' hlt h'=>RX (fun D2 w2 l2 hlt2 h2=>ih D2 rb (d+1) w2 l2 (by omega) h2 (by omega) (by omega)) h' (by omega) (by omega)) h hd hl
  ·have hrb:=h.lt;obtain⟨qd,qf⟩:=h.deep;clear h;go_enter Tryz.func279,Tryz.ntmps279
   go_wp2_with(go_at_call 253;refine(yK (by first|rfl|(simp;omega)) _).mono ?_;rintro e w2 ⟨rfl,rfl⟩)
   all_goals exact⟨rfl,.inr ⟨Nq (.inr (by omega)),rfl,(Side.refl rb w).alloc _⟩⟩
theorem vH{D:Nat→Prop}{rb d:Nat}{w:World}{l:List UInt8}(h:bP D rb w l d)(hd:d≤40)(hl:l.length≤lid):Calls Tryz.prog 279 #[.pointer (some ⟨rb,0,none⟩)] w (ja D rb d w l):=
 qM (l.length+1) D rb d w l (by omega) h hd hl
theorem RZ{D:Nat→Prop}{rb d:Nat}{w:World}{l:List UInt8}(h:bP D rb w l d)(hd:d≤40)(hl:l.length≤lid):
  Calls Tryz.prog 278 #[.pointer (some ⟨rb,0,none⟩),.func (.func 279) #[.pointer (some ⟨rb,0,none⟩)] #[]] w (jr D rb d w l):=
 RX (fun _ _ _ hlt h'=>vH h' hd (by omega)) h hd hl
end
end Go.Proofs.YtjjaojnglnpgaaaGreatDoor
