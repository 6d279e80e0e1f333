/- Part 9 of what scriptShows_cardUpto rests on. -/
import Derived.Lib.SplitLaws
import Derived.Lib.Join
import Derived.Lib.ItoaNum
import Derived.Test.YtjjaojnglnpgaaaGreatDoorProg
import Derived.Test.YtjjaojnglnpgaaaGreatDoorZ03
import Derived.Test.YtjjaojnglnpgaaaGreatDoorZ02
import Derived.Test.YtjjaojnglnpgaaaGreatDoorZ01
import Derived.Test.YtjjaojnglnpgaaaGreatDoorZ00
set_option linter.unusedVariables false
set_option linter.unusedSimpArgs false
set_option maxHeartbeats 16000000
set_option maxRecDepth 1000000
namespace Go.Proofs.YtjjaojnglnpgaaaGreatDoor
section
open Go.RowKit
theorem JB{P:Nat→Prop}{wb:Nat}{w:World}{l news:List UInt8}{b o c n:Nat}(h:Buf P wb w l)(hnn:news.length=n)(hn :∀j u,(bytesV news)[j]?=some u→w.cell? ((⟨b,o,none⟩:Addr).add j)=some u)(hlen:l.length+n≤lid):
  Calls Tryz.prog 176 #[.pointer (some ⟨wb,0,none⟩),.slice (some ⟨b,o,none⟩) n c] w fun e w'=>e = .returned (.tuple #[])∧Buf P wb w' (l++news)∧Keep P w w':=by
 subst hnn;exact PL h hn hlen
theorem JC(k:Nat)(hk:k<256):(k:Int)=((UInt8.ofNat k).toNat:Int):=by simp;omega
theorem JD{P:Nat→Prop}{wb:Nat}{w:World}{l:List UInt8}{k N:Nat}{ci:Int}{e:TypeId}(h:Buf P wb w l)(hN:N=w.heap.size)(hc:ci=(k:Int))(hk:k<256)(hlen:l.length+1≤lid):
  Calls Tryz.prog 176 #[.pointer (some ⟨wb,0,none⟩),.slice (some ⟨N,0,none⟩) 1 1] (w.alloc (.cells #[.int .u8 ci] e)) fun e w'=>e = .returned (.tuple #[])∧Buf P wb w' (l++[UInt8.ofNat k])∧Keep P w w':=by
 subst hN;subst hc;refine(PL (news:=[UInt8.ofNat k]) (h.alloc _) (UB _ _ _ _ (JC k hk)) (by simpa using hlen)).mono ?_;rintro e w1 ⟨rfl,hb,hB⟩;exact⟨rfl,hb,((Keep.refl _ _).alloc h.lts _).trans hB⟩
theorem sQ(w:World)(s:ByteArray)(e:TypeId)(cap:Nat)(m:Nat×Nat):
  ∀j u,(bytesV s.data.toList)[j]?=some u→(w.alloc (.cells (bytesRow s cap) e m)).cell? ((⟨w.heap.size,0,none⟩:Addr).add j)=some u:=by
 intro j u hu;have hj:j<s.data.size:=by
  have:=(List.getElem?_eq_some_iff.1 hu).1
  simpa[bytesV]using this
 rw[Addr.add_lit,Nat.zero_add,World.cell?_alloc_mark,bytesRow_at s cap j hj];simp only[bytesV,List.getElem?_map,Option.map_eq_some_iff]at hu;obtain⟨a,ha,rfl⟩:=hu;rw[Array.getElem?_toList,Array.getElem?_eq_getElem hj]at ha;injection ha with ha;rw[ha]
theorem DL{P:Nat→Prop}{wb:Nat}{w:World}{l:List UInt8}{s:ByteArray}(h:Buf P wb w l)(hs:s.size≤aP)(hlen:l.length+(ax s).length≤lid):
  Calls Tryz.prog 177 #[.pointer (some ⟨wb,0,none⟩),.string s] w fun e w'=>e = .returned (.tuple #[])∧Buf P wb w' (l++ax s)∧Keep P w w':=by
 have H:=hide h;rw[Pq]at hlen;have hcv:=fun w':World=>run_bytes_of_string (P:=Tryz.prog) w' 9 44 5 s Tryz.underlying9 Tryz.underlying44 Tryz.underlying5;have hl:s.data.toList.length=s.size:=by simp
 have Hl:=hide hl;clear h hl;go_enter Tryz.func177,Tryz.ntmps177
 go_wp2_with(first
  | (go_at_call 178;refine(AY H.out (nI hs) (by omega)).mono ?_;rintro e w1 ⟨rfl,hb,hB⟩;have HB1:=hide hb;have HW1:=hide hB;clear hb hB)
  | (go_at_call 176;refine(JB (news:=s.data.toList) (HB1.out.alloc _).drew Hl.out (sQ _ s _ _ _) (by rw[aJ,jm];omega)).mono ?_;rintro e w2 ⟨rfl,hb,hB⟩;have HB2:=hide hb;have HW2:=hide (HW1.out.trans ((((Keep.refl _ _).alloc HB1.out.lts _).drew).trans hB));clear hb hB))
 go_end0
 exact⟨rfl,by have:=HB2.out;rwa [List.append_assoc]at this,HW2.out⟩
theorem Buf.keepIn{S P:Nat→Prop}{w w':World}(hS :∀b,S b→P b)(h:Keep P w w'):∀b,S b→w'.heap[b]?=w.heap[b]?:=fun b hb=>h.block b (hS b hb)
theorem PY{α:Type}(enc:α→List UInt8)(l:List α)(q:Nat)(hq:q<l.length):((l.take (q+1)).map enc).flatten=((l.take q).map enc).flatten++enc l[q]:=by
 rw[List.take_succ_eq_append_getElem hq];simp only[List.map_append,List.flatten_append,List.map_cons,List.map_nil,List.flatten_cons,List.flatten_nil,List.append_nil]
theorem UR{α:Type}(enc:α→List UInt8)(l:List α)(q:Nat)(hq:q<l.length):(((l.take q).map enc).flatten).length+(enc l[q]).length≤((l.map enc).flatten).length:=by
 have h:((l.take (q+1)).map enc).flatten.length≤((l.map enc).flatten).length:=by
  conv=>rhs;rw[←List.take_append_drop (q+1) l]
  rw[List.map_append,List.flatten_append,aJ];omega
 rw[PY enc l q hq,aJ]at h;exact h
theorem UT{S:Nat→Prop}{P:Nat→Prop}{wb:Nat}{w:World}{l:List UInt8}{A:Option Addr}{c:Nat}{xs:List ByteArray}(h:Buf P wb w l)(hx:bJ S w A xs)(hS :∀b,S b→P b)(hlen:l.length+(bH xs).length≤lid):
  Calls Tryz.prog 179 #[.pointer (some ⟨wb,0,none⟩),.slice A xs.length c,.func (.func 177) #[.pointer (some ⟨wb,0,none⟩)] #[]] w fun e w'=>e = .returned (.tuple #[])∧Buf P wb w' (l++bH xs)∧Keep P w w':=by
 have H:=hide h;have Hx:=hide hx;have HS:=hide hS;have hxl:xs.length≤9223372036854775807:=hx.2.2;have Hlen:=hide hlen;have oN:l.length+8≤lid:=by
  simp only[bH,aJ,jm]at hlen;omega
 clear h hx hS hlen;go_enter Tryz.func179,Tryz.ntmps179
 go_wp2_with(go_at_call 178;refine(AY H.out (nI hxl) oN).mono ?_;rintro e w1 ⟨rfl,hb,hB⟩;have HB1:=hide hb;have HW1:=hide hB;clear hb hB)
 go_loopw [14,7] (fun i _ wr=>∃q:Nat,q≤xs.length∧i = .int .i64 q∧Hid (Buf P wb wr (l++(au xs.length++((xs.take q).map ax).flatten)))∧Hid (Keep P w wr)) (fun i _ _=>xs.length-(intOf i).toNat)
 case atStart=>exact⟨0,Nat.zero_le _,rfl,hide (by simpa using HB1.out),HW1⟩
 case round =>
  obtain⟨q,hq,rfl,HB,HW⟩:=hrel;by_cases hlt:q<xs.length
  ·obtain⟨b,o,rfl,hc⟩:=(Hx.out.keep (Buf.keepIn HS.out HW.out)).1.at_ (j:=q) (by simpa using hlt);simp only[List.getElem_map]at hc;have pY:=hide (Hx.out.2.1 xs[q] (List.getElem_mem hlt));have Ac:Hid ((l++(au xs.length++((xs.take q).map ax).flatten)).length+(ax xs[q]).length≤lid):=by
    have h1:=Hlen.out;have h2:=UR ax xs q hlt;simp only[bH,aJ]at h1;refine hide ?_;simp only[aJ];omega
   go_wp2_with(go_at_call 177;refine(DL HB.out pY.out Ac.out).mono ?_;rintro e w2 ⟨rfl,hb,hB⟩;have HB2:=hide hb;have HW2:=hide (HW.out.trans hB);clear hb hB)
   go_roundw
   case rel=>exact⟨q+1,by omega,by go_num,hide (by rw[PY ax xs q hlt];have:=HB2.out;simpa[List.append_assoc]using this),HW2⟩
   case measure=>simp[intOf];omega
  ·go_wp2_with fail
   go_end0
   have hq8:q=xs.length:=by omega
   subst hq8;exact⟨rfl,by have:=HB.out;rwa [List.take_length]at this,HW.out⟩
theorem Yu{S:Nat→Prop}{P:Nat→Prop}{wb:Nat}{w:World}{l:List UInt8}{A:Option Addr}{c:Nat}{xs:List Int}(h:Buf P wb w l)(hx:IntsIn S w A xs)(hS :∀b,S b→P b)(hlen:l.length+(cO xs).length≤lid):
  Calls Tryz.prog 225 #[.pointer (some ⟨wb,0,none⟩),.slice A xs.length c,.func (.func 178) #[.pointer (some ⟨wb,0,none⟩)] #[]] w fun e w'=>e = .returned (.tuple #[])∧Buf P wb w' (l++cO xs)∧Keep P w w':=by
 have H:=hide h;have Hx:=hide hx;have HS:=hide hS;have hxl:xs.length≤9223372036854775807:=hx.2.2;have Hlen:=hide hlen;have oN:l.length+8≤lid:=by
  simp only[cO,aJ,jm]at hlen;omega
 clear h hx hS hlen;go_enter Tryz.func225,Tryz.ntmps225
 go_wp2_with(go_at_call 178;refine(AY H.out (nI hxl) oN).mono ?_;rintro e w1 ⟨rfl,hb,hB⟩;have HB1:=hide hb;have HW1:=hide hB;clear hb hB)
 go_loopw [14,7] (fun i _ wr=>∃q:Nat,q≤xs.length∧i = .int .i64 q∧Hid (Buf P wb wr (l++(au xs.length++((xs.take q).map au).flatten)))∧Hid (Keep P w wr)) (fun i _ _=>xs.length-(intOf i).toNat)
 case atStart=>exact⟨0,Nat.zero_le _,rfl,hide (by simpa using HB1.out),HW1⟩
 case round =>
  obtain⟨q,hq,rfl,HB,HW⟩:=hrel;by_cases hlt:q<xs.length
  ·obtain⟨b,o,rfl,hc⟩:=(Hx.out.keep (Buf.keepIn HS.out HW.out)).1.at_ (j:=q) (by simpa using hlt);simp only[List.getElem_map]at hc;have pY:=hide (Hx.out.2.1 xs[q] (List.getElem_mem hlt));have Ac:Hid ((l++(au xs.length++((xs.take q).map au).flatten)).length+(au xs[q]).length≤lid):=by
    have h1:=Hlen.out;have h2:=UR au xs q hlt;simp only[cO,aJ]at h1;refine hide ?_;simp only[aJ];omega
   go_wp2_with(go_at_call 178;refine(AY HB.out pY.out Ac.out).mono ?_;rintro e w2 ⟨rfl,hb,hB⟩;have HB2:=hide hb;have HW2:=hide (HW.out.trans hB);clear hb hB)
   go_roundw
   case rel=>exact⟨q+1,by omega,by go_num,hide (by rw[PY au xs q hlt];have:=HB2.out;simpa[List.append_assoc]using this),HW2⟩
   case measure=>simp[intOf];omega
  ·go_wp2_with fail
   go_end0
   have hq8:q=xs.length:=by omega
   subst hq8;exact⟨rfl,by have:=HB.out;rwa [List.take_length]at this,HW.out⟩
theorem wJ(k:Nat)(t:ByteArray)(n:Int)(ks:Fo):(eX k t n ks).length=1+(ax t).length+8+(aO ks).length:=by
 simp only[eX,List.length_cons,aJ,jm];omega
theorem Bd{P:Nat→Prop}{wb:Nat}{w:World}{l:List UInt8}{k:Nat}{t:ByteArray}{n:Int}{KA:Option Addr}{ks:Fo}{c:Nat}
  (hrow :∀(P':Nat→Prop) (w':World) (l':List UInt8),(∀b,P b→P' b)→Keep P w w'→Buf P' wb w' l'→l'.length+(aO ks).length≤lid→
   Calls Tryz.prog 226 #[.pointer (some ⟨wb,0,none⟩),.slice KA ks.len c,.func (.func 227) #[.pointer (some ⟨wb,0,none⟩)] #[]] w' fun e w2=>e = .returned (.tuple #[])∧Buf P' wb w2 (l'++aO ks)∧Keep P' w' w2)
  (h:Buf P wb w l) (hk:k<256) (ht:t.size≤aP) (hn:aX n) (hlen:l.length+(eX k t n ks).length≤lid):
  Calls Tryz.prog 227 #[.pointer (some ⟨wb,0,none⟩),.agg #[.int .u8 k,.string t,.int .i64 n,.slice KA ks.len c]] w fun e w'=>e = .returned (.tuple #[])∧Buf P wb w' (l++eX k t n ks)∧Keep P w w':=by
 have EY:=hide hrow;have H:=hide h;have Hn:=hide hn;have wH :∀o,Hid (Buf (fun b=>P b∨b=w.heap.size) wb (w.alloc o) l):=fun o=>hide (h.box o);have hsz:=h.lt;rw[wJ]at hlen;have HK :∀o,Hid (Keep P w (w.alloc o)):=fun o=>hide ((Keep.refl P w).alloc h.lts o);clear hrow h hn;go_enter Tryz.func227,Tryz.ntmps227
 go_wp2_with(first
  | (go_at_call 176;refine(JD (wH _).out (by simp) rfl hk (by omega)).mono ?_;rintro e w1 ⟨rfl,hb,hB⟩;have HB1:=hide hb;have HW1:=hide hB;obtain⟨hc1,hf1⟩:=hB.box (N:=w.heap.size) (.inr rfl);have hz1:w.heap.size<w1.heap.size:=hb.lts _ (.inr rfl);clear hb hB)
  | (go_at_call 177;refine(DL HB1.out ht (by simp only[aJ,List.length_cons,List.length_nil];omega)).mono ?_;rintro e w2 ⟨rfl,hb,hB⟩;have HB2:=hide hb;have HW2:=hide (HW1.out.trans hB);obtain⟨hc2,hf2⟩:=hB.box (N:=w.heap.size) (.inr rfl);have hz2:w.heap.size<w2.heap.size:=hb.lts _ (.inr rfl);clear hb hB)
  | (go_at_call 178;refine(AY HB2.out Hn.out (by simp only[aJ,List.length_cons,List.length_nil];omega)).mono ?_;rintro e w3 ⟨rfl,hb,hB⟩;have HB3:=hide hb;have HW3:=hide (HW2.out.trans hB);obtain⟨hc3,hf3⟩:=hB.box (N:=w.heap.size) (.inr rfl);have hz3:w.heap.size<w3.heap.size:=hb.lts _ (.inr rfl);clear hb hB)
  | (go_at_call 226;refine(EY.out _ _ _ (fun b hb=> .inl hb) ((HK _).out.trans (HW3.out.mono fun b hb=> .inl hb)) HB3.out (by simp only[aJ,List.length_cons,List.length_nil,jm];omega)).mono ?_;rintro e w4 ⟨rfl,hb,hB⟩;have HB4:=hide hb;have Be:=hide (HW3.out.trans hB);clear hb hB))
 go_end0
 refine⟨rfl,?_,(HK _).out.trans (Be.out.mono fun b hb=> .inl hb)⟩;have:=HB4.out.mono (P:=P) fun b hb=> .inl hb
 simpa[eX,List.append_assoc]using this
theorem Fo.take_succ{f:Fo}{i k:Nat}{t:ByteArray}{n:Int}{ks r:Fo}(h:f.drop i = .cons k t n ks r):f.take (i+1)=(f.take i).app (.cons k t n ks .nil):=by
 induction i generalizing f with
 | zero=>cases f with
  | nil=>cases h
  | cons=>cases h;rfl
 | succ i ih=>cases f with
  | nil=>cases h
  | cons k' t' n' ks' r'=>simp only[Fo.take,Fo.app];rw[ih h]
theorem wK{f:Fo}{i k:Nat}{t:ByteArray}{n:Int}{ks r:Fo}(h:f.drop i = .cons k t n ks r):iy (f.take (i+1))=iy (f.take i)++eX k t n ks:=by
 rw[Fo.take_succ h,Il,EO];simp[iy]
theorem wL{f:Fo}{i k:Nat}{t:ByteArray}{n:Int}{ks r:Fo}(h:f.drop i = .cons k t n ks r):(iy (f.take i)).length+(eX k t n ks).length≤(iy f).length:=by
 have h1:=congrArg (fun x=>(iy x).length) (Fo.take_drop i f);simp only[Il,h,EO,aJ]at h1;omega
theorem Fo.take_all(f:Fo):f.take f.len=f:=by
 have:=Fo.take_drop f.len f
 rwa [Fo.drop_len f _ (aC _),Fo.app_nil]at this
theorem Yv(N:Nat):∀(S P:Nat→Prop) (wb:Nat) (w:World) (l:List UInt8) (A:Option Addr) (c:Nat) (f:Fo),f.cnt<N→Buf P wb w l→bG S w A f→(∀b,S b→P b)→f.len≤9223372036854775807→l.length+(aO f).length≤lid→
  Calls Tryz.prog 226 #[.pointer (some ⟨wb,0,none⟩),.slice A f.len c,.func (.func 227) #[.pointer (some ⟨wb,0,none⟩)] #[]] w fun e w'=>e = .returned (.tuple #[])∧Buf P wb w' (l++aO f)∧Keep P w w':=by
 induction N with
 | zero=>intro S P wb w l A c f h;omega
 | succ N ih =>
  intro S P wb w l A c f hcnt h hf hS hfl hlen;have H:=hide h;have Hf:=hide hf;have HS:=hide hS;have Hlen:=hide hlen;have nH:=hide ih;have oN:l.length+8≤lid:=by
   simp only[aO,aJ,jm]at hlen;omega
  clear h hf hS hlen ih;go_enter Tryz.func226,Tryz.ntmps226
  go_wp2_with(go_at_call 178;refine(AY H.out (nI hfl) oN).mono ?_;rintro e w1 ⟨rfl,hb,hB⟩;have HB1:=hide hb;have HW1:=hide hB;clear hb hB)
  go_loopw [14,7] (fun i _ wr=>∃q:Nat,q≤f.len∧i = .int .i64 q∧Hid (Buf P wb wr (l++(au f.len++iy (f.take q))))∧Hid (Keep P w wr)) (fun i _ _=>f.len-(intOf i).toNat)
  case atStart=>exact⟨0,Nat.zero_le _,rfl,hide (by have:=HB1.out;cases f<;>simpa[Fo.take,iy]using this),HW1⟩
  case round =>
   obtain⟨q,hq,rfl,HB,HW⟩:=hrel;by_cases hlt:q<f.len
   ·obtain⟨b,o,KA,c',k,t,n,ks,r,rfl,hd,c0,c1,c2,c3,e1,e2,e3,e4,e5,hks,hc⟩:=(Hf.out.keep (Buf.keepIn HS.out HW.out)).at_ hlt;have Hd:=hide hd;have He:=hide e3;have kT:=hide hks;have Ac:Hid ((l++(au f.len++iy (f.take q))).length+(eX k t n ks).length≤lid):=by
     have h1:=Hlen.out;have h2:=wL hd;simp only[aO,aJ]at h1;refine hide ?_;simp only[aJ];omega
    clear hd e3 hks
    go_wp2_with(go_at_call 227;refine(Bd (ks:=ks) (fun P' w' l' hP hK hB hl=>nH.out S P' wb w' l' KA c' ks (by omega) hB (kT.out.below (az _ _)|>.keep (Buf.keepIn HS.out hK)) (fun b hb=>hP b (HS.out b hb)) (by omega) hl) (HB.out.alloc _) e1 e2 He.out Ac.out).mono ?_;rintro e w2 ⟨rfl,hb,hB⟩;have HB2:=hide hb;have HW2:=hide (HW.out.trans (((Keep.refl _ _).alloc HB.out.lts _).trans hB));clear hb hB)
    go_roundw
    case rel=>exact⟨q+1,by omega,by go_num,hide (by rw[wK Hd.out];have:=HB2.out;simpa[List.append_assoc]using this),HW2⟩
    case measure=>simp[intOf];omega
   ·go_wp2_with fail
    go_end0
    have hq8:q=f.len:=by omega
    subst hq8;exact⟨rfl,by have:=HB.out;rwa [Fo.take_all]at this,HW.out⟩
theorem UU{S P:Nat→Prop}{wb:Nat}{w:World}{l:List UInt8}{A:Option Addr}{c:Nat}{f:Fo}(h:Buf P wb w l)(hf:bG S w A f)(hS :∀b,S b→P b)(hfl:f.len≤9223372036854775807)(hlen:l.length+(aO f).length≤lid):
  Calls Tryz.prog 226 #[.pointer (some ⟨wb,0,none⟩),.slice A f.len c,.func (.func 227) #[.pointer (some ⟨wb,0,none⟩)] #[]] w fun e w'=>e = .returned (.tuple #[])∧Buf P wb w' (l++aO f)∧Keep P w w' :=
 Yv (f.cnt+1) S P wb w l A c f (by omega) h hf hS hfl hlen
theorem Bf(e:Ed):(jg e).length=1+(cO e.path).length+8+8+(ax e.frm).length+(ax e.to).length+(aO e.old).length+(aO e.new).length:=by
 simp only[jg,List.length_cons,aJ,jm];omega
theorem wM{S P:Nat→Prop}{wb:Nat}{w:World}{l:List UInt8}{x:Eh}{e:Ed}(h:Buf P wb w l)(he:dm S w x e)(hS :∀b,S b→P b)(hlen:l.length+(jg e).length≤lid):
  Calls Tryz.prog 180 #[.pointer (some ⟨wb,0,none⟩),.agg #[.int .u8 e.kind,.slice x.pA e.path.length x.pc,.int .i64 e.at_,.int .i64 e.far,.string e.frm,.string e.to,.slice x.oA e.old.len x.oc,.slice x.nA e.new.len x.nc]] w fun e1 w'=>e1 = .returned (.tuple #[])∧Buf P wb w' (l++jg e)∧Keep P w w':=by
 have H:=hide h;have HS:=hide hS;have bC:=hide he.path;have hk:=he.kind;have jO:Hid (aX e.at_):=hide he.at_;have gq:Hid (aX e.far):=hide he.far;have jw:=he.frm;have hto:=he.to;have dH:=hide he.old;have gu:=hide he.new;have ho:=aI he.oc.1 he.oc.2;have hn:=aI he.nc.1 he.nc.2;have wH :∀o,Hid (Buf (fun b=>P b∨b=w.heap.size) wb (w.alloc o) l):=fun o=>hide (h.box o);have hsz:=h.lt;rw[Bf]at hlen;have HK :∀o,Hid (Keep P w (w.alloc o)):=fun o=>hide ((Keep.refl P w).alloc h.lts o);clear h hS he;go_enter Tryz.func180,Tryz.ntmps180
 go_wp2_with(first
  | (go_at_call 176;(with_reducible refine(JD (wH _).out (by simp) rfl hk (by omega)).mono ?_);rintro e w1 ⟨rfl,hb,hB⟩;have HB1:=hide hb;have HW1:=hide (hB);have Nk:=hide ((HK _).out.trans (Keep.mono (P:=P) (hB) fun b hb=> .inl hb));obtain⟨hc1,hf1⟩:=hB.box (N:=w.heap.size) (.inr rfl);have hz1:w.heap.size<w1.heap.size:=hb.lts _ (.inr rfl);clear hb hB)
  | (go_at_call 225;(with_reducible refine(Yu HB1.out (bC.out.keep (Buf.keepIn HS.out Nk.out)) (fun b hb=> .inl (HS.out b hb)) (by simp only[aJ,List.length_cons,List.length_nil,jm];omega)).mono ?_);rintro e w2 ⟨rfl,hb,hB⟩;have HB2:=hide hb;have HW2:=hide (HW1.out.trans hB);have Nl:=hide ((HK _).out.trans (Keep.mono (P:=P) (HW1.out.trans hB) fun b hb=> .inl hb));obtain⟨hc2,hf2⟩:=hB.box (N:=w.heap.size) (.inr rfl);have hz2:w.heap.size<w2.heap.size:=hb.lts _ (.inr rfl);clear hb hB)
  | (go_at_call 178;(with_reducible refine(AY HB2.out jO.out (by simp only[aJ,List.length_cons,List.length_nil,jm];omega)).mono ?_);rintro e w3 ⟨rfl,hb,hB⟩;have HB3:=hide hb;have HW3:=hide (HW2.out.trans hB);have Ip:=hide ((HK _).out.trans (Keep.mono (P:=P) (HW2.out.trans hB) fun b hb=> .inl hb));obtain⟨hc3,hf3⟩:=hB.box (N:=w.heap.size) (.inr rfl);have hz3:w.heap.size<w3.heap.size:=hb.lts _ (.inr rfl);clear hb hB)
  | (go_at_call 178;(with_reducible refine(AY HB3.out gq.out (by simp only[aJ,List.length_cons,List.length_nil,jm];omega)).mono ?_);rintro e w4 ⟨rfl,hb,hB⟩;have HB4:=hide hb;have Be:=hide (HW3.out.trans hB);have UW:=hide ((HK _).out.trans (Keep.mono (P:=P) (HW3.out.trans hB) fun b hb=> .inl hb));obtain⟨hc4,hf4⟩:=hB.box (N:=w.heap.size) (.inr rfl);have kU:w.heap.size<w4.heap.size:=hb.lts _ (.inr rfl);clear hb hB)
  | (go_at_call 177;(with_reducible refine(DL HB4.out jw (by simp only[aJ,List.length_cons,List.length_nil,jm];omega)).mono ?_);rintro e w5 ⟨rfl,hb,hB⟩;have iE:=hide hb;have PZ:=hide (Be.out.trans hB);have UX:=hide ((HK _).out.trans (Keep.mono (P:=P) (Be.out.trans hB) fun b hb=> .inl hb));obtain⟨hc5,hf5⟩:=hB.box (N:=w.heap.size) (.inr rfl);have Ad:w.heap.size<w5.heap.size:=hb.lts _ (.inr rfl);clear hb hB)
  | (go_at_call 177;(with_reducible refine(DL iE.out hto (by simp only[aJ,List.length_cons,List.length_nil,jm];omega)).mono ?_);rintro e w6 ⟨rfl,hb,hB⟩;have Ae:=hide hb;have UY:=hide (PZ.out.trans hB);have Yw:=hide ((HK _).out.trans (Keep.mono (P:=P) (PZ.out.trans hB) fun b hb=> .inl hb));obtain⟨hc6,P5⟩:=hB.box (N:=w.heap.size) (.inr rfl);have DN:w.heap.size<w6.heap.size:=hb.lts _ (.inr rfl);clear hb hB)
  | (go_at_call 226;(with_reducible refine(UU Ae.out (dH.out.keep (Buf.keepIn HS.out Yw.out)) (fun b hb=> .inl (HS.out b hb)) ho (by simp only[aJ,List.length_cons,List.length_nil,jm];omega)).mono ?_);rintro e w7 ⟨rfl,hb,hB⟩;have DR:=hide hb;have Np:=hide (UY.out.trans hB);have Yx:=hide ((HK _).out.trans (Keep.mono (P:=P) (UY.out.trans hB) fun b hb=> .inl hb));obtain⟨hc7,UZ⟩:=hB.box (N:=w.heap.size) (.inr rfl);have P6:w.heap.size<w7.heap.size:=hb.lts _ (.inr rfl);clear hb hB)
  | (go_at_call 226;(with_reducible refine(UU DR.out (gu.out.keep (Buf.keepIn HS.out Yx.out)) (fun b hb=> .inl (HS.out b hb)) hn (by simp only[aJ,List.length_cons,List.length_nil,jm];omega)).mono ?_);rintro e w8 ⟨rfl,hb,hB⟩;have Yy:=hide hb;have HW8:=hide (Np.out.trans hB);have Yz:=hide ((HK _).out.trans (Keep.mono (P:=P) (Np.out.trans hB) fun b hb=> .inl hb));obtain⟨hc8,hf8⟩:=hB.box (N:=w.heap.size) (.inr rfl);have hz8:w.heap.size<w8.heap.size:=hb.lts _ (.inr rfl);clear hb hB))
 go_end0
 refine⟨rfl,?_,Yz.out⟩;have:=Yy.out.mono (P:=P) fun b hb=> .inl hb
 simpa[jg,List.append_assoc]using this
theorem YA{S P:Nat→Prop}{wb:Nat}{w:World}{l:List UInt8}{x:Ph}{p:Pt}(h:Buf P wb w l)(hp:bM S w x p)(hS :∀b,S b→P b)(hlen:l.length+(UInt8.ofNat 3::(ax p.file++(au p.hunk.at_++(bH p.hunk.old++bH p.hunk.new)))).length≤lid):
  Calls Tryz.prog 115 #[.pointer (some ⟨wb,0,none⟩),.agg #[.int .u8 3,.string p.file,.string p.text,.int .i64 p.hunk.at_,.slice x.h.oA p.hunk.old.length x.h.oc,.slice x.h.nA p.hunk.new.length x.h.nc,.int .u8 p.edit.kind,.slice x.e.pA p.edit.path.length x.e.pc,.int .i64 p.edit.at_,.int .i64 p.edit.far,.string p.edit.frm,.string p.edit.to,.slice x.e.oA p.edit.old.len x.e.oc,.slice x.e.nA p.edit.new.len x.e.nc]] w fun e1 w'=>e1 = .returned (.tuple #[])∧Buf P wb w' (l++UInt8.ofNat 3::(ax p.file++(au p.hunk.at_++(bH p.hunk.old++bH p.hunk.new))))∧Keep P w w':=by
 have H:=hide h;have HS:=hide hS;have Hp:=hide hp;have hk:3<256:=by omega
 have jO:Hid (aX p.hunk.at_):=hide hp.hunk.at_;have eu:=hp.file;have htext:=hp.text;have wH :∀o,Hid (Buf (fun b=>P b∨b=w.heap.size) wb (w.alloc o) l):=fun o=>hide (h.box o);have hsz:=h.lt;simp only[aJ,List.length_cons,jm]at hlen;have HK :∀o,Hid (Keep P w (w.alloc o)):=fun o=>hide ((Keep.refl P w).alloc h.lts o);clear h hS hp;go_enter Tryz.func115,Tryz.ntmps115
 go_wp2_with(first
  | (go_at_call 176;(with_reducible refine(JD (k:=3) (wH _).out (by simp) (by simp) hk (by omega)).mono ?_);rintro e w1 ⟨rfl,hb,hB⟩;have HB1:=hide hb;have HW1:=hide (hB);have Nk:=hide ((HK _).out.trans (Keep.mono (P:=P) (hB) fun b hb=> .inl hb));obtain⟨hc1,hf1⟩:=hB.box (N:=w.heap.size) (.inr rfl);have hz1:w.heap.size<w1.heap.size:=hb.lts _ (.inr rfl);clear hb hB)
  | (go_at_call 177;(with_reducible refine(DL HB1.out eu (by simp only[aJ,List.length_cons,List.length_nil,jm];omega)).mono ?_);rintro e w2 ⟨rfl,hb,hB⟩;have HB2:=hide hb;have HW2:=hide (HW1.out.trans hB);have Nl:=hide ((HK _).out.trans (Keep.mono (P:=P) (HW1.out.trans hB) fun b hb=> .inl hb));obtain⟨hc2,hf2⟩:=hB.box (N:=w.heap.size) (.inr rfl);have hz2:w.heap.size<w2.heap.size:=hb.lts _ (.inr rfl);clear hb hB)
  | (go_at_call 178;(with_reducible refine(AY HB2.out jO.out (by simp only[aJ,List.length_cons,List.length_nil,jm];omega)).mono ?_);rintro e w3 ⟨rfl,hb,hB⟩;have HB3:=hide hb;have HW3:=hide (HW2.out.trans hB);have Ip:=hide ((HK _).out.trans (Keep.mono (P:=P) (HW2.out.trans hB) fun b hb=> .inl hb));obtain⟨hc3,hf3⟩:=hB.box (N:=w.heap.size) (.inr rfl);have hz3:w.heap.size<w3.heap.size:=hb.lts _ (.inr rfl);clear hb hB)
  | (go_at_call 179;(with_reducible refine(UT HB3.out (Hp.out.hunk.old.keep (Buf.keepIn HS.out Ip.out)) (fun b hb=> .inl (HS.out b hb)) (by simp only[aJ,List.length_cons,List.length_nil,jm];omega)).mono ?_);rintro e w4 ⟨rfl,hb,hB⟩;have HB4:=hide hb;have Be:=hide (HW3.out.trans hB);have UW:=hide ((HK _).out.trans (Keep.mono (P:=P) (HW3.out.trans hB) fun b hb=> .inl hb));obtain⟨hc4,hf4⟩:=hB.box (N:=w.heap.size) (.inr rfl);have kU:w.heap.size<w4.heap.size:=hb.lts _ (.inr rfl);clear hb hB)
  | (go_at_call 179;(with_reducible refine(UT HB4.out (Hp.out.hunk.new.keep (Buf.keepIn HS.out UW.out)) (fun b hb=> .inl (HS.out b hb)) (by simp only[aJ,List.length_cons,List.length_nil,jm];omega)).mono ?_);rintro e w5 ⟨rfl,hb,hB⟩;have iE:=hide hb;have PZ:=hide (Be.out.trans hB);have UX:=hide ((HK _).out.trans (Keep.mono (P:=P) (Be.out.trans hB) fun b hb=> .inl hb));obtain⟨hc5,hf5⟩:=hB.box (N:=w.heap.size) (.inr rfl);have Ad:w.heap.size<w5.heap.size:=hb.lts _ (.inr rfl);clear hb hB))
 go_end0
 refine⟨rfl,?_,UX.out⟩;have:=iE.out.mono (P:=P) fun b hb=> .inl hb
 simpa[List.append_assoc]using this
theorem YB{S P:Nat→Prop}{wb:Nat}{w:World}{l:List UInt8}{x:Ph}{p:Pt}(h:Buf P wb w l)(hp:bM S w x p)(hS :∀b,S b→P b)(hlen:l.length+(UInt8.ofNat 4::(ax p.file++jg p.edit)).length≤lid):
  Calls Tryz.prog 115 #[.pointer (some ⟨wb,0,none⟩),.agg #[.int .u8 4,.string p.file,.string p.text,.int .i64 p.hunk.at_,.slice x.h.oA p.hunk.old.length x.h.oc,.slice x.h.nA p.hunk.new.length x.h.nc,.int .u8 p.edit.kind,.slice x.e.pA p.edit.path.length x.e.pc,.int .i64 p.edit.at_,.int .i64 p.edit.far,.string p.edit.frm,.string p.edit.to,.slice x.e.oA p.edit.old.len x.e.oc,.slice x.e.nA p.edit.new.len x.e.nc]] w fun e1 w'=>e1 = .returned (.tuple #[])∧Buf P wb w' (l++UInt8.ofNat 4::(ax p.file++jg p.edit))∧Keep P w w':=by
 have H:=hide h;have HS:=hide hS;have Hp:=hide hp;have hk:4<256:=by omega
 have jO:Hid (aX p.hunk.at_):=hide hp.hunk.at_;have eu:=hp.file;have htext:=hp.text;have wH :∀o,Hid (Buf (fun b=>P b∨b=w.heap.size) wb (w.alloc o) l):=fun o=>hide (h.box o);have hsz:=h.lt;simp only[aJ,List.length_cons,jm]at hlen;have HK :∀o,Hid (Keep P w (w.alloc o)):=fun o=>hide ((Keep.refl P w).alloc h.lts o);clear h hS hp;go_enter Tryz.func115,Tryz.ntmps115
 go_wp2_with(first
  | (go_at_call 176;(with_reducible refine(JD (k:=4) (wH _).out (by simp) (by simp) hk (by omega)).mono ?_);rintro e w1 ⟨rfl,hb,hB⟩;have HB1:=hide hb;have HW1:=hide (hB);have Nk:=hide ((HK _).out.trans (Keep.mono (P:=P) (hB) fun b hb=> .inl hb));obtain⟨hc1,hf1⟩:=hB.box (N:=w.heap.size) (.inr rfl);have hz1:w.heap.size<w1.heap.size:=hb.lts _ (.inr rfl);clear hb hB)
  | (go_at_call 177;(with_reducible refine(DL HB1.out eu (by simp only[aJ,List.length_cons,List.length_nil,jm];omega)).mono ?_);rintro e w2 ⟨rfl,hb,hB⟩;have HB2:=hide hb;have HW2:=hide (HW1.out.trans hB);have Nl:=hide ((HK _).out.trans (Keep.mono (P:=P) (HW1.out.trans hB) fun b hb=> .inl hb));obtain⟨hc2,hf2⟩:=hB.box (N:=w.heap.size) (.inr rfl);have hz2:w.heap.size<w2.heap.size:=hb.lts _ (.inr rfl);clear hb hB)
  | (go_at_call 180;(with_reducible refine(wM HB2.out (Hp.out.edit.keep (Buf.keepIn HS.out Nl.out)) (fun b hb=> .inl (HS.out b hb)) (by simp only[aJ,List.length_cons,List.length_nil,jm];omega)).mono ?_);rintro e w3 ⟨rfl,hb,hB⟩;have HB3:=hide hb;have HW3:=hide (HW2.out.trans hB);have Ip:=hide ((HK _).out.trans (Keep.mono (P:=P) (HW2.out.trans hB) fun b hb=> .inl hb));obtain⟨hc3,hf3⟩:=hB.box (N:=w.heap.size) (.inr rfl);have hz3:w.heap.size<w3.heap.size:=hb.lts _ (.inr rfl);clear hb hB))
 go_end0
 refine⟨rfl,?_,Ip.out⟩;have:=HB3.out.mono (P:=P) fun b hb=> .inl hb
 simpa[List.append_assoc]using this
theorem YC{S P:Nat→Prop}{wb:Nat}{w:World}{l:List UInt8}{x:Ph}{p:Pt}(h:Buf P wb w l)(hp:bM S w x p)(hS :∀b,S b→P b)(h3 :¬(p.kind:Int)=3)(h4 :¬(p.kind:Int)=4)(hlen:l.length+(UInt8.ofNat p.kind::(ax p.file++ax p.text)).length≤lid):
  Calls Tryz.prog 115 #[.pointer (some ⟨wb,0,none⟩),.agg #[.int .u8 p.kind,.string p.file,.string p.text,.int .i64 p.hunk.at_,.slice x.h.oA p.hunk.old.length x.h.oc,.slice x.h.nA p.hunk.new.length x.h.nc,.int .u8 p.edit.kind,.slice x.e.pA p.edit.path.length x.e.pc,.int .i64 p.edit.at_,.int .i64 p.edit.far,.string p.edit.frm,.string p.edit.to,.slice x.e.oA p.edit.old.len x.e.oc,.slice x.e.nA p.edit.new.len x.e.nc]] w fun e1 w'=>e1 = .returned (.tuple #[])∧Buf P wb w' (l++UInt8.ofNat p.kind::(ax p.file++ax p.text))∧Keep P w w':=by
 have H:=hide h;have HS:=hide hS;have Hp:=hide hp;have hk:p.kind<256:=by exact hp.kind
 have jO:Hid (aX p.hunk.at_):=hide hp.hunk.at_;have eu:=hp.file;have htext:=hp.text;have wH :∀o,Hid (Buf (fun b=>P b∨b=w.heap.size) wb (w.alloc o) l):=fun o=>hide (h.box o);have hsz:=h.lt;simp only[aJ,List.length_cons,jm]at hlen;have HK :∀o,Hid (Keep P w (w.alloc o)):=fun o=>hide ((Keep.refl P w).alloc h.lts o);clear h hS hp;go_enter Tryz.func115,Tryz.ntmps115
 go_wp2_with(first
  | (go_at_call 176;(with_reducible refine(JD (k:=p.kind) (wH _).out (by simp) (by simp) hk (by omega)).mono ?_);rintro e w1 ⟨rfl,hb,hB⟩;have HB1:=hide hb;have HW1:=hide (hB);have Nk:=hide ((HK _).out.trans (Keep.mono (P:=P) (hB) fun b hb=> .inl hb));obtain⟨hc1,hf1⟩:=hB.box (N:=w.heap.size) (.inr rfl);have hz1:w.heap.size<w1.heap.size:=hb.lts _ (.inr rfl);clear hb hB)
  | (go_at_call 177;(with_reducible refine(DL HB1.out eu (by simp only[aJ,List.length_cons,List.length_nil,jm];omega)).mono ?_);rintro e w2 ⟨rfl,hb,hB⟩;have HB2:=hide hb;have HW2:=hide (HW1.out.trans hB);have Nl:=hide ((HK _).out.trans (Keep.mono (P:=P) (HW1.out.trans hB) fun b hb=> .inl hb));obtain⟨hc2,hf2⟩:=hB.box (N:=w.heap.size) (.inr rfl);have hz2:w.heap.size<w2.heap.size:=hb.lts _ (.inr rfl);clear hb hB)
  | (go_at_call 177;(with_reducible refine(DL HB2.out htext (by simp only[aJ,List.length_cons,List.length_nil,jm];omega)).mono ?_);rintro e w3 ⟨rfl,hb,hB⟩;have HB3:=hide hb;have HW3:=hide (HW2.out.trans hB);have Ip:=hide ((HK _).out.trans (Keep.mono (P:=P) (HW2.out.trans hB) fun b hb=> .inl hb));obtain⟨hc3,hf3⟩:=hB.box (N:=w.heap.size) (.inr rfl);have hz3:w.heap.size<w3.heap.size:=hb.lts _ (.inr rfl);clear hb hB))
 go_end0
 refine⟨rfl,?_,Ip.out⟩;have:=HB3.out.mono (P:=P) fun b hb=> .inl hb
 simpa[List.append_assoc]using this
theorem sS{S P:Nat→Prop}{wb:Nat}{w:World}{l:List UInt8}{x:Ph}{p:Pt}(h:Buf P wb w l)(hp:bM S w x p)(hS :∀b,S b→P b)(hlen:l.length+(gJ p).length≤lid):
  Calls Tryz.prog 115 #[.pointer (some ⟨wb,0,none⟩),.agg #[.int .u8 p.kind,.string p.file,.string p.text,.int .i64 p.hunk.at_,.slice x.h.oA p.hunk.old.length x.h.oc,.slice x.h.nA p.hunk.new.length x.h.nc,.int .u8 p.edit.kind,.slice x.e.pA p.edit.path.length x.e.pc,.int .i64 p.edit.at_,.int .i64 p.edit.far,.string p.edit.frm,.string p.edit.to,.slice x.e.oA p.edit.old.len x.e.oc,.slice x.e.nA p.edit.new.len x.e.nc]] w fun e1 w'=>e1 = .returned (.tuple #[])∧Buf P wb w' (l++gJ p)∧Keep P w w':=by
 by_cases h3:p.kind=3
 ·have he:gJ p=UInt8.ofNat 3::(ax p.file++(au p.hunk.at_++(bH p.hunk.old++bH p.hunk.new))):=by unfold gJ;rw[if_pos h3,h3]
  rw[he]at hlen⊢;rw[h3];exact YA h hp hS hlen
 ·by_cases h4:p.kind=4
  ·have he:gJ p=UInt8.ofNat 4::(ax p.file++jg p.edit):=by unfold gJ;rw[if_neg h3,if_pos h4,h4]
   rw[he]at hlen⊢;rw[h4];exact YB h hp hS hlen
  ·have he:gJ p=UInt8.ofNat p.kind::(ax p.file++ax p.text):=by unfold gJ;rw[if_neg h3,if_neg h4]
   rw[he]at hlen⊢;exact YC h hp hS (by omega) (by omega) hlen
end
section
open Go.RowKit
abbrev Side(rb:Nat)(w w':World):Prop:=Keep (fun k=>k<w.heap.size∧k≠rb) w w'
section
variable {rb : Nat} {w w' w'' : World}
theorem Side.refl(rb:Nat)(w:World):Side rb w w:=Keep.refl _ _
theorem Side.trans(h:Side rb w w')(h':Side rb w' w''):Side rb w w'':=Keep.trans h (Keep.mono h' fun k hk=>⟨aH hk.1 h.size,hk.2⟩)
theorem Side.alloc(h:Side rb w w')(o:Obj):Side rb w (w'.alloc o):=Keep.alloc h (fun k hk=>hk.1) o
theorem Side.set(h:Side rb w w')(o:Nat)(u:Value):Side rb w (w'.setCell ⟨rb,o,none⟩ u):=Keep.setCell h (fun hk=>hk.2 rfl) u
theorem Side.setNew(h:Side rb w w'){a:Addr}(ha:w.heap.size≤a.block)(u:Value):Side rb w (w'.setCell a u):=Keep.setCell h (fun hk=>absurd hk.1 (by omega)) u
theorem Side.box(h:Side rb w w'){N:Nat}(hN:N<w.heap.size)(hne:N≠rb):(∀o,w'.cell? ⟨N,o,none⟩=w.cell? ⟨N,o,none⟩)∧(∀o,w'.frozen? ⟨N,o,none⟩=w.frozen? ⟨N,o,none⟩)∧N<w'.heap.size :=
 ⟨(Keep.box h (N:=N) ⟨hN,hne⟩).1,(Keep.box h (N:=N) ⟨hN,hne⟩).2,aH hN h.size⟩
abbrev Off(rb:Nat):Nat→Prop:=fun b=>b≠rb
variable {A : Option Addr}
end
section
variable {D D' : Nat → Prop} {rb d : Nat} {w w' : World} {l : List UInt8}
end
theorem Rd.take{S:Nat→Prop}{w:World}{A:Option Addr}{xs:List Value}(h:Rd S w A xs)(m:Nat):Rd S w A (xs.take m):=by
 rcases h with rfl|⟨b,o,rfl,hS,hc⟩
 ·exact .inl (by simp)
 ·refine .inr ⟨b,o,rfl,hS,fun j u hu=>hc j u ?_⟩;rw[List.getElem?_take]at hu;split at hu
  ·exact hu
  ·cases hu
theorem Rd.drop{S:Nat→Prop}{w:World}{A:Option Addr}{xs:List Value}(h:Rd S w A xs)(m:Nat):Rd S w (A.map fun x=>x.add m) (xs.drop m):=by
 rcases h with rfl|⟨b,o,rfl,hS,hc⟩
 ·exact .inl (by simp)
 ·refine .inr ⟨b,o+m,by simp[Addr.add_lit],hS,fun j u hu=>?_⟩;rw[List.getElem?_drop]at hu;have:=hc _ u hu
  rwa [←Nat.add_assoc]at this
theorem BytesIn.take{S:Nat→Prop}{w:World}{A:Option Addr}{l:List UInt8}(h:BytesIn S w A l)(m:Nat):BytesIn S w A (l.take m):=
 ⟨by have:=h.1.take m;rwa [show(bytesV l).take m=bytesV (l.take m)by simp[bytesV]]at this,by have:=h.2;simp;omega⟩
theorem BytesIn.drop{S:Nat→Prop}{w:World}{A:Option Addr}{l:List UInt8}(h:BytesIn S w A l)(m:Nat):BytesIn S w (A.map fun x=>x.add m) (l.drop m):=
 ⟨by have:=h.1.drop m;rwa [show(bytesV l).drop m=bytesV (l.drop m)by simp[bytesV]]at this,by have:=h.2;simp;omega⟩
def beNat(l:List UInt8):Nat:=l.foldl (fun a c=>a*256+c.toNat) 0
theorem YD(l:List UInt8)(c:UInt8):beNat (l++[c])=beNat l*256+c.toNat:=by simp[beNat,List.foldl_append]
theorem YE(l:List UInt8)(q:Nat)(hq:q<l.length):beNat (l.take (q+1))=beNat (l.take q)*256+l[q].toNat:=by
 rw[List.take_succ_eq_append_getElem hq,YD]
theorem wO :∀(l:List UInt8) (a n:Nat),a<256 ^ n→l.foldl (fun a c=>a*256+c.toNat) a<256 ^ (n+l.length):=by
 intro l
 induction l with
 | nil=>intro a n h;exact h
 | cons c l ih =>
  intro a n h;have hc:=c.toNat_lt;have:=ih (a*256+c.toNat) (n+1) (by rw[Nat.pow_succ];omega);simp only[List.foldl_cons,List.length_cons]
  rwa [show n+(l.length+1)=n+1+l.length by omega]
theorem U0(l:List UInt8):beNat l<256 ^ l.length:=by
 have:=wO l 0 0 (by simp)
 simpa[beNat]using this
theorem lN{n:Nat}{c:UInt8}(h:n % 256=c.toNat):UInt8.ofNat n=c:=by
 apply UInt8.toNat_inj.mp;rw[MQ,h]
theorem Bg{l:List UInt8}(h:l.length=8){x:Int}(hx:x % 18446744073709551616=(beNat l:Int)):au x=l:=by
 match l,h with
 | [a,b,c,d,e,f,g,i],_ =>
  have hn:(x % 18446744073709551616).toNat=beNat [a,b,c,d,e,f,g,i]:=by omega
  have h0:=a.toNat_lt;have h1:=b.toNat_lt;have h2:=c.toNat_lt;have h3:=d.toNat_lt;have h4:=e.toNat_lt;have h5:=f.toNat_lt;have h6:=g.toNat_lt;have h7:=i.toNat_lt;simp only[au,hn];simp only[beNat,List.foldl_cons,List.foldl_nil];rw[lN (c:=a) (by omega),lN (c:=b) (by omega),lN (c:=c) (by omega),lN (c:=d) (by omega),lN (c:=e) (by omega),lN (c:=f) (by omega),lN (c:=g) (by omega),lN (c:=i) (by omega)]
theorem Bh(X c:Nat)(hX:X<72057594037927936)(hc:c<256):bits .or .u64 (IntKind.u64.wrap ((X:Int)*256)) (IntKind.u64.wrap (c:Int))=((X*256+c:Nat):Int):=by
 have h1:IntKind.u64.wrap ((X:Int)*256)=((X*256:Nat):Int):=by simp[IntKind.wrap,IntKind.bits,IntKind.signed];omega
 have h2:IntKind.u64.wrap (c:Int)=((c:Nat):Int):=by simp[IntKind.wrap,IntKind.bits,IntKind.signed];omega
 have h3:X*256 ||| c=X*256+c:=by
  have:=Nat.shiftLeft_add_eq_or_of_lt (i:=8) (b:=c) (by omega) X;rw[Nat.shiftLeft_eq,show(2:Nat) ^ 8=256 from rfl]at this;exact this.symm
 rw[h1,h2];unfold bits;rw[←h3];have hlt:X*256 ||| c<18446744073709551616:=by omega
 simp only[IntKind.wrap,IntKind.bits,IntKind.signed];simp[BitVec.toNat_or,BitVec.ofInt_natCast,-Int.natCast_mul];have hb:(BitVec.ofNat 64 (X*256)||| BitVec.ofNat 64 c:BitVec 64).toNat=(X*256 ||| c):=by
  rw[BitVec.toNat_or,BitVec.toNat_ofNat,BitVec.toNat_ofNat,Nat.mod_eq_of_lt (by omega),Nat.mod_eq_of_lt (by omega)]
 change(((BitVec.ofNat 64 (X*256)||| BitVec.ofNat 64 c:BitVec 64).toNat:Int)) % 18446744073709551616=_;rw[hb];omega
end
end Go.Proofs.YtjjaojnglnpgaaaGreatDoor
