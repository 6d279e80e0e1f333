/- Part 9 of what scriptParses_card rests on. -/
import Derived.Test.YtjjaojnglnpgaaaGreatDoorRows
import Derived.Test.YtjjaojnglnpgaaaGreatDoorTie
import Derived.ProofKit
import Derived.Lib.LaidTab
import Derived.LaidLaws
import Derived.Deep.DeepLaidRun
import Derived.Test.YtjjaojnglnpgaaaGreatDoorShelf
import Derived.BigQuiet
import Derived.Test.YtjjaojnglnpgaaaGreatDoorZ02
import Derived.Test.YtjjaojnglnpgaaaGreatDoorZ01
import Derived.Test.YtjjaojnglnpgaaaGreatDoorZ04
import Derived.Test.YtjjaojnglnpgaaaGreatDoorZ06
import Derived.Test.YtjjaojnglnpgaaaGreatDoorZ00
set_option linter.unusedVariables false
set_option linter.unusedSimpArgs false
set_option maxHeartbeats 16000000
set_option maxRecDepth 1000000
namespace Go.Proofs.YtjjaojnglnpgaaaGreatDoor
section
open Go.RowKit
theorem pO:ownKnob Tryz.prog.godebug=none:=by kernel_rfl
def flat1:DataW Unit→List Value
 | .lit (.int k n)=>[.int k n]
 | .agg l=>l.flatMap fun | .lit (.int k n)=>[Value.int k n]|_=>[]
 | _=>[]
def flat:DataW Unit→Array Value
 | .agg l=>(l.flatMap flat1).toArray
 | _=>#[]
noncomputable def laidWorld(os:Os):World :=
 let N:=(World.settled Tryz.prog os).heap.size
 let w0:=World.holding Tryz.prog os ⟨#[
  .cells #[.int .u16 9,.int .u16 13,.int .u16 1,.int .u16 32,.int .u16 133,.int .u16 101,.int .u16 160,.int .u16 5760,.int .u16 5600,.int .u16 8192,.int .u16 8202,.int .u16 1,.int .u16 8232,.int .u16 8233,.int .u16 1,.int .u16 8239,.int .u16 8287,.int .u16 48,.int .u16 12288,.int .u16 12288,.int .u16 1] 381,
  .cells #[.slice (some ⟨N,0,none⟩) 7 7,.slice none 0 0,.int .i64 2] 378],#[],[]⟩
 let put (h:Array Obj) (g:Nat) (cs:Array Value):Array Obj:=h.modify g fun
  | .cells _ t frozen=> .cells cs t frozen
  | o=>o
 let h1:=put w0.heap 5 (flat Rows.laid_strings_asciiSpace)
 let h2:=put h1 8 #[.pointer (some ⟨N+1,0,none⟩)]
 let h3:=put h2 6 (flat Rows.laid_math_bits_deBruijn32tab)
 let h4:=put h3 7 (flat Rows.laid_math_bits_deBruijn64tab)
 let h5:=put h4 4 (flat Rows.laid_internal_strconv_uint64pow10)
 let h6:=put h5 3 (flat Rows.laid_unicode_utf8_acceptRanges)
 let h7:=put h6 2 (flat Rows.laid_unicode_utf8_first)
 {w0 with heap:=h7}
theorem laid_met (os : Os) (args : Array Value) : laidMet Tryz.prog [("math/bits.deBruijn32tab", Rows.laid_math_bits_deBruijn32tab), ("math/bits.deBruijn64tab", Rows.laid_math_bits_deBruijn64tab), ("internal/strconv.uint64pow10", Rows.laid_internal_strconv_uint64pow10), ("unicode/utf8.acceptRanges", Rows.laid_unicode_utf8_acceptRanges), ("unicode.White_Space", Rows.laid_unicode_White_Space), ("strings.asciiSpace", Rows.laid_strings_asciiSpace), ("unicode/utf8.first", Rows.laid_unicode_utf8_first)] ((laidWorld os).forCall (fun _ _ => 0) ⟨#[], args, []⟩).memory :=
 laidMet_of_run3 12 (by kernel_rfl) (by kernel_rfl) (by kernel_rfl)
def TabOk (w : World) : Prop := 5 < w.heap.size ∧ Lib.TabIs Tryz.prog w "strings.asciiSpace" .u8 Lib.asciiSpaceTab
theorem TabOk.below{w w':World}(h:TabOk w)(hb:Below w.heap.size w w'):TabOk w' :=
 ⟨aH h.1 hb.size,var?_below hb (by kernel_rfl) h.1 h.2⟩
def txt(l:List UInt8):ByteArray:=⟨l.toArray⟩
def txts(l:List (List UInt8)):List ByteArray:=l.map txt
theorem KT{l:List (List UInt8)}{s:ByteArray}:s∈txts l↔s.data.toList∈l:=by
 unfold txts;rw[List.mem_map];constructor
 ·rintro⟨x,hx,rfl⟩
  simpa[txt]using hx
 ·intro h;exact⟨_,h,by simp[txt]⟩
def SplitPost(ws:List (List UInt8))(w:World)(e:Ending)(w':World):Prop :=
 ∃A c,e = .returned (.slice A (txts ws).length c)∧Rd (fun _=>True) w' A ((txts ws).map .string)∧Below w.heap.size w w'
theorem Qb(s:List UInt8)(ws:List (List UInt8))(w:World)(ht:TabOk w)(hf:Lib.fields s=ws)(hs:s.length<4294967281)(ha :∀b∈s,b.toNat<128):
  Calls Tryz.prog 281 #[.string ⟨s.toArray⟩] w (SplitPost ws w):=by
 refine(Tryz.strings_Fields ⟨s.toArray⟩ w (by simpa[ByteArray.size]using hs) (fun j b hb=>ha b (List.mem_of_getElem? hb)) ht.2).mono ?_;rintro e w' ⟨rfl,rfl⟩;have e1:(Lib.fields (List.toArray s).toList)=ws:=by simpa using hf
 simp only[e1];refine⟨some ⟨w.heap.size,0,none⟩,ws.length,by simp[txts],?_,ag _ _⟩;have:=zn (S:=fun _=>True) (w:=w) (cs:=(txts ws).map .string) (t:=9) trivial
 simpa[txts,txt,Function.comp_def]using this
theorem lM(w:World)(ht:TabOk w):Calls Tryz.prog 257 #[] w (SplitPost words w):=by
 have H:Hid (TabOk w):=ht;clear ht;go_enter Tryz.func257,Tryz.ntmps257
 go_wp2_with(go_at_call 281;refine(Qb _ words _ H.out (by decide +kernel) (by decide) (by decide)).mono ?_;rintro e w' ⟨A,c,rfl,hr,hb⟩;have Hr:=hide hr;have Hb:=hide hb;clear hr hb)
 go_ret;exact⟨A,c,rfl,Hr.out,Hb.out⟩
theorem Qc{s:ByteArray}(h:0<s.size):LexName s↔s.size≤24∧Letter (s[0])∧s∉txts words∧∀c∈s.data.toList,Letter c∨Digit c:=by
 unfold LexName;rw[KT];obtain⟨⟨l⟩⟩:=s;cases l with
 | nil=>simp[ByteArray.size]at h
 | cons c l =>
  have:(⟨(c::l).toArray⟩:ByteArray)[0]=c:=rfl;rw[this];simp
theorem Qd{s:ByteArray}(h :¬0<s.size):¬LexName s:=by
 rintro⟨_,⟨c,l,hc,_⟩,_⟩;apply h;have:s.data.toList.length=s.size:=by simp
 rw[hc]at this;simp at this;omega
theorem dN(s:ByteArray)(w:World)(hs:s.size≤9223372036854775807)(ht:TabOk w):Calls Tryz.prog 219 #[.string s] w fun e w'=>RetB (LexName s) e∧Below w.heap.size w w':=by
 have Ht:Hid (TabOk w):=ht;clear ht;have hz:=hide (fH s);by_cases h0:0<s.size
 ·have hne :¬s.toList=[]:=by rw[fH];omega
  have hne2:s.toList.isEmpty=false:=by simpa using hne
  by_cases h1:s.size≤24
  ·have gJ:=hide (Qc h0);go_enter Tryz.func219,Tryz.ntmps219
   go_wp2_with(first
    | (go_at_call 255;refine(PH s[0] _).mono ?_;rintro e w1 ⟨⟨_|_,rfl,hb⟩,rfl⟩<;>(have Hb:=hide hb;clear hb))
    | (go_at_call 257;refine(lM _ Ht.out).mono ?_;rintro e w1 ⟨A,c,rfl,hr,hb⟩;have Hr:=hide hr;have HB:=hide hb;clear hr hb)
    | (go_at_call 256;refine(PE (l:=txts words) (x:=s) Hr.out (by decide)).mono ?_;rintro e w2 ⟨⟨_|_,rfl,hb⟩,rfl⟩<;>(have Hc:=hide hb;clear hb)))
   ·go_ret;exact⟨RetB.no fun h=>(by simpa using Hb.out :¬Letter s[0]) (gJ.out.1 h).2.1,Below.refl _ _⟩
   ·go_loop [24,3] (fun i _=>∃k:Nat,k≤s.size∧i = .int .i64 k∧Hid (∀j,(h:j<k)→(h':j<s.size)→Letter (s[j])∨Digit (s[j]))) (fun i _=>s.size-(intOf i).toNat)
    case atStart=>exact⟨0,Nat.zero_le _,rfl,hide (fun j h=>absurd h (by omega))⟩
    case round =>
     obtain⟨k,hk,rfl,hall⟩:=hrel;by_cases hlt:k<s.size
     ·go_wp2_with(go_at_call 258;refine(lH s[k] _).mono ?_;rintro e w' ⟨⟨_|_,rfl,hb⟩,rfl⟩<;>(have Hd:=hide hb;clear hb))
      ·go_ret;exact⟨RetB.no fun h=>(by simpa using Hd.out :¬(Letter s[k]∨Digit s[k])) ((gJ.out.1 h).2.2.2 _ (GX s k hlt)),HB.out⟩
      ·go_round
       case rel=>exact⟨k+1,by omega,by go_num,hide (G7 (P:=fun c=>Letter c∨Digit c) hall.out hlt (by simpa using Hd.out))⟩
       case measure=>simp[intOf];omega
     ·have H:=hide (G8 (P:=fun c=>Letter c∨Digit c) hall.out hlt);clear hall
      go_wp2_with fail
      go_ret;exact⟨RetB.yes (gJ.out.2 ⟨h1,by simpa using Hb.out,by simpa using Hc.out,H.out⟩),HB.out⟩
   ·go_ret;exact⟨RetB.no fun h=>(gJ.out.1 h).2.2.1 (by simpa using Hc.out),HB.out⟩
  ·go_enter Tryz.func219,Tryz.ntmps219
   go_wp2_with fail
   go_ret;exact⟨RetB.no fun h=>h1 h.1,Below.refl _ _⟩
 ·have he:s.toList=[]:=by rw[fH];omega
  go_enter Tryz.func219,Tryz.ntmps219
  go_wp2_with fail
  go_ret;exact⟨RetB.no (Qd h0),Below.refl _ _⟩
theorem lN(c:UInt8)(w:World):Calls Tryz.prog 264 #[.int .u8 c.toNat] w fun e w'=>RetB (Digit c) e∧w=w':=by
 go_enter Tryz.func264,Tryz.ntmps264
 go_wp2
 all_goals go_ret
 all_goals exact⟨RetB.mk (by unfold Digit;simp;try omega),rfl⟩
theorem Qe(c:UInt8)(w:World):Calls Tryz.prog 261 #[.int .u8 c.toNat] w fun e w'=>RetB (Letter c) e∧w=w':=by
 go_enter Tryz.func261,Tryz.ntmps261
 go_wp2
 all_goals go_ret
 all_goals exact⟨RetB.mk (by unfold Letter;simp;try omega),rfl⟩
theorem Io(s:ByteArray)(w:World)(hs:s.size≤9223372036854775807):Calls Tryz.prog 183 #[.string s] w fun e w'=>RetB (FileName s) e∧w=w':=by
  go_enter Tryz.func183,Tryz.ntmps183
  go_wp2
  go_loop [3] (fun i=>∃k:Nat,k≤s.size∧i = .int .i64 k∧Hid (∀j,(h:j<k)→(h':j<s.size)→FileChar (s[j]))) (fun i=>s.size-(intOf i).toNat)
  case atStart=>exact⟨0,Nat.zero_le _,rfl,hide (fun j h=>absurd h (by omega))⟩
  case round =>
    obtain⟨k,hk,rfl,hall⟩:=hrel;by_cases hlt:k<s.size
    · go_wp2
      all_goals first
        | (go_round
           case rel=>exact⟨k+1,by omega,by go_num,hide (G7 hall.out hlt (by go_tidy;clear hall;unfold FileChar Digit;simp at *;omega))⟩
           case measure=>simp[intOf];omega)
        | (go_ret
           exact⟨RetB.no fun h=>(by go_tidy;clear hall h;unfold FileChar Digit;simp at *;omega :¬FileChar s[k]) (h.2.2 _ (GX s k hlt)),rfl⟩)
    · have H:=hide (G8 hall.out hlt)
      clear hall
      go_wp2
      all_goals(go_ret;go_tidy;exact⟨RetB.mk (by rw[PI H.out];clear H;simp;try omega),rfl⟩)
theorem pR{S:Nat→Prop}{A:Option Addr}{c:Nat}{l:List ByteArray}{x:ByteArray}{w:World}(hl:Rd S w A (l.map .string))(hlen:l.length≤9223372036854775807):
  Calls Tryz.prog 262 #[.string x,.slice A l.length c] w fun e w'=>RetB (x∈l) e∧w=w':=by
 have Hl:=hide hl;clear hl;go_enter Tryz.func262,Tryz.ntmps262
 go_wp2_with fail
 go_loop [5] (fun i=>∃k:Nat,k≤l.length∧i = .int .i64 k∧Hid (∀j,j<k→l[j]?≠some x)) (fun i=>l.length-(intOf i).toNat)
 case atStart=>exact⟨0,Nat.zero_le _,rfl,hide (fun j h=>absurd h (by omega))⟩
 case round =>
  obtain⟨k,hk,rfl,hall⟩:=hrel;by_cases hlt:k<l.length
  ·obtain⟨b,o,rfl,h1⟩:=Hl.out.at_ (j:=k) (by simpa using hlt);simp only[List.getElem_map]at h1;have E:=hide (show l[k]?=some l[k]by simp[hlt]);generalize l[k]=s at h1 E
   go_wp2_with fail
   ·have ht:(s.toList == x.toList)=true:=by assumption
    go_ret;exact⟨RetB.yes (List.mem_of_getElem? (E.out.trans (congrArg some (Df.1 ht)))),rfl⟩
   ·have ht:(s.toList == x.toList)=false:=by assumption
    go_round
    case rel=>exact⟨k+1,by omega,by go_num,hide (Dj hall.out E.out (fun e=>by subst e;simp at ht))⟩
    case measure=>simp[intOf];omega
  ·go_wp2_with fail
   go_ret;exact⟨RetB.no (Dk hall.out hlt),rfl⟩
theorem Vu(w:World):Calls Tryz.prog 263 #[] w (SplitPost words w):=by
 go_enter Tryz.func263,Tryz.ntmps263
 go_wp2
 go_ret;refine⟨some ⟨w.heap.size,0,none⟩,11,rfl,?_,ag _ _⟩;exact zn (S:=fun _=>True) (w:=w) (cs:=(txts words).map .string) (t:=9) trivial
theorem KU(s:ByteArray)(w:World)(hs:s.size≤9223372036854775807):Calls Tryz.prog 230 #[.string s] w fun e w'=>RetB (LexName s) e∧Below w.heap.size w w':=by
  have hz:=hide (fH s);by_cases h0:0<s.size
  · have hne :¬s.toList=[]:=by rw[fH];omega
    have hne2:s.toList.isEmpty=false:=by simpa using hne
    by_cases h1:s.size≤24
    · have gJ:=hide (Qc h0)
      go_enter Tryz.func230,Tryz.ntmps230
      go_wp2_with(first
        | (go_at_call 261;refine(Qe s[0] _).mono ?_;rintro e w1 ⟨⟨_|_,rfl,hb⟩,rfl⟩<;>(have Hb:=hide hb;clear hb))
        | (go_at_call 263;refine(Vu _).mono ?_;rintro e w1 ⟨A,c,rfl,hr,hb⟩;have Hr:=hide hr;have HB:=hide hb;clear hr hb)
        | (go_at_call 262;refine(pR (l:=txts words) (x:=s) Hr.out (by decide)).mono ?_;rintro e w2 ⟨⟨_|_,rfl,hb⟩,rfl⟩<;>(have Hc:=hide hb;clear hb)))
      · go_ret
        exact⟨RetB.no fun h=>(by simpa using Hb.out :¬Letter s[0]) (gJ.out.1 h).2.1,Below.refl _ _⟩
      · go_loop [3] (fun i=>∃k:Nat,k≤s.size∧i = .int .i64 k∧Hid (∀j,(h:j<k)→(h':j<s.size)→Letter (s[j])∨Digit (s[j]))) (fun i=>s.size-(intOf i).toNat)
        case atStart=>exact⟨0,Nat.zero_le _,rfl,hide (fun j h=>absurd h (by omega))⟩
        case round =>
          obtain⟨k,hk,rfl,hall⟩:=hrel;by_cases hlt:k<s.size
          · go_wp2_with(first
              | (go_at_call 261;refine(Qe s[k] _).mono ?_;rintro e w' ⟨⟨_|_,rfl,hb⟩,rfl⟩<;>(have Hd:=hide hb;clear hb))
              | (go_at_call 264;refine(lN s[k] _).mono ?_;rintro e w' ⟨⟨_|_,rfl,hb⟩,rfl⟩<;>(have Hg:=hide hb;clear hb)))
            all_goals first
              | (go_ret
                 exact⟨RetB.no fun h=>((gJ.out.1 h).2.2.2 _ (GX s k hlt)).elim (by simpa using Hd.out) (by simpa using Hg.out),HB.out⟩)
              | (go_round
                 case rel=>exact⟨k+1,by omega,by go_num,hide (G7 (P:=fun c=>Letter c∨Digit c) hall.out hlt (by first|exact .inl (by simpa using Hd.out)|exact .inr (by simpa using Hg.out)))⟩
                 case measure=>simp[intOf];omega)
          · have H:=hide (G8 (P:=fun c=>Letter c∨Digit c) hall.out hlt)
            clear hall
            go_wp2_with fail
            go_ret;exact⟨RetB.yes (gJ.out.2 ⟨h1,by simpa using Hb.out,by simpa using Hc.out,H.out⟩),HB.out⟩
      · go_ret
        exact⟨RetB.no fun h=>(gJ.out.1 h).2.2.1 (by simpa using Hc.out),HB.out⟩
    · go_enter Tryz.func230,Tryz.ntmps230
      go_wp2_with fail
      go_ret;exact⟨RetB.no fun h=>h1 h.1,Below.refl _ _⟩
  · have he:s.toList=[]:=by rw[fH];omega
    go_enter Tryz.func230,Tryz.ntmps230
    go_wp2_with fail
    go_ret;exact⟨RetB.no (Qd h0),Below.refl _ _⟩
theorem lQ{A:Option Addr}{k l c:Nat}{t:ByteArray}{n:Int}{w:World}(ht:t.size≤9223372036854775807):
  Calls Tryz.prog 301 #[.agg #[.int .u8 k,.string t,.int .i64 n,.slice A l c]] w fun e w'=>RetB (TextOk k t) e∧Below w.heap.size w w':=by
 by_cases hN:Named k
 ·have HN:=hide hN;have e:TextOk k t↔LexName t:=by unfold TextOk;rw[if_pos hN]
  have He:=hide e;clear hN e;go_enter Tryz.func301,Tryz.ntmps301
  go_wp2_with(first
   | (go_at_call 305;(with_reducible refine(Ij k _).mono ?_);rintro e w1 ⟨⟨b,rfl,hb⟩,rfl⟩;have hb2:=hb.2 HN.out;subst hb2;clear hb)
   | (go_at_call 230;(with_reducible refine(KU t _ ht).mono ?_);rintro e w2 ⟨⟨b,rfl,hb⟩,hB⟩;have Hb:=hide hb;have HB:=hide hB;clear hb hB))
  go_ret;exact⟨RetB.mk (by rw[He.out];exact Hb.out),ak (ag _ _) HB.out⟩
 ·have HN:=hide hN;by_cases h23:k=23
  ·have e:TextOk k t↔(t.data.toList=[45]∨t.data.toList=[33]):=by unfold TextOk;rw[if_neg hN,if_pos h23]
   have He:=hide e;have g23:((k:Int) == 23)=true:=by rw[beq_iff_eq];omega
   clear hN e h23;go_enter Tryz.func301,Tryz.ntmps301
   go_wp2_with(go_at_call 305;(with_reducible refine(Ij k _).mono ?_);rintro e w1 ⟨⟨b,rfl,hb⟩,rfl⟩;have hb2:b=false:=(by cases b with|false=>rfl|true=>exact absurd (hb.1 rfl) HN.out);subst hb2;clear hb)
   all_goals(go_ret;go_tidy;exact⟨RetB.mk (by rw[He.out,←ByteArray.toList_eq];clear He HN;grind),ag _ _⟩)
  ·by_cases Ip:k=24
   ·have e:TextOk k t↔t∈txts binaries:=by
     unfold TextOk;rw[if_neg hN,if_neg h23,if_pos Ip];exact KT.symm
    have He:=hide e;have g23:((k:Int) == 23)=false:=by rw[aK];omega
    have g24:((k:Int) == 24)=true:=by rw[beq_iff_eq];omega
    clear hN e h23 Ip;go_enter Tryz.func301,Tryz.ntmps301
    go_wp2_with(go_at_call 305;(with_reducible refine(Ij k _).mono ?_);rintro e w1 ⟨⟨b,rfl,hb⟩,rfl⟩;have hb2:b=false:=(by cases b with|false=>rfl|true=>exact absurd (hb.1 rfl) HN.out);subst hb2;clear hb)
    have zA:(txts binaries).length=13:=by decide
    obtain⟨W,hW⟩:∃W,W=(w.alloc (.cells #[.int .u8 k,.string t,.int .i64 n,.slice A l c] 218)).alloc (.cells ((txts binaries).map Value.string).toArray 9):=⟨_,rfl⟩;have hz:(w.alloc (.cells #[.int .u8 k,.string t,.int .i64 n,.slice A l c] 218)).heap.size=w.heap.size+1:=by simp
    have KW:Hid (∀(j:Nat) s,(txts binaries)[j]?=some s→W.cell? ⟨w.heap.size+1,j,none⟩=some (.string s)):=hide (by
     intro j s hs;have h1:=Lib.cell_of_heap (heap_alloc_new (w.alloc (.cells #[.int .u8 k,.string t,.int .i64 n,.slice A l c] 218)) (.cells ((txts binaries).map Value.string).toArray 9)) j;rw[hz,←hW]at h1;rw[h1];simp[hs])
    have Vw:Hid (W.cell? ⟨w.heap.size,1,none⟩=some (.string t)):=hide (by
     rw[hW];exact((ag (w.alloc (.cells #[.int .u8 k,.string t,.int .i64 n,.slice A l c] 218)) _).cell (p:=⟨w.heap.size,1,none⟩) (by simp)).trans (Lib.cell_of_heap (heap_alloc_new w _) 1))
    have HB0:Hid (Below w.heap.size w W):=hide (by rw[hW];exact(ag w _).alloc (by simp) _);have hsW:w.heap.size+1<W.heap.size:=by rw[hW];simp
    change Code.wp _ _ _ _ ((w.alloc (.cells #[.int .u8 k,.string t,.int .i64 n,.slice A l c] 218)).alloc (.cells ((txts binaries).map Value.string).toArray 9));rw[←hW];clear hW hz
    go_loopw [4] (fun i wr=>∃q:Nat,q≤13∧i = .int .i64 q∧Hid (Below W.heap.size W wr)∧Hid (∀j,j<q→(txts binaries)[j]?≠some t)) (fun i _=>13-(intOf i).toNat)
    case atStart=>exact⟨0,by omega,rfl,hide (Below.refl _ _),hide (fun j h=>absurd h (by omega))⟩
    case round =>
     obtain⟨q,hq,rfl,HB,ah⟩:=hrel;have hbx:=(HB.out.cell (p:=⟨w.heap.size,1,none⟩) (by simp;omega)).trans Vw.out;by_cases hlt:q<13
     ·obtain⟨s,E⟩:∃s,(txts binaries)[q]?=some s:=⟨_,List.getElem?_eq_getElem (by omega)⟩;have hrw:=(HB.out.cell (p:=⟨w.heap.size+1,q,none⟩) (by simp;omega)).trans (KW.out q s E);have E':=hide E;clear E
      go_wp2_with fail
      go_quiet (fail)
      go_wp2_with fail
      ·have ht:(t.toList == s.toList)=true:=by assumption
       go_ret;exact⟨RetB.yes (He.out.2 (List.mem_of_getElem? (E'.out.trans (congrArg some (Df.1 ht).symm)))),ak HB0.out (aO HB.out _)⟩
      ·have ht:(t.toList == s.toList)=false:=by assumption
       go_roundw
       case rel=>exact⟨q+1,by omega,by go_num,hide (aO HB.out _),hide (Dj ah.out E'.out (fun e=>by subst e;simp at ht))⟩
       case measure=>simp[intOf];omega
     ·have hqe:q=13:=by omega
      subst hqe
      go_wp2_with fail
      go_ret;exact⟨RetB.no (fun h=>Dk ah.out (by rw[zA];omega) (He.out.1 h)),ak HB0.out HB.out⟩
   ·have e:TextOk k t↔t.data.toList=[]:=by unfold TextOk;rw[if_neg hN,if_neg h23,if_neg Ip]
    have He:=hide e;have g23:((k:Int) == 23)=false:=by rw[aK];omega
    have g24:((k:Int) == 24)=false:=by rw[aK];omega
    clear hN e h23 Ip;go_enter Tryz.func301,Tryz.ntmps301
    go_wp2_with(go_at_call 305;(with_reducible refine(Ij k _).mono ?_);rintro e w1 ⟨⟨b,rfl,hb⟩,rfl⟩;have hb2:b=false:=(by cases b with|false=>rfl|true=>exact absurd (hb.1 rfl) HN.out);subst hb2;clear hb)
    all_goals(go_ret;go_tidy;exact⟨RetB.mk (by rw[He.out,←ByteArray.toList_eq];clear He HN;grind),ag _ _⟩)
end
end Go.Proofs.YtjjaojnglnpgaaaGreatDoor
