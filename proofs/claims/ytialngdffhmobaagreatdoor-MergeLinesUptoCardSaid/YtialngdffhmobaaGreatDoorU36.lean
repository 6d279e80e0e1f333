/- Part 37 of what mgTop rests on. -/
import Derived.Test.YtialngdffhmobaaGreatDoorU33
import Derived.Test.YtialngdffhmobaaGreatDoorU04
import Derived.Test.YtialngdffhmobaaGreatDoorU16
import Derived.Test.YtialngdffhmobaaGreatDoorU01
import Derived.Test.YtialngdffhmobaaGreatDoorU00
set_option linter.unusedVariables false
set_option linter.unusedSimpArgs false
set_option maxHeartbeats 16000000
set_option maxRecDepth 1000000
namespace Go.Proofs.YtialngdffhmobaaGreatDoor
section
open Go.RowKit
theorem besideUp{e:Ed}{y:Eh}{w:World}:Calls Tryz.prog 229 #[.agg (edVs e y).toArray] w fun r w'=>r = .returned (.int .i64 e.up)∧Below w.heap.size w w':=by
 have hX:=hide (Bx.new w (edVs e y) 30);have hB:=hide (below_alloc w (.cells (edVs e y).toArray 30));go_enter Tryz.func229,Tryz.ntmps229
 go_upto_region 1 with fail
 change Code.wp _ _ _ _ (w.alloc (.cells (edVs e y).toArray 30));have k0:=hX.out.cell 0;generalize w.alloc (.cells (edVs e y).toArray 30)=W1 at hX hB k0⊢;by_cases h2:e.kind=2
 ·have e2:((e.kind:Int) == 2)=true:=by simp;omega
  go_wp2_with fail
  go_ret;exact⟨by rw[show e.up=1 by unfold Ed.up;rw[if_pos h2]];rfl,hB.out⟩
 ·have e2:((e.kind:Int) == 2)=false:=by simp;omega
  go_wp2_with fail
  go_ret;exact⟨by rw[show e.up = -1 by unfold Ed.up;rw[if_neg h2]];rfl,hB.out⟩
def BesPost(p q:Ed)(w:World)(r:Ending)(w':World):Prop:=(∃j i ok,r = .returned (.tuple #[.int .i64 j,.int .i64 i,.bool ok])∧((besideOf p q=none∧ok=false)∨(besideOf p q=some (j,i)∧ok=true)))∧Below w.heap.size w w'
theorem beside_any{p q:Ed}{x y:Eh}{w:World}(hp:Number p.at_)(hq:Number q.at_):
  Calls Tryz.prog 192 #[.agg (edVs p x).toArray,.agg (edVs q y).toArray] w fun r w'=>BesPost p q w r w':=by
 obtain⟨W0,hW0⟩:∃W0,W0=(w.alloc (.cells (edVs p x).toArray 30)).alloc (.cells (edVs q y).toArray 30):=⟨_,rfl⟩;obtain⟨hN0,hR0⟩:=bx_two w (edVs p x) (edVs q y) 30 30;rw[←hW0]at hN0 hR0;have hB0:Below w.heap.size w W0:=by rw[hW0];exact below2 _ _
 have HW0:=hide hW0;have HN0:=hide hN0;have HR0:=hide hR0;have HB0:=hide hB0;clear hW0 hN0 hR0 hB0;have w1:=i64_wrap (n:=p.at_-1) ⟨by have:=hp.1;omega,by have:=hp.2;omega⟩;have w2:=i64_wrap (n:=p.at_+1) ⟨by have:=hp.1;omega,by have:=hp.2;omega⟩;have w3:=i64_wrap (n:=p.at_+q.up) ⟨by have:=hp.1;unfold Ed.up;split<;>omega,by have:=hp.2;unfold Ed.up;split<;>omega⟩;have w4:=i64_wrap (n:=q.at_-p.up) ⟨by have:=hq.1;unfold Ed.up;split<;>omega,by have:=hq.2;unfold Ed.up;split<;>omega⟩;clear hp hq;have hen :∀(args:Array Value) (W:World),(callFunc 229 args).run Tryz.prog W = .ok (.enter 229 args) W:=enters_of Tryz.func229 (by kernel_rfl) rfl;go_enter Tryz.func192,Tryz.ntmps192
 go_upto_region 1 with fail
 change Code.wp _ _ _ _ ((w.alloc (.cells (edVs p x).toArray 30)).alloc (.cells (edVs q y).toArray 30));rw[←HW0.out];clear HW0;have p0:=HN0.out.cell 0;have p2:=HN0.out.cell 2;have q0:=HR0.out.cell 0;have q2:=HR0.out.cell 2;by_cases h1:p.kind=5
 ·have e1:((p.kind:Int) == 5)=true:=by simp;omega
  have hb:besideOf p q=none:=by unfold besideOf;simp[h1]
  have Hb:=hide hb;clear hb h1
  go_wp2_with fail
  go_ret3
  exact⟨⟨_,_,_,rfl,.inl ⟨Hb.out,rfl⟩⟩,HB0.out⟩
 ·have e1:((p.kind:Int) == 5)=false:=by simp;omega
  by_cases h2:q.kind=5
  ·have e2:((q.kind:Int) == 5)=true:=by simp;omega
   have hb:besideOf p q=none:=by unfold besideOf;simp[h2]
   have Hb:=hide hb;clear hb h1 h2
   go_wp2_with fail
   go_ret3
   exact⟨⟨_,_,_,rfl,.inl ⟨Hb.out,rfl⟩⟩,HB0.out⟩
  ·have e2:((q.kind:Int) == 5)=false:=by simp;omega
   go_upto_region 4 with fail
   have hS:(fun V:World=>V.cell? ⟨w.heap.size,2,none⟩=some (.int .i64 p.at_)∧V.cell? ⟨w.heap.size+1,2,none⟩=some (.int .i64 q.at_)) W0.drew:=⟨p2,q2⟩;refine wp_region_held_drew (S:=fun V:World=>V.cell? ⟨w.heap.size,2,none⟩=some (.int .i64 p.at_)∧V.cell? ⟨w.heap.size+1,2,none⟩=some (.int .i64 q.at_)) (by kernel_rfl) hS (fun hS0=>?_);have HN1:=hide HN0.out.drew;have HR1:=hide HR0.out.drew;have HB1:=hide HB0.out.drew;clear hS p0 p2 q0 q2 HN0 HR0 HB0;generalize W0.drew=W1 at hS0 HN1 HR1 HB1⊢;refine tka 0 hS0 ?_;refine tka 1 hS0 ?_;refine tka 2 hS0 ?_;refine tka 3 hS0 ?_;refine tka 4 hS0 ?_;refine tka 5 hS0 ?_;refine wpAnyH_done (by kernel_rfl) ?_ _;rename_i hK;refine hK _ _ ?_;clear hK hS0;have p0:=HN1.out.cell 0;have q0:=HR1.out.cell 0;by_cases h3:q.kind=3
   ·have e3:((q.kind:Int) == 3)=true:=by simp;omega
    by_cases h4:p.kind=2
    ·have e4:((p.kind:Int) == 2)=true:=by simp;omega
     by_cases hj:q.at_<p.at_-1
     ·have d1:decide (p.at_-1≤q.at_)=false:=by simp;omega
      have d2:decide (q.at_<p.at_)=true:=by simp;omega
      have hb:besideOf p q=some (q.at_,p.at_+q.up):=by unfold besideOf;simp[h1,h2,h3,h4];omega
      have Hb:=hide hb;clear hb h1 h2 h3 h4 hj
      go_upto_region 13 with fail
      refine wp_region_lit ?_;refine sk ?_;refine sk ?_;refine sk (v:= .func (.func 229) #[] #[]) ?_;refine gl ?_ HR1.out.c Tryz.underlying30 infoEd;refine gc (besideUp (e:=q) (y:=y)) ?_;rintro ee V1 ⟨rfl,hd⟩;have HV:=hide hd;clear hd;refine⟨_,rfl,?_⟩;refine sk ?_;refine sk ?_;refine sk ?_;refine sk ?_;refine wpList_nil ?_
      first
       | (rename_i hK;refine hK _ _ ?_;clear hK)
       | (rename_i hK zK;refine hK _ _ ?_;clear hK)
      go_wp2_with fail
      go_ret3
      exact⟨⟨_,_,_,rfl,.inr ⟨Hb.out,rfl⟩⟩,blw_up HB1.out HV.out⟩
     ·have d1:decide (p.at_-1≤q.at_)=true:=by simp;omega
      by_cases hk:q.at_≤p.at_+1
      ·have d3:decide (q.at_≤p.at_+1)=true:=by simp;omega
       have hb:besideOf p q=none:=by unfold besideOf;simp[h1,h2,h3,h4];omega
       have Hb:=hide hb;clear hb h1 h2 h3 h4 hj hk
       go_wp2_with fail
       go_ret3
       exact⟨⟨_,_,_,rfl,.inl ⟨Hb.out,rfl⟩⟩,HB1.out⟩
      ·have d3:decide (q.at_≤p.at_+1)=false:=by simp;omega
       have d2:decide (q.at_<p.at_)=false:=by simp;omega
       have hb:besideOf p q=some (q.at_-p.up,p.at_):=by unfold besideOf;simp[h1,h2,h3,h4];omega
       have Hb:=hide hb;clear hb h1 h2 h3 h4 hj hk
       go_upto_region 14 with fail
       refine wp_region_lit ?_;refine sk ?_;refine sk (v:= .func (.func 229) #[] #[]) ?_;refine gl ?_ HN1.out.c Tryz.underlying30 infoEd;refine gc (besideUp (e:=p) (y:=x)) ?_;rintro ee V1 ⟨rfl,hd⟩;have HV:=hide hd;clear hd;refine⟨_,rfl,?_⟩;refine sk ?_;refine sk ?_;refine sk ?_;refine sk ?_;refine sk ?_;refine wpList_nil ?_
       first
        | (rename_i hK;refine hK _ _ ?_;clear hK)
        | (rename_i hK zK;refine hK _ _ ?_;clear hK)
       go_wp2_with fail
       go_ret3
       exact⟨⟨_,_,_,rfl,.inr ⟨Hb.out,rfl⟩⟩,blw_up HB1.out HV.out⟩
    ·have e4:((p.kind:Int) == 2)=false:=by simp;omega
     by_cases hj:q.at_<p.at_-1
     ·have d1:decide (p.at_-1≤q.at_)=false:=by simp;omega
      have d2:decide (q.at_<p.at_)=true:=by simp;omega
      have hb:besideOf p q=some (q.at_,p.at_+q.up):=by unfold besideOf;simp[h1,h2,h3,h4];omega
      have Hb:=hide hb;clear hb h1 h2 h3 h4 hj
      go_upto_region 13 with fail
      refine wp_region_lit ?_;refine sk ?_;refine sk ?_;refine sk (v:= .func (.func 229) #[] #[]) ?_;refine gl ?_ HR1.out.c Tryz.underlying30 infoEd;refine gc (besideUp (e:=q) (y:=y)) ?_;rintro ee V1 ⟨rfl,hd⟩;have HV:=hide hd;clear hd;refine⟨_,rfl,?_⟩;refine sk ?_;refine sk ?_;refine sk ?_;refine sk ?_;refine wpList_nil ?_
      first
       | (rename_i hK;refine hK _ _ ?_;clear hK)
       | (rename_i hK zK;refine hK _ _ ?_;clear hK)
      go_wp2_with fail
      go_ret3
      exact⟨⟨_,_,_,rfl,.inr ⟨Hb.out,rfl⟩⟩,blw_up HB1.out HV.out⟩
     ·have d1:decide (p.at_-1≤q.at_)=true:=by simp;omega
      by_cases hk:q.at_≤p.at_
      ·have d3:decide (q.at_≤p.at_)=true:=by simp;omega
       have hb:besideOf p q=none:=by unfold besideOf;simp[h1,h2,h3,h4];omega
       have Hb:=hide hb;clear hb h1 h2 h3 h4 hj hk
       go_wp2_with fail
       go_ret3
       exact⟨⟨_,_,_,rfl,.inl ⟨Hb.out,rfl⟩⟩,HB1.out⟩
      ·have d3:decide (q.at_≤p.at_)=false:=by simp;omega
       have d2:decide (q.at_<p.at_)=false:=by simp;omega
       have hb:besideOf p q=some (q.at_-p.up,p.at_):=by unfold besideOf;simp[h1,h2,h3,h4];omega
       have Hb:=hide hb;clear hb h1 h2 h3 h4 hj hk
       go_upto_region 14 with fail
       refine wp_region_lit ?_;refine sk ?_;refine sk (v:= .func (.func 229) #[] #[]) ?_;refine gl ?_ HN1.out.c Tryz.underlying30 infoEd;refine gc (besideUp (e:=p) (y:=x)) ?_;rintro ee V1 ⟨rfl,hd⟩;have HV:=hide hd;clear hd;refine⟨_,rfl,?_⟩;refine sk ?_;refine sk ?_;refine sk ?_;refine sk ?_;refine sk ?_;refine wpList_nil ?_
       first
        | (rename_i hK;refine hK _ _ ?_;clear hK)
        | (rename_i hK zK;refine hK _ _ ?_;clear hK)
       go_wp2_with fail
       go_ret3
       exact⟨⟨_,_,_,rfl,.inr ⟨Hb.out,rfl⟩⟩,blw_up HB1.out HV.out⟩
   ·have e3:((q.kind:Int) == 3)=false:=by simp;omega
    by_cases h4:p.kind=2
    ·have e4:((p.kind:Int) == 2)=true:=by simp;omega
     by_cases hj:q.at_<p.at_
     ·have d1:decide (p.at_≤q.at_)=false:=by simp;omega
      have d2:decide (q.at_<p.at_)=true:=by simp;omega
      have hb:besideOf p q=some (q.at_,p.at_+q.up):=by unfold besideOf;simp[h1,h2,h3,h4];omega
      have Hb:=hide hb;clear hb h1 h2 h3 h4 hj
      go_upto_region 13 with fail
      refine wp_region_lit ?_;refine sk ?_;refine sk ?_;refine sk (v:= .func (.func 229) #[] #[]) ?_;refine gl ?_ HR1.out.c Tryz.underlying30 infoEd;refine gc (besideUp (e:=q) (y:=y)) ?_;rintro ee V1 ⟨rfl,hd⟩;have HV:=hide hd;clear hd;refine⟨_,rfl,?_⟩;refine sk ?_;refine sk ?_;refine sk ?_;refine sk ?_;refine wpList_nil ?_
      first
       | (rename_i hK;refine hK _ _ ?_;clear hK)
       | (rename_i hK zK;refine hK _ _ ?_;clear hK)
      go_wp2_with fail
      go_ret3
      exact⟨⟨_,_,_,rfl,.inr ⟨Hb.out,rfl⟩⟩,blw_up HB1.out HV.out⟩
     ·have d1:decide (p.at_≤q.at_)=true:=by simp;omega
      by_cases hk:q.at_≤p.at_+1
      ·have d3:decide (q.at_≤p.at_+1)=true:=by simp;omega
       have hb:besideOf p q=none:=by unfold besideOf;simp[h1,h2,h3,h4];omega
       have Hb:=hide hb;clear hb h1 h2 h3 h4 hj hk
       go_wp2_with fail
       go_ret3
       exact⟨⟨_,_,_,rfl,.inl ⟨Hb.out,rfl⟩⟩,HB1.out⟩
      ·have d3:decide (q.at_≤p.at_+1)=false:=by simp;omega
       have d2:decide (q.at_<p.at_)=false:=by simp;omega
       have hb:besideOf p q=some (q.at_-p.up,p.at_):=by unfold besideOf;simp[h1,h2,h3,h4];omega
       have Hb:=hide hb;clear hb h1 h2 h3 h4 hj hk
       go_upto_region 14 with fail
       refine wp_region_lit ?_;refine sk ?_;refine sk (v:= .func (.func 229) #[] #[]) ?_;refine gl ?_ HN1.out.c Tryz.underlying30 infoEd;refine gc (besideUp (e:=p) (y:=x)) ?_;rintro ee V1 ⟨rfl,hd⟩;have HV:=hide hd;clear hd;refine⟨_,rfl,?_⟩;refine sk ?_;refine sk ?_;refine sk ?_;refine sk ?_;refine sk ?_;refine wpList_nil ?_
       first
        | (rename_i hK;refine hK _ _ ?_;clear hK)
        | (rename_i hK zK;refine hK _ _ ?_;clear hK)
       go_wp2_with fail
       go_ret3
       exact⟨⟨_,_,_,rfl,.inr ⟨Hb.out,rfl⟩⟩,blw_up HB1.out HV.out⟩
    ·have e4:((p.kind:Int) == 2)=false:=by simp;omega
     by_cases hj:q.at_<p.at_
     ·have d1:decide (p.at_≤q.at_)=false:=by simp;omega
      have d2:decide (q.at_<p.at_)=true:=by simp;omega
      have hb:besideOf p q=some (q.at_,p.at_+q.up):=by unfold besideOf;simp[h1,h2,h3,h4];omega
      have Hb:=hide hb;clear hb h1 h2 h3 h4 hj
      go_upto_region 13 with fail
      refine wp_region_lit ?_;refine sk ?_;refine sk ?_;refine sk (v:= .func (.func 229) #[] #[]) ?_;refine gl ?_ HR1.out.c Tryz.underlying30 infoEd;refine gc (besideUp (e:=q) (y:=y)) ?_;rintro ee V1 ⟨rfl,hd⟩;have HV:=hide hd;clear hd;refine⟨_,rfl,?_⟩;refine sk ?_;refine sk ?_;refine sk ?_;refine sk ?_;refine wpList_nil ?_
      first
       | (rename_i hK;refine hK _ _ ?_;clear hK)
       | (rename_i hK zK;refine hK _ _ ?_;clear hK)
      go_wp2_with fail
      go_ret3
      exact⟨⟨_,_,_,rfl,.inr ⟨Hb.out,rfl⟩⟩,blw_up HB1.out HV.out⟩
     ·have d1:decide (p.at_≤q.at_)=true:=by simp;omega
      by_cases hk:q.at_≤p.at_
      ·have d3:decide (q.at_≤p.at_)=true:=by simp;omega
       have hb:besideOf p q=none:=by unfold besideOf;simp[h1,h2,h3,h4];omega
       have Hb:=hide hb;clear hb h1 h2 h3 h4 hj hk
       go_wp2_with fail
       go_ret3
       exact⟨⟨_,_,_,rfl,.inl ⟨Hb.out,rfl⟩⟩,HB1.out⟩
      ·have d3:decide (q.at_≤p.at_)=false:=by simp;omega
       have d2:decide (q.at_<p.at_)=false:=by simp;omega
       have hb:besideOf p q=some (q.at_-p.up,p.at_):=by unfold besideOf;simp[h1,h2,h3,h4];omega
       have Hb:=hide hb;clear hb h1 h2 h3 h4 hj hk
       go_upto_region 14 with fail
       refine wp_region_lit ?_;refine sk ?_;refine sk (v:= .func (.func 229) #[] #[]) ?_;refine gl ?_ HN1.out.c Tryz.underlying30 infoEd;refine gc (besideUp (e:=p) (y:=x)) ?_;rintro ee V1 ⟨rfl,hd⟩;have HV:=hide hd;clear hd;refine⟨_,rfl,?_⟩;refine sk ?_;refine sk ?_;refine sk ?_;refine sk ?_;refine sk ?_;refine wpList_nil ?_
       first
        | (rename_i hK;refine hK _ _ ?_;clear hK)
        | (rename_i hK zK;refine hK _ _ ?_;clear hK)
       go_wp2_with fail
       go_ret3
       exact⟨⟨_,_,_,rfl,.inr ⟨Hb.out,rfl⟩⟩,blw_up HB1.out HV.out⟩
end
end Go.Proofs.YtialngdffhmobaaGreatDoor
