/- Part 4 of what mgTop rests on. -/
import Derived.Test.YtialngdffhmobaaGreatDoorProg
import Derived.Deep.MidRow
import Derived.Laws.IdiomCopy
import Derived.Test.YtialngdffhmobaaGreatDoorU01
import Derived.Test.YtialngdffhmobaaGreatDoorU00
set_option linter.unusedVariables false
set_option linter.unusedSimpArgs false
set_option maxHeartbeats 16000000
set_option maxRecDepth 1000000
namespace Go.Proofs.YtialngdffhmobaaGreatDoor
def underP(a b:List Int):Prop:=b <+: a
instance (a b:List Int):Decidable (underP a b):=by unfold underP;infer_instance
def thru(x l:List Int)(f:Int→Int):List Int:=if underP x l then x.modify l.length f else x
def upOf(at_ k:Int):Int:=if at_≤k then k+1 else k
def downOf(at_ k:Int):Int:=if at_<k then k-1 else k
def insertedP(x l:List Int)(at_:Int):List Int:=thru x l (upOf at_)
def deletedP(x l:List Int)(at_:Int):Option (List Int):=if underP x l∧x[l.length]?=some at_ then none else some (thru x l (downOf at_))
def movedP(x l:List Int)(frm to:Int):List Int:=thru x l fun k=>if k=frm then to else upOf to (downOf frm k)
section
open Go.RowKit
theorem or32_low :∀c:Fin 256,(97≤(c.val ||| 32)∧(c.val ||| 32)≤122)↔((97≤c.val∧c.val≤122)∨(65≤c.val∧c.val≤90)):=by decide +kernel
theorem or32_u8(c:UInt8):bits .or .u8 (c.toNat:Int) 32=((c.toNat ||| 32:Nat):Int):=by
 have h :∀c:Fin 256,bits .or .u8 (c.val:Int) 32=((c.val ||| 32:Nat):Int):=by decide +kernel
 exact h ⟨c.toNat,c.toNat_lt⟩
theorem or32_iff(c:UInt8):(97≤(c.toNat ||| 32)∧(c.toNat ||| 32)≤122)↔((97≤c.toNat∧c.toNat≤122)∨(65≤c.toNat∧c.toNat≤90)):=or32_low ⟨c.toNat,c.toNat_lt⟩
theorem letter_any(c:UInt8)(w:World):Calls Tryz.prog 176 #[.int .u8 c.toNat] w fun e w'=>RetB (Letter c) e∧w=w':=by
 have h1:=or32_u8 c;have h2:=hide (or32_iff c);generalize c.toNat ||| 32=m at h1 h2;go_enter Tryz.func176,Tryz.ntmps176
 go_wp2
 all_goals go_ret
 all_goals exact⟨RetB.mk (by have:=h2.out;unfold Letter;simp;try omega),rfl⟩
theorem wordy_any(c:UInt8)(w:World):Calls Tryz.prog 179 #[.int .u8 c.toNat] w fun e w'=>RetB (Letter c∨Digit c) e∧w=w':=by
 go_enter Tryz.func179,Tryz.ntmps179
 go_wp2_with(go_at_call 176;refine(letter_any c _).mono ?_;rintro e w' ⟨⟨b,rfl,hb⟩,rfl⟩;have Hb:=hide hb;clear hb)
 all_goals(go_ret;go_tidy;exact⟨RetB.mk (by rw[←Hb.out];unfold Digit;simp[*];try omega),rfl⟩)
theorem fileChar_any(c:UInt8)(w:World):Calls Tryz.prog 111 #[.int .u8 c.toNat] w fun e w'=>RetB (FileChar c) e∧w=w':=by
 have h1:=or32_u8 c;have h2:=hide (or32_iff c);generalize c.toNat ||| 32=m at h1 h2;go_enter Tryz.func111,Tryz.ntmps111
 go_wp2
 all_goals go_ret
 all_goals exact⟨RetB.mk (by have:=h2.out;unfold FileChar Digit;simp;try omega),rfl⟩
theorem all_step{s:ByteArray}{P:UInt8→Prop}{k:Nat}(h :∀j,j<k→(h':j<s.size)→P (s[j]))(hk:k<s.size)(hp:P s[k]):∀j,j<k+1→(h':j<s.size)→P (s[j]):=by
 intro j hj h';rcases Nat.lt_or_ge j k with h1|h1
 ·exact h j h1 h'
 ·obtain rfl:j=k:=by omega
  exact hp
theorem all_done{s:ByteArray}{P:UInt8→Prop}{k:Nat}(h :∀j,j<k→(h':j<s.size)→P (s[j]))(hk :¬k<s.size):∀c∈s.data.toList,P c :=
 all_idx fun j h'=>h j (by omega) h'
theorem fileName_end{s:ByteArray}(h :∀c∈s.data.toList,FileChar c):FileName s↔1≤s.size∧s.size≤24:=by unfold FileName;exact⟨fun h=>⟨h.1,h.2.1⟩,fun h'=>⟨h'.1,h'.2,h⟩⟩
theorem patchName_any(s:ByteArray)(w:World)(hs:s.size≤9223372036854775807):Calls Tryz.prog 37 #[.string s] w fun e w'=>RetB (FileName s) e∧w=w':=by
 go_enter Tryz.func37,Tryz.ntmps37
 go_wp2_with fail
 go_loop [7,4] (fun i _=>∃k:Nat,k≤s.size∧i = .int .i64 k∧Hid (∀j,(h:j<k)→(h':j<s.size)→FileChar (s[j]))) (fun i _=>s.size-(intOf i).toNat)
 case atStart=>exact⟨0,Nat.zero_le _,rfl,hide (fun j h=>absurd h (by omega))⟩
 case round =>
  obtain⟨k,hk,rfl,hall⟩:=hrel;by_cases hlt:k<s.size
  ·go_wp2_with(go_at_call 111;refine(fileChar_any s[k] _).mono ?_;rintro e w' ⟨⟨_|_,rfl,hb⟩,rfl⟩<;>(have Hb:=hide hb;clear hb))
   ·go_ret;exact⟨RetB.no fun h=>(by simpa using Hb.out :¬FileChar s[k]) (h.2.2 _ (mem_idx s k hlt)),rfl⟩
   ·go_round
    case rel=>exact⟨k+1,by omega,by go_num,hide (all_step hall.out hlt (by simpa using Hb.out))⟩
    case measure=>simp[intOf];omega
  ·have H:=hide (all_done hall.out hlt);clear hall
   go_wp2_with fail
   all_goals(go_ret;go_tidy;exact⟨RetB.mk (by rw[fileName_end H.out];have hz:=size_nil s;clear H;grind),rfl⟩)
end
section
open Go.RowKit
structure Bx(wx:World)(N:Nat)(us:List Value):Prop where
 c:wx.rangeAt N 0 us
 f :∀o,wx.frozen? ⟨N,o,none⟩=false
 lt:N<wx.heap.size
theorem bx_heap(b:Nat){k:Nat}(hk:k≠b):∀(vs:List Value) (o:Nat) (w:World),(w.setCells b o vs).heap[k]?=w.heap[k]?
 | [],_,_=>rfl
 | v::r,o,w=>by rw[World.setCells,bx_heap b hk r,Below.heap_setCell _ _ _ k hk]
theorem bx_size(b:Nat):∀(vs:List Value) (o:Nat) (w:World),(w.setCells b o vs).heap.size=w.heap.size
 | [],_,_=>rfl
 | v::r,o,w=>by rw[World.setCells,bx_size b r];simp[World.setCell]
theorem bx_below{B b:Nat}(hb:B≤b):∀(vs:List Value) (o:Nat) {w w':World},Below B w w'→Below B w (w'.setCells b o vs)
 | [],_,_,_,h=>h
 | v::r,o,_,_,h=>bx_below hb r (o+1) (h.setCell (p:=⟨b,o,none⟩) hb v)
section
variable {w wx w1 : World} {N M : Nat} {us vs : List Value}
theorem Bx.new(w:World)(us:List Value)(t:TypeId):Bx (w.alloc (.cells us.toArray t)) w.heap.size us :=
 ⟨fun j v hv=>by rw[Lib.cell_of_heap (heap_alloc_new w _),Nat.zero_add];simpa using hv,fun o=>by unfold World.frozen?;rw[heap_alloc_new];simp,by simp⟩
theorem Bx.keep(h:Bx wx N us)(hb:w1.heap[N]?=wx.heap[N]?)(hs:wx.heap.size≤w1.heap.size):Bx w1 N us :=
 ⟨fun j v hv=>(World.cell?_of_block (a:=⟨N,0+j,none⟩) hb).trans (h.c j v hv),fun o=>by have:=h.f o;unfold World.frozen? at this⊢;rw[hb];exact this,Nat.lt_of_lt_of_le h.lt hs⟩
theorem Bx.call(h:Bx wx N us)(hB:Below wx.heap.size wx w1):Bx w1 N us:=h.keep (hB.block N h.lt) hB.size
theorem Bx.alloc(h:Bx wx N us)(o:Obj):Bx (wx.alloc o) N us:=h.call (below_alloc wx o)
theorem Bx.drew(h:Bx wx N us):Bx wx.drew N us:=⟨h.c,h.f,h.lt⟩
theorem Bx.off(h:Bx wx N us)(hN:N≠M)(o:Nat)(vs:List Value):Bx (wx.setCells M o vs) N us:=h.keep (bx_heap M hN vs o wx) (by rw[bx_size];exact Nat.le_refl _)
theorem Bx.cell(h:Bx wx N us)(j:Nat){v:Value}(hv:us[j]?=some v:=by rfl):wx.cell? ⟨N,j,none⟩=some v:=by have:=h.c j v hv;rwa [Nat.zero_add]at this
theorem Bx.put(h:Bx wx N us)(o:Nat)(vs:List Value)(ho:o+vs.length≤us.length):Bx (wx.setCells N o vs) N (us.take o++vs++us.drop (o+vs.length)):=by
 refine⟨?_,fun q=>by rw[World.frozen?_setCells];exact h.f q,by rw[bx_size];exact h.lt⟩;intro j u hj;rw[Nat.zero_add];have hl:(us.take o).length=o:=by simp;omega
 by_cases h1:j<o
 ·rw[World.cell?_setCells_out N vs o wx ⟨N,j,none⟩ (fun _ _=> .inl h1)];rw[List.append_assoc,List.getElem?_append_left (by omega),List.getElem?_take,if_pos h1]at hj;exact h.cell j hj
 ·by_cases h2:j<o+vs.length
  ·have h3:=World.cell?_setCells_in N vs o wx (fun i hi=>by
    have:us[o+i]?=some us[o+i]:=List.getElem?_eq_getElem (by omega);rw[h.cell _ this];rfl) (j-o) (by omega)
   rw[show o+(j-o)=j by omega]at h3;rw[h3];rw[List.append_assoc,List.getElem?_append_right (by omega),hl,List.getElem?_append_left (by omega),List.getElem?_eq_getElem (by omega)]at hj;exact hj
  ·rw[World.cell?_setCells_out N vs o wx ⟨N,j,none⟩ (fun _ _=> .inr (by show o+vs.length≤j;omega))];rw[List.append_assoc,List.getElem?_append_right (by omega),hl,List.getElem?_append_right (by omega),List.getElem?_drop]at hj;rw[show o+vs.length+(j-o-vs.length)=j by omega]at hj;exact h.cell j hj
theorem Bx.puts(h:Bx wx N us)(o:Nat)(vs us':List Value)(ho:o+vs.length≤us.length)(he:us.take o++vs++us.drop (o+vs.length)=us':=by rfl):Bx (wx.setCells N o vs) N us':=he▸h.put o vs ho
theorem Bx.th(h:Bx wx N us){o n:Nat}(hn:o+n≤us.length):wx.there N o n:=fun j hj=>by
 have hv:us[o+j]?=some (us[o+j]'(by omega)):=List.getElem?_eq_getElem (by omega);exact⟨by rw[h.cell _ hv];rfl,h.f _⟩
theorem Bx.sub{pre mid post:List Value}(h:Bx wx N (pre++(mid++post))):wx.rangeAt N pre.length mid:=fun j v hv =>
 h.cell (pre.length+j) (by rw[List.getElem?_append_right (by omega),Nat.add_sub_cancel_left,List.getElem?_append_left (by have:=(List.getElem?_eq_some_iff.1 hv).1;omega)];exact hv)
theorem Bx.eq(h:Bx wx N us)(he:us=vs):Bx wx N vs:=he▸h
end
theorem exec_load_range{P:Program}{a:Act}{op:Oper}{ty:TypeId}{x:Operand}{b o:Nat}{cs:List Value}{d:TypeDesc}{w:World}(ho:op.op = .load ty x)(hx:a.eval x = .pointer (some ⟨b,o,none⟩))(hc:w.rangeAt b o cs)
  (hu:P.underlying ty=some d) (hd:d.isRow=true) (hi:(P.info? ty).map (·.size)=some cs.length):(execOp a.eval op).run P w = .ok (.value (.agg cs.toArray)) w:=by
 unfold execOp;simp only[ho,hx,Instr.loadAt,Instr.sureAddr,Sem.run_bind,Sem.run_pure,Result.andThen_ok,run_loadVar_mid w b o ty cs d hc hu hd hi]
theorem mapM_one1{P:Program}{W:World}(f:ResultVar→Sem Value)(r0:ResultVar)(v0:Value)(h0:(f r0).run P W = .ok v0 W):((#[r0].mapM f).run P W) = .ok #[v0] W:=by
 simp[go_sem,h0]
theorem box_result{P:Program}{fn:Func}{n ty:Nat}{T:Array Value}{W:World}{p:Nat}{cs:List Value}{d:TypeDesc}(hf:fn.results=#[.cell n ty])(hr:W.rangeAt p 0 cs)(hu:P.underlying ty=some d)(hi:(P.info? ty).map (·.size)=some cs.length)
  (hd:d.isRow=true:=by rfl) (h:T[n]?=some (.pointer (some ⟨p,0,none⟩)):=by rfl):(results fn T).run P W = .ok (.agg cs.toArray) W:=by
 have hg:T.getD n undef = .pointer (some ⟨p,0,none⟩):=by rw[Array.getD_eq_getD_getElem?,h];rfl
 unfold results;rw[Sem.run_bind,hf,mapM_one1 _ _ (.agg cs.toArray)]
 ·rfl
 ·show((asAddr (T.getD n undef)) >>= fun a=>loadVar ty a).run P W=_;rw[hg,Sem.run_bind];simp only[asAddr,Sem.run_pure,Result.andThen_ok];exact run_loadVar_mid W p 0 ty cs d hr hu hd hi
section
variable {P : Program} {ops : Array Oper} {Q : Exit → Act → World → Prop} {o : Oper} {rest : List Oper} {n : Nat} {L L' : List Value} {df : List Deferred} {w : World} {v : Value}
theorem gc{f:FuncId}{args:Array Value}{post:Ending→World→Prop}(hc:Calls P f args w post)(h :∀e w',post e w'→∃u,e = .returned u∧wpList P ops Q rest ⟨(L.set n u).toArray,df⟩ w')
  (he:(execOp (Act.mk L.toArray df).eval o).run P w = .ok (.enter f args) w:=by first|(go_simp;done)|(go_simp;with_reducible rfl)) (hd:o.dst=some n:=by rfl)
  (hw:Region.wanted o (yielded ops L.toArray)=true:=by rfl):wpList P ops Q (o::rest) ⟨L.toArray,df⟩ w:=by
 unfold wpList;rw[if_pos hw];refine .inl ?_;unfold Oper.wp;rw[he];show Calls P f args w _;refine Calls.mono hc fun e w' hp=>?_;obtain⟨u,rfl,h2⟩:=h e w' hp;have e2:(Act.mk L.toArray df).put o.dst u=⟨(L.set n u).toArray,df⟩:=by rw[hd];simp[Act.put]
 show wpList P ops Q rest ((Act.mk L.toArray df).put o.dst u) w';rw[e2];exact h2
theorem gc0{f:FuncId}{args:Array Value}{post:Ending→World→Prop}(hc:Calls P f args w post)(h :∀e w',post e w'→∃u,e = .returned u∧wpList P ops Q rest ⟨L.toArray,df⟩ w')
  (he:(execOp (Act.mk L.toArray df).eval o).run P w = .ok (.enter f args) w:=by first|(go_simp;done)|(go_simp;with_reducible rfl)) (hd:o.dst=none:=by rfl)
  (hw:Region.wanted o (yielded ops L.toArray)=true:=by rfl):wpList P ops Q (o::rest) ⟨L.toArray,df⟩ w:=by
 unfold wpList;rw[if_pos hw];refine .inl ?_;unfold Oper.wp;rw[he];show Calls P f args w _;refine Calls.mono hc fun e w' hp=>?_;obtain⟨u,rfl,h2⟩:=h e w' hp;have e2:(Act.mk L.toArray df).put o.dst u=⟨L.toArray,df⟩:=by rw[hd];rfl
 show wpList P ops Q rest ((Act.mk L.toArray df).put o.dst u) w';rw[e2];exact h2
theorem gl{ty:TypeId}{x:Operand}{b off:Nat}{cs:List Value}{d:TypeDesc}(h:wpList P ops Q rest ⟨L'.toArray,df⟩ w)(hc:w.rangeAt b off cs)
  (hu:P.underlying ty=some d) (hi:(P.info? ty).map (·.size)=some cs.length) (ho:o.op = .load ty x:=by rfl) (hx:(Act.mk L.toArray df).eval x = .pointer (some ⟨b,off,none⟩):=by rfl) (hd2:d.isRow=true:=by rfl) (hd:o.dst=some n:=by rfl)
  (hL:L.set n (.agg cs.toArray)=L':=by(try simp only[List.set_cons_zero,List.set_cons_succ]);rfl) (hw:Region.wanted o (yielded ops L.toArray)=true:=by rfl):wpList P ops Q (o::rest) ⟨L.toArray,df⟩ w :=
 sk h hd (exec_load_range ho hx hc hu hd2 hi) hL hw
theorem gs{ty:TypeId}{x y:Operand}{b off:Nat}{cells:Array Value}(h:wpList P ops Q rest ⟨L.toArray,df⟩ (w.setCells b off cells.toList))(ht:w.there b off cells.size)(hi:(P.info? ty).map (·.size)=some cells.size)(h1:cells.all (·.oneCell')=true)
  (ho:o.op = .store ty x y:=by rfl) (hx:(Act.mk L.toArray df).eval x = .pointer (some ⟨b,off,none⟩):=by rfl) (hy:(Act.mk L.toArray df).eval y = .agg cells:=by rfl) (hd:o.dst=none:=by rfl)
  (hw:Region.wanted o (yielded ops L.toArray)=true:=by rfl):wpList P ops Q (o::rest) ⟨L.toArray,df⟩ w:=by
 unfold wpList;rw[if_pos hw];refine .inl (wp_store_mid ty x y ho b off cells hx hy ht hi h1 ?_);rw[hd];exact h
theorem gw{w':World}(h:wpList P ops Q rest ⟨L'.toArray,df⟩ w')(hd:o.dst=some n:=by rfl)
  (hy:(execOp (Act.mk L.toArray df).eval o).run P w = .ok (.value v) w':=by first|(go_simp;done)|(go_simp;with_reducible rfl)|(go_simp;exact⟨rfl,rfl⟩))
  (hL:L.set n v=L':=by(try simp only[List.set_cons_zero,List.set_cons_succ]);rfl)
  (hw:Region.wanted o (yielded ops L.toArray)=true:=by rfl):wpList P ops Q (o::rest) ⟨L.toArray,df⟩ w:=by
 unfold wpList;rw[if_pos hw];refine .inl ?_;unfold Oper.wp;rw[hy];have e:(Act.mk L.toArray df).put o.dst v=⟨L'.toArray,df⟩:=by rw[hd,←hL];simp[Act.put]
 show wpList P ops Q rest ((Act.mk L.toArray df).put o.dst v) w';rw[e];exact h
end
end
def Ed.inv(e:Ed):Ed :=
 if e.kind=5 then⟨5,e.path,e.far,e.at_,e.to,e.frm,e.old,e.new⟩
 else if e.kind=2 then⟨3,e.path,e.at_,e.far,e.to,e.frm,e.new,e.old⟩
 else if e.kind=3 then⟨2,e.path,e.at_,e.far,e.to,e.frm,e.new,e.old⟩
 else⟨e.kind,e.path,e.at_,e.far,e.to,e.frm,e.new,e.old⟩
def Pt.inv(p:Pt):Pt :=
 if p.kind=1 then⟨2,p.file,p.text,p.hunk,p.edit⟩
 else if p.kind=2 then⟨1,p.file,p.text,p.hunk,p.edit⟩
 else if p.kind=3 then⟨3,p.file,p.text,⟨p.hunk.at_,p.hunk.new,p.hunk.old⟩,p.edit⟩
 else⟨p.kind,p.file,p.text,p.hunk,p.edit.inv⟩
theorem EdOk.inv{e:Ed}(h:EdOk e):EdOk e.inv:=by
 obtain⟨kd,path,at_,far,frm,tto,old,new⟩:=e;obtain⟨hp,h|h|h|h|h⟩:=h
 ·obtain⟨rfl,h1,h2,h3,h4,h5,h6,h7,h8⟩:=h;exact⟨hp,.inl ⟨rfl,h1,h2,h4,h3,h5,h7,h6,fun e=>h8 e.symm⟩⟩
 ·obtain⟨rfl,h1,h2,h3,h4,h5,h6⟩:=h;exact⟨hp,.inr (.inr (.inl ⟨rfl,h1,h3,h2,h4,h5,h6⟩))⟩
 ·obtain⟨rfl,h1,h2,h3,h4,h5,h6⟩:=h;exact⟨hp,.inr (.inl ⟨rfl,h1,h3,h2,h4,h5,h6⟩)⟩
 ·obtain⟨rfl,h1,h2,h3,h4,h5,h6,h7,h8⟩:=h;exact⟨hp,.inr (.inr (.inr (.inl ⟨rfl,h1,h2,h4,h3,h5,h7,h6,fun e=>h8 e.symm⟩)))⟩
 ·obtain⟨rfl,h1,h2,h3,h4,h5,h6,h7⟩:=h;exact⟨hp,.inr (.inr (.inr (.inr ⟨rfl,h2,h1,h3,h5,h4,fun e=>h6 e.symm,h7⟩)))⟩
theorem PtOk.inv{p:Pt}(h:PtOk p):PtOk p.inv:=by
 obtain⟨kd,file,text,hunk,edit⟩:=p;obtain⟨hf,⟨hk|hk,h1,h2⟩|⟨hk,h1,h2,h3,h4,h5,h6,h7⟩|⟨hk,h1,h2,h3⟩⟩:=h
 ·simp only at hk;subst hk;exact⟨hf,.inl ⟨.inr rfl,h1,h2⟩⟩
 ·simp only at hk;subst hk;exact⟨hf,.inl ⟨.inl rfl,h1,h2⟩⟩
 ·simp only at hk;subst hk;exact⟨hf,.inr (.inl ⟨rfl,h1,h2,h3,h4,h6,h5,fun e=>h7 e.symm⟩)⟩
 ·simp only at hk;subst hk;exact⟨hf,.inr (.inr ⟨rfl,h1,h2,h3.inv⟩)⟩
section
open Go.RowKit
def Cells(w:World)(N:Nat)(vs:List Value):Prop:=∀j u,vs[j]?=some u→w.cell? ⟨N,j,none⟩=some u
theorem Cells.of_eq{w w':World}{N:Nat}{vs:List Value}(h:Cells w N vs)(he :∀o,w'.cell? ⟨N,o,none⟩=w.cell? ⟨N,o,none⟩):Cells w' N vs:=fun j u hu=>(he j).trans (h j u hu)
theorem keep_setCells(b:Nat){P:Nat→Prop}(hP :¬P b):∀(vs:List Value) (o:Nat) (w:World),Keep P w (w.setCells b o vs)
 | [],_,w=>Keep.refl _ _
 | v::r,o,w=>Keep.trans ((Keep.refl P w).setCell (a:=⟨b,o,none⟩) hP v) (keep_setCells b hP r (o+1) (w.setCell ⟨b,o,none⟩ v))
theorem size_setCells(b:Nat):∀(vs:List Value) (o:Nat) (w:World),(w.setCells b o vs).heap.size=w.heap.size
 | [],_,_=>rfl
 | v::r,o,w=>by rw[World.setCells,size_setCells b r];simp[World.setCell]
theorem puts{w:World}{N:Nat}{us:List Value}(hu:Cells w N us)(o:Nat)(vs:List Value)(ho:o+vs.length≤us.length):
  ∃wF,wF=w.setCells N o vs∧Cells wF N (us.take o++vs++us.drop (o+vs.length))∧(∀M,M≠N→∀q,wF.cell? ⟨M,q,none⟩=w.cell? ⟨M,q,none⟩)∧(∀P:Nat→Prop,¬P N→Keep P w wF)∧(∀a,wF.frozen? a=w.frozen? a)∧wF.heap.size=w.heap.size:=by
 refine⟨_,rfl,?_,fun M hM q=>World.cell?_setCells_out N vs o w ⟨M,q,none⟩ (fun e _=>absurd e hM),fun P hP=>keep_setCells N hP vs o w,fun a=>World.frozen?_setCells N vs o w a,size_setCells N vs o w⟩;intro j u hj;have hl:(us.take o).length=o:=by simp;omega
 by_cases h1:j<o
 ·rw[World.cell?_setCells_out N vs o w ⟨N,j,none⟩ (fun _ _=> .inl h1)];rw[List.append_assoc,List.getElem?_append_left (by omega),List.getElem?_take,if_pos h1]at hj;exact hu j u hj
 ·by_cases h2:j<o+vs.length
  ·have h3:=World.cell?_setCells_in N vs o w (fun i hi=>by
    have:us[o+i]?=some us[o+i]:=List.getElem?_eq_getElem (by omega);rw[hu _ _ this];rfl) (j-o) (by omega)
   rw[show o+(j-o)=j by omega]at h3;rw[h3];rw[List.append_assoc,List.getElem?_append_right (by omega),hl,List.getElem?_append_left (by omega),List.getElem?_eq_getElem (by omega)]at hj;exact hj
  ·rw[World.cell?_setCells_out N vs o w ⟨N,j,none⟩ (fun _ _=> .inr (by show o+vs.length≤j;omega))];rw[List.append_assoc,List.getElem?_append_right (by omega),hl,List.getElem?_append_right (by omega),List.getElem?_drop]at hj;rw[show o+vs.length+(j-o-vs.length)=j by omega]at hj;exact hu j u hj
end
end Go.Proofs.YtialngdffhmobaaGreatDoor
