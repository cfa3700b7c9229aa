/-
  DiaryWrites, DiaryReads, DiaryBack: the walks.
-/
import Derived.Test.YtabicbgeoiilmaaGreatDoorDry2
import Derived.Test.YtabicbgeoiilmaaGreatDoorDsk9
import Derived.Test.YtabicbgeoiilmaaGreatDoorUse1
section
namespace Go.Proofs.YtabicbgeoiilmaaGreatDoor.Dry
open Go.Vm
theorem print_snd (c:Cm.CmD):(Cm.printF c).2=Cm.checkF c:=by
 unfold Cm.printF;split
 ·rename_i e;exact e.symm
 ·rfl
theorem itoa_ten (n:Int):(10:UInt8)∉Lib.itoa n:=fun h=>by
 have key: ∀u,(10:UInt8)∉Lib.decDigits u:=fun u hu=>absurd (dec_all u 10 hu) (by decide);unfold Lib.itoa at h;split at h
 ·rcases List.mem_cons.1 h with h|h
  ·cases h
  ·exact key _ h
 ·exact key _ h
theorem say_ten (l:List Int):(10:UInt8)∉Cm.sayF l:=fun h=>by
 unfold Cm.sayF at h;obtain ⟨n,_,hn⟩:=List.mem_flatMap.1 h;rcases List.mem_cons.1 hn with hn|hn
 ·cases hn
 ·exact itoa_ten n hn
theorem word_ten (k:Int):(10:UInt8)∉Cm.wordF k:=by
 have key: ∀l∈Cm.wordL,(10:UInt8)∉l:=by decide
 unfold Cm.wordF;cases h:Cm.wordL[(k-1).toNat]? with
 |none=>exact List.not_mem_nil
 |some l=>exact key l (List.mem_of_getElem? h)
theorem text_ten (c:Cm.CmD):(10:UInt8)∉Cm.textF c:=fun h=>by
 unfold Cm.textF at h;rcases List.mem_append.1 h with h|h
 ·exact word_ten _ h
 ·exact say_ten _ h
theorem take_ten {t r:By} (h:(10:UInt8)∉t):(t++10::r).takeWhile (· ≠10)=t:=by
 rw [List.takeWhile_append_of_pos (fun x hx=>by
  have:x≠10:=fun e=>h (e▸hx);simpa using this)]
 simp
theorem line_text {s t r:By} {p:Nat} (hp:p<=s.length) (h:s.drop p=t++10::r) (ht:(10:UInt8)∉t):lineF s p=(t,((p+t.length+1:Nat):Int),0):=by
 unfold lineF;rw [if_neg (by omega),Int.toNat_natCast,h,if_pos (by simp),take_ten ht];simp
theorem line_drop {s t r:By} {p:Nat} (h:s.drop p=t++10::r):s.drop (p+t.length+1)=r:=by
 rw [show p+t.length+1=p+(t.length+1) by omega,<-List.drop_drop,h];simp
theorem tw_split: ∀{l:By},(10:UInt8)∈l->∃r,l=l.takeWhile (· ≠10)++10::r
 |[],h=>by cases h
 |c::l,h=>by
  by_cases e:c=10
  ·subst e;exact ⟨l,by simp⟩
  ·obtain ⟨r,hr⟩:=tw_split (l:=l) (by rcases List.mem_cons.1 h with h|h;exact absurd h.symm e;exact h);refine ⟨r, ?_⟩;rw [List.takeWhile_cons_of_pos (by simpa using e),List.cons_append,<-hr]
theorem line_read {s:By} {a:Int} (h:(lineF s a).2.2=0):0<=a/\a<=s.length/\s.drop a.toNat=(lineF s a).1++10::s.drop (lineF s a).2.1.toNat/\(lineF s a).2.1=a+(lineF s a).1.length+1/\(lineF s a).2.1<=s.length:=by
 unfold lineF at h⊢;split at h
 ·cases h
 ·rename_i c1;rw [if_neg c1];split at h
  ·rename_i c2;rw [if_pos c2];obtain ⟨r,hr⟩:=tw_split c2;have hd:=line_drop (s:=s) (p:=a.toNat) hr;dsimp only;have hl:=congrArg List.length hr;rw [List.length_append,List.length_cons,List.length_drop] at hl;refine ⟨by omega,by omega, ?_,rfl,by omega⟩;rw [show (a+(((s.drop a.toNat).takeWhile (· ≠10)).length:Int)+1).toNat=a.toNat+((s.drop a.toNat).takeWhile (· ≠10)).length+1 by omega,hd];exact hr
  ·cases h
theorem first_text {n:Int} (h0:0<=n) (h1:n<=10000):firstF (logW++Lib.itoa n)=(n,0):=by
 have hl:litF (logW++Lib.itoa n) 0 logW=(4,0):=by
  rw [Cm.lit0,if_pos ((hasPrefix_iff _ _).2 (by simp))];rfl
 have hn:numF (logW++Lib.itoa n) 4 0 10000=(n,4+((Lib.itoa n).length:Int),0):=by
  have hd:(logW++Lib.itoa n).drop (4:Int).toNat=Lib.itoa n++Cm.sayF []:=by simp [Cm.sayF]
  rw [numF_in (by simp;omega),hd,numR_back ⟨by omega,by omega⟩ h0 h1 (fun c hc=>Cm.say_head hc)]
 unfold firstF;rw [hl];dsimp only;rw [hn,if_neg (by decide),if_neg (fun k=>k rfl),if_neg (by simp;omega)]
theorem first_read {s:By} (h:(firstF s).2=0):s=logW++Lib.itoa (firstF s).1:=by
 unfold firstF at h⊢;split at h
 ·rename_i c;exact absurd h c
 ·rename_i c1;rw [if_neg c1];have c1:=Decidable.not_not.1 c1;split at h
  ·rename_i c;exact absurd h c
  ·rename_i c2;rw [if_neg c2];have c2:=Decidable.not_not.1 c2;split at h
   ·cases h
   ·rename_i c3;rw [if_neg c3];dsimp only;rw [Cm.lit0] at c1 c2 c3⊢;split at c1
    ·rename_i hp;rw [if_pos hp] at c2 c3⊢;have hp:=(hasPrefix_iff _ _).1 hp;have hp:s.take 4=logW:=hp;obtain ⟨⟨_,n2⟩,⟨n3,n4⟩,⟨n5,n6⟩,n7,n8,_⟩:=numF_zero c2;generalize (numF s (↑logW.length,0).1 0 10000).1=n at*;generalize (numF s (↑logW.length,0).1 0 10000).2.1=e at*;have e4:((↑(logW:By).length,(0:Int)):Int×Int).1.toNat=4:=rfl;rw [e4,show e.toNat=s.length by omega,List.take_length] at n8;rw [n8,<-hp,List.take_append_drop]
    ·split at c1<;>cases c1
end Go.Proofs.YtabicbgeoiilmaaGreatDoor.Dry
end
section
namespace Go.Proofs.YtabicbgeoiilmaaGreatDoor.Dry
open Go.Vm
abbrev Ok (c:Cm.CmD):Prop:=Cm.checkF c=0/\Cm.InC c
theorem texts_cons {c:Cm.CmD} {r:List Cm.CmD} (h:Cm.checkF c=0):textsL (c::r)=(Cm.textF c,0)::textsL r:=by
 have h1:Cm.printF c=(Cm.textF c,0):=by
  unfold Cm.printF;rw [if_pos h]
 rw [textsL,h1,if_pos rfl]
theorem texts_ok: ∀{L:List Cm.CmD},(textsL L).find? badX=none->∀c∈L,Cm.checkF c=0
 |[],_=>fun _ h=>by cases h
 |c::r,h=>by
  have e:=List.find?_eq_none.1 h (Cm.printF c) (by rw [textsL];exact List.mem_cons_self);have hc:Cm.checkF c=0:=by
   rw [<-print_snd];simpa [badX] using e
  rw [texts_cons hc] at h;intro d hd;rcases List.mem_cons.1 hd with rfl|hd
  ·exact hc
  ·refine texts_ok (L:=r) ?_ d hd;rwa [List.find?_cons_of_neg (by simp [badX])] at h
theorem ok_texts: ∀{L:List Cm.CmD},(∀c∈L,Cm.checkF c=0)->(textsL L).find? badX=none
 |[],_=>rfl
 |c::r,h=>by
  rw [texts_cons (h c List.mem_cons_self),List.find?_cons_of_neg (by simp [badX])];exact ok_texts fun d hd=>h d (List.mem_cons_of_mem _ hd)
theorem enc_zero {L:List Cm.CmD} (h:(encodeF L).2=0):L.length<=10000/\(∀c∈L,Cm.checkF c=0)/\(headF L++bodyF (textsL L)).length<=1000000/\(encodeF L).1=headF L++bodyF (textsL L):=by
 unfold encodeF at h⊢;split at h
 ·cases h
 ·rename_i c1;rw [if_neg c1];split at h
  ·rename_i x hx;have:=List.find?_some hx;simp only [badX,decide_eq_true_eq] at this;exact absurd h this
  ·rename_i hx;split at h
   ·cases h
   ·rename_i c2;refine ⟨by omega,texts_ok hx,by omega, ?_⟩;rw [if_neg c2]
theorem enc_of {L:List Cm.CmD} (h1:L.length<=10000) (h2: ∀c∈L,Cm.checkF c=0) (h3:(headF L++bodyF (textsL L)).length<=1000000):encodeF L=(headF L++bodyF (textsL L),0):=by
 unfold encodeF;rw [if_neg (by omega),ok_texts h2];dsimp only;rw [if_neg (by omega)]
theorem enc_err {L:List Cm.CmD} (h: ¬(encodeF L).2=0):(encodeF L).1=[]:=by
 unfold encodeF at h⊢;split
 ·rfl
 ·rename_i c1;rw [if_neg c1] at h;split
  ·rfl
  ·rename_i hx;rw [hx] at h;split
   ·rfl
   ·rename_i c2;dsimp only at h;rw [if_neg c2] at h;exact absurd rfl h
theorem body_cons (c:Cm.CmD) (r:List Cm.CmD) (h:Cm.checkF c=0):bodyF (textsL (c::r))=Cm.textF c++10::bodyF (textsL r):=by
 rw [texts_cons h];simp [bodyF]
theorem go_text {s:By}: ∀(L acc:List Cm.CmD) (p:Nat),(∀c∈L,Ok c)->p<=s.length->s.drop p=bodyF (textsL L)->decGo s L.length p acc=(acc++L,((acc++L).length:Int),0)
 |[],acc,p,_,hp,h=>by
  have hl:=congrArg List.length h;rw [List.length_drop] at hl;simp only [textsL,bodyF,List.flatMap_nil,List.length_nil] at hl;rw [List.length_nil,decGo,if_neg (by omega),List.append_nil]
 |c::r,acc,p,hc,hp,h=>by
  obtain ⟨c1,c2⟩:=hc c List.mem_cons_self;rw [body_cons c r c1] at h;have hl:=congrArg List.length h;rw [List.length_drop,List.length_append,List.length_cons] at hl;rw [List.length_cons,decGo,line_text hp h (text_ten c)];dsimp only;rw [Cm.text_back c1 c2,if_neg (fun k=>k rfl),if_neg (fun k=>k rfl)];have:=go_text r (acc++[c]) (p+(Cm.textF c).length+1) (fun d hd=>hc d (List.mem_cons_of_mem _ hd)) (by omega) (line_drop h);rw [this,List.append_assoc];rfl
theorem head_ten (n:Int):(10:UInt8)∉logW++Lib.itoa n:=fun h=>by
 rcases List.mem_append.1 h with h|h
 ·revert h;decide
 ·exact itoa_ten n h
theorem back_law {L:List Cm.CmD} (hI: ∀c∈L,Cm.InC c) (h:(encodeF L).2=0):decodeF (encodeF L).1=(L,(L.length:Int),0):=by
 obtain ⟨h1,h2,h3,h4⟩:=enc_zero h;rw [h4];obtain ⟨s,hs⟩: ∃s,headF L++bodyF (textsL L)=s:=⟨_,rfl⟩
 rw [hs] at h3⊢;have hd:s.drop 0=(logW++Lib.itoa L.length)++10::bodyF (textsL L):=by
  rw [List.drop_zero,<-hs];simp [headF]
 have hln:=line_text (Nat.zero_le _) hd (head_ten _);have hdr:=line_drop hd;have hl:=congrArg List.length hd;rw [List.length_drop,List.length_append,List.length_cons] at hl;unfold decodeF;rw [if_neg (by omega)];have e0:lineF s 0=lineF s ((0:Nat):Int):=rfl;rw [e0,hln];dsimp only;rw [first_text (by omega) (by omega),if_neg (fun k=>k rfl),if_neg (fun k=>k rfl)];have:=go_text L [] (0+(logW++Lib.itoa L.length).length+1) (fun c hc=>⟨h2 c hc,hI c hc⟩) (by omega) hdr;dsimp only;rw [Int.toNat_natCast,this,List.nil_append]
theorem go_read {s:By}: ∀(k:Nat) (a:Int) (acc:List Cm.CmD),0<=a->a<=s.length->(decGo s k a acc).2.2=0->∃L,L.length=k/\decGo s k a acc=(acc++L,((acc++L).length:Int),0)/\(∀c∈L,Ok c)/\s.drop a.toNat=bodyF (textsL L)
 |0,a,acc,h0,h1,h=>by
  rw [decGo] at h⊢;split at h
  ·cases h
  ·rename_i c;refine ⟨[],rfl,by rw [if_neg c,List.append_nil],fun _ hc=>(List.not_mem_nil hc).elim, ?_⟩;rw [List.drop_eq_nil_of_le (by omega)];rfl
 |k+1,a,acc,h0,h1,h=>by
  rw [decGo] at h⊢;split at h
  ·rename_i c;exact absurd h c
  ·rename_i c1;rw [if_neg c1];split at h
   ·rename_i c;exact absurd h c
   ·rename_i c2;rw [if_neg c2];obtain ⟨_,_,l3,l4,l5⟩:=line_read (Decidable.not_not.1 c1);obtain ⟨r1,r2,r3⟩:=Cm.read_back (Decidable.not_not.1 c2);generalize (Cm.cparseF (lineF s a).1).1=c at*;obtain ⟨L,g1,g2,g3,g4⟩:=go_read k (lineF s a).2.1 (acc++[c]) (by omega) l5 h;refine ⟨c::L,by rw [List.length_cons,g1], ?_, ?_, ?_⟩
    ·rw [g2,List.append_assoc];rfl
    ·intro d hd;rcases List.mem_cons.1 hd with rfl|hd
     ·exact ⟨r1,r3⟩
     ·exact g3 d hd
    ·rw [body_cons c L r1,l3,g4,r2]
theorem go_err {s:By}: ∀(k:Nat) (a:Int) (acc:List Cm.CmD),¬(decGo s k a acc).2.2=0->(decGo s k a acc).1=[]
 |0,a,acc,h=>by
  rw [decGo] at h⊢;split
  ·rfl
  ·rename_i c;rw [if_neg c] at h;exact absurd rfl h
 |k+1,a,acc,h=>by
  rw [decGo] at h⊢;split
  ·rfl
  ·rename_i c1;rw [if_neg c1] at h;split
   ·rfl
   ·rename_i c2;rw [if_neg c2] at h;exact go_err k _ _ h
theorem dec_err {s:By} (h: ¬(decodeF s).2.2=0):(decodeF s).1=[]:=by
 unfold decodeF at h⊢;split
 ·rfl
 ·rename_i c1;rw [if_neg c1] at h;split
  ·rfl
  ·rename_i c2;rw [if_neg c2] at h;split
   ·rfl
   ·rename_i c3;rw [if_neg c3] at h;exact go_err _ _ _ h
theorem read_law {s:By} (h:(decodeF s).2.2=0):encodeF (decodeF s).1=(s,0)/\(decodeF s).2.1=((decodeF s).1.length:Int)/\(∀c∈(decodeF s).1,Ok c)/\(decodeF s).1.length<=10000:=by
 unfold decodeF at h⊢;split at h
 ·cases h
 ·rename_i c1;rw [if_neg c1];split at h
  ·rename_i c;exact absurd h c
  ·rename_i c2;rw [if_neg c2];split at h
   ·rename_i c;exact absurd h c
   ·rename_i c3;rw [if_neg c3];obtain ⟨_,_,l3,l4,l5⟩:=line_read (Decidable.not_not.1 c2);have c3:=Decidable.not_not.1 c3;have f1:=first_read c3;obtain ⟨f2,f3⟩:=first_in c3;obtain ⟨L,g1,g2,g3,g4⟩:=go_read _ _ _ (by omega) l5 h;have hs:s=headF L++bodyF (textsL L):=by
     rw [f1,g4] at l3;rw [show (0:Int).toNat=0 from rfl,List.drop_zero] at l3;rw [l3];have:((firstF (lineF s 0).1).1:Int)=(L.length:Int):=by omega
     rw [this];simp [headF]
    rw [g2,List.nil_append];dsimp only;refine ⟨?_,rfl,g3,by omega⟩;rw [enc_of (by omega) (fun c hc=>(g3 c hc).1) (by rw [<-hs];omega),<-hs]
theorem dec_ok (s:By):(∀c∈(decodeF s).1,Ok c)/\(decodeF s).1.length<=10000:=by
 by_cases h:(decodeF s).2.2=0
 ·obtain ⟨_,_,h3,h4⟩:=read_law h;exact ⟨h3,h4⟩
 ·rw [dec_err h];exact ⟨fun _ h=>(by cases h),by simp⟩
theorem tw_len: ∀(u v:By),((u++10::v).takeWhile (· ≠10)).length<=u.length
 |[],v=>by simp
 |c::u,v=>by
  rw [List.cons_append,List.takeWhile_cons];split
  ·rw [List.length_cons,List.length_cons];have:=tw_len u v;omega
  ·simp
theorem body_line: ∀(T:List Tx) (a:Nat),(∀x∈T,x.1.length<=10000)->(((bodyF T).drop a).takeWhile (· ≠10)).length<=10000
 |[],a,_=>by simp [bodyF]
 |x::r,a,h=>by
  have e:bodyF (x::r)=x.1++10::bodyF r:=by simp [bodyF]
  rw [e];by_cases ha:a<=x.1.length
  ·rw [List.drop_append_of_le_length ha];have h1:=tw_len (x.1.drop a) (bodyF r);have h2:=h x List.mem_cons_self;rw [List.length_drop] at h1;omega
  ·have e2:(x.1++10::bodyF r).drop a=(bodyF r).drop (a-x.1.length-1):=by
    rw [List.drop_append,List.drop_eq_nil_of_le (by omega),List.nil_append];obtain ⟨b,hb⟩: ∃b,a-x.1.length=b+1:=⟨a-x.1.length-1,by omega⟩
    rw [hb,List.drop_succ_cons];rfl
   rw [e2];exact body_line r _ (fun y hy=>h y (List.mem_cons_of_mem _ hy))
theorem ln_of {s:By} (h: ∀a:Nat,((s.drop a).takeWhile (· ≠10)).length<=10000):LnOk s:=fun a=>by
 unfold lineF;split
 ·simp
 ·split
  ·exact h _
  ·simp
theorem ln_short {s:By} (h:s.length<=10000):LnOk s:=ln_of fun a=>by
 have:=while_len s a;omega
theorem ln_enc {L:List Cm.CmD} (hI: ∀c∈L,Cm.InC c):LnOk (encodeF L).1:=by
 by_cases h:(encodeF L).2=0
 ·obtain ⟨h1,_,_,h4⟩:=enc_zero h;rw [h4];have e:headF L++bodyF (textsL L)=bodyF ((logW++Lib.itoa L.length,0)::textsL L):=by simp [headF,bodyF]
  rw [e];refine ln_of fun a=>body_line _ a fun x hx=> ?_;rcases List.mem_cons.1 hx with rfl|hx
  ·have:=itoa_len (n:=(L.length:Int)) ⟨by omega,by omega⟩;simp only [List.length_append,List.length_cons,List.length_nil];omega
  ·have:=texts_in9 hI x hx;omega
 ·rw [enc_err h];exact ln_short (by simp)
end Go.Proofs.YtabicbgeoiilmaaGreatDoor.Dry
end
section
namespace Go.Proofs.YtabicbgeoiilmaaGreatDoor.Dry
open Go.Vm
open Dsk (Bk bk0 repF)
noncomputable def q_enc (L:List Cm.CmD):Prop×V:=((∀c∈L,Cm.InC c), .tuple [.str (encodeF L).1, .int .i64 (encodeF L).2])
noncomputable def sp_encode:FSpec Tryz.prog where
 f:=9
 run:=fun
  |[v0]=>(asL Cm v0:Option (List Cm.CmD)).bind fun L=>some (q_enc L)
  |_=>none
 ok:=fun args pre r h hp=>by
  split at h
  ·rename_i v0;obtain ⟨l,h0,h⟩:=Option.bind_eq_some_iff.1 h;exact of_q h hp fun h=>(enc_pure l h).weak (.cons (asL_weak h0) .nil)
  ·cases h
theorem inl_of {l:List Cm.CmD} (h: ∀c∈l,Cm.InC c):Dsk.InC l:=fun c hc z hz=>(h c hc).2 z hz _ (by simp [Cm.lnL])
abbrev bkN:Bk:=([],Acc.ownL,[],[],[],[])
def repD (s:By):Bk×Int×Int:=if (decodeF s).2.2=0 then repF bkN (decodeF s).1 else (bk0,(decodeF s).2.1,(decodeF s).2.2)
noncomputable def env_replayd (s:By):Env where
 P:=Tryz.prog
 ty:=tys1
 specs:=specsOf [sp_decode,Bks.sp_new,Dsk.sp_replay]
abbrev ann_replayd:Ann:={slots:=numP 0 [.list .part I, .list .part AcT, .list .part LnT, .list .part RTy, .list .part Vl, .list .part EnT, .int .i64, .int .i64],boxes:=[],inv:=fun _ _=>True}
def g_replayd_vc (s:By):Prop:=
 LnOk s/\((!decide ((decodeF s).2.2=(0:Int)))=true->True/\([],[],[],[],[],[],(decodeF s).2.1,(decodeF s).2.2,())=((repD s).1.1,(repD s).1.2.1,(repD s).1.2.2.1,(repD s).1.2.2.2.1,(repD s).1.2.2.2.2.1,(repD s).1.2.2.2.2.2,(repD s).2.1,(repD s).2.2,()))/\((!decide ((decodeF s).2.2=(0:Int)))=false->True/\(Dsk.Szn (500000:Nat) ([],Acc.ownL,[],[],[],[])/\(decodeF s).1.length<=(500000:Nat)/\Dsk.InC (decodeF s).1)/\True/\((repF ([],Acc.ownL,[],[],[],[]) (decodeF s).1).1.1,(repF ([],Acc.ownL,[],[],[],[]) (decodeF s).1).1.2.1,(repF ([],Acc.ownL,[],[],[],[]) (decodeF s).1).1.2.2.1,(repF ([],Acc.ownL,[],[],[],[]) (decodeF s).1).1.2.2.2.1,(repF ([],Acc.ownL,[],[],[],[]) (decodeF s).1).1.2.2.2.2.1,(repF ([],Acc.ownL,[],[],[],[]) (decodeF s).1).1.2.2.2.2.2,(repF ([],Acc.ownL,[],[],[],[]) (decodeF s).1).2.1,(repF ([],Acc.ownL,[],[],[],[]) (decodeF s).1).2.2,())=((repD s).1.1,(repD s).1.2.1,(repD s).1.2.2.1,(repD s).1.2.2.2.1,(repD s).1.2.2.2.2.1,(repD s).1.2.2.2.2.2,(repD s).2.1,(repD s).2.2,()))
theorem g_replayd_eq (s:By):CondG (env_replayd s) Tryz.f14 [.str s] [some 6,none,none] ann_replayd ((repD s).1.1,(repD s).1.2.1,(repD s).1.2.2.1,(repD s).1.2.2.2.1,(repD s).1.2.2.2.2.1,(repD s).1.2.2.2.2.2,(repD s).2.1,(repD s).2.2,())=g_replayd_vc s:=by kernel_rfl
theorem g_replayd_ok (s:By) (h:LnOk s):g_replayd_vc s:=by
 unfold g_replayd_vc;obtain ⟨d1,d2⟩:=dec_ok s;refine ⟨h,fun c=>⟨trivial, ?_⟩,fun c=>⟨trivial,⟨⟨by decide,by decide,by decide,by decide,by decide,by decide,fun _ h=>(List.not_mem_nil h).elim⟩,by omega,inl_of fun c hc=>(d1 c hc).2⟩,trivial, ?_⟩⟩
 ·have e:repD s=(bk0,(decodeF s).2.1,(decodeF s).2.2):=if_neg (by simpa using c);rw [e];rfl
 ·have e:repD s=repF bkN (decodeF s).1:=if_pos (by simpa using c);rw [e]
set_option maxRecDepth 20000
theorem replayd_pure (s:By) (h:LnOk s):Pure Tryz.prog 14 [.str s] (.tuple [.agg [.list .part I ((repD s).1.1), .list .part AcT ((repD s).1.2.1), .list .part LnT ((repD s).1.2.2.1), .list .part RTy ((repD s).1.2.2.2.1), .list .part Vl ((repD s).1.2.2.2.2.1), .list .part EnT ((repD s).1.2.2.2.2.2)], .int .i64 (repD s).2.1, .int .i64 (repD s).2.2]):=
 by have k:=Pure.of_condG (r:=(.tuple [.agg [.list .part I ((repD s).1.1), .list .part AcT ((repD s).1.2.1), .list .part LnT ((repD s).1.2.2.1), .list .part RTy ((repD s).1.2.2.2.1), .list .part Vl ((repD s).1.2.2.2.2.1), .list .part EnT ((repD s).1.2.2.2.2.2)], .int .i64 (repD s).2.1, .int .i64 (repD s).2.2])) (g_replayd_eq s) (g_replayd_ok s h) rfl (specs_ok rfl [sp_decode,Bks.sp_new,Dsk.sp_replay] [] rfl rfl) mixed Tryz.func14;exact k
noncomputable def q_replayd (s:By):Prop×V:=(LnOk s,(.tuple [.agg [.list .part I ((repD s).1.1), .list .part AcT ((repD s).1.2.1), .list .part LnT ((repD s).1.2.2.1), .list .part RTy ((repD s).1.2.2.2.1), .list .part Vl ((repD s).1.2.2.2.2.1), .list .part EnT ((repD s).1.2.2.2.2.2)], .int .i64 (repD s).2.1, .int .i64 (repD s).2.2]))
noncomputable def sp_replayd:FSpec Tryz.prog where
 f:=14
 run:=fun
  |[.str s]=>some (q_replayd s)
  |_=>none
 ok:=fun args pre r h hp=>by
  split at h
  ·rename_i s;exact of_q h hp fun h=>(replayd_pure s h).weak (.cons (.refl _) .nil)
  ·cases h
abbrev stC:List Cm.CmD:=[(1,1,0,0,0,false,false,(0,0),[]),(1,2,0,0,0,false,false,(0,0),[]),(2,0,1,0,0,false,false,(0,0),[]),(2,0,2,0,0,true,false,(0,0),[]),(7,1,0,0,0,false,false,(0,0),[(1,4,0,5),(1,5,0, -5)])]
noncomputable def env_start:Env where
 P:=Tryz.prog
 ty:=tys1
abbrev ann_start:Ann:={slots:=numP 0 [.list .full Cm],boxes:=[],inv:=fun _ _=>True}
def g_start_vc:Prop:=
 True/\([((1:Int),(1:Int),(0:Int),(0:Int),(0:Int),false,false,((0:Int),(0:Int)),[]),((1:Int),(2:Int),(0:Int),(0:Int),(0:Int),false,false,((0:Int),(0:Int)),[]),((2:Int),(0:Int),(1:Int),(0:Int),(0:Int),false,false,((0:Int),(0:Int)),[]),((2:Int),(0:Int),(2:Int),(0:Int),(0:Int),true,false,((0:Int),(0:Int)),[]),((7:Int),(1:Int),(0:Int),(0:Int),(0:Int),false,false,((0:Int),(0:Int)),[((1:Int),(4:Int),(0:Int),(5:Int)),((1:Int),(5:Int),(0:Int),(-5:Int))])],())=(stC,())
theorem g_start_eq:CondG (env_start) Tryz.f19 [] [none] ann_start (stC,())=g_start_vc:=by kernel_rfl
theorem g_start_ok:g_start_vc:=by
 unfold g_start_vc;exact ⟨trivial,rfl⟩
theorem start_pure:Pure Tryz.prog 19 [] (.list .full Cm stC):=
 by have k:=Pure.of_condG (r:=(.list .full Cm stC)) (g_start_eq) (g_start_ok) rfl (specs_ok rfl [] [] rfl rfl) mixed Tryz.func19;exact k
noncomputable def q_start:Prop×V:=(True,(.list .full Cm stC))
noncomputable def sp_start:FSpec Tryz.prog where
 f:=19
 run:=fun
  |[]=>some (q_start)
  |_=>none
 ok:=fun args pre r h hp=>by
  split at h
  ·skip;exact of_q h hp fun h=>(start_pure).weak .nil
  ·cases h
abbrev w0:By:=[(108:UInt8),(111:UInt8),(103:UInt8),(32:UInt8),(49:UInt8),(10:UInt8),(101:UInt8),(110:UInt8),(116:UInt8),(105:UInt8),(116:UInt8),(121:UInt8),(32:UInt8),(51:UInt8),(10:UInt8)]
abbrev w1:By:=[(108:UInt8),(111:UInt8),(103:UInt8),(32:UInt8),(50:UInt8),(10:UInt8),(101:UInt8),(110:UInt8),(116:UInt8),(105:UInt8),(116:UInt8),(121:UInt8),(32:UInt8),(49:UInt8),(10:UInt8),(108:UInt8),(111:UInt8),(99:UInt8),(107:UInt8),(32:UInt8),(49:UInt8),(32:UInt8),(53:UInt8),(10:UInt8)]
abbrev w2:By:=[(108:UInt8),(111:UInt8),(103:UInt8),(32:UInt8),(50:UInt8),(10:UInt8),(101:UInt8),(110:UInt8),(116:UInt8),(105:UInt8),(116:UInt8),(121:UInt8),(32:UInt8),(49:UInt8),(10:UInt8),(108:UInt8),(97:UInt8),(99:UInt8),(107:UInt8),(32:UInt8),(49:UInt8),(32:UInt8),(53:UInt8),(10:UInt8)]
abbrev w3:By:=[(108:UInt8),(111:UInt8),(103:UInt8),(32:UInt8),(48:UInt8),(10:UInt8),(120:UInt8)]
abbrev w4:By:=[(108:UInt8),(111:UInt8),(103:UInt8),(32:UInt8),(53:UInt8),(10:UInt8),(101:UInt8),(110:UInt8),(116:UInt8),(105:UInt8),(116:UInt8),(121:UInt8),(32:UInt8),(49:UInt8),(10:UInt8),(101:UInt8),(110:UInt8),(116:UInt8),(105:UInt8),(116:UInt8),(121:UInt8),(32:UInt8),(50:UInt8),(10:UInt8),(97:UInt8),(99:UInt8),(99:UInt8),(111:UInt8),(117:UInt8),(110:UInt8),(116:UInt8),(32:UInt8),(48:UInt8),(32:UInt8),(49:UInt8),(32:UInt8),(48:UInt8),(32:UInt8),(48:UInt8),(10:UInt8),(97:UInt8),(99:UInt8),(99:UInt8),(111:UInt8),(117:UInt8),(110:UInt8),(116:UInt8),(32:UInt8),(48:UInt8),(32:UInt8),(50:UInt8),(32:UInt8),(49:UInt8),(32:UInt8),(48:UInt8),(10:UInt8),(112:UInt8),(111:UInt8),(115:UInt8),(116:UInt8),(32:UInt8),(49:UInt8),(32:UInt8),(50:UInt8),(32:UInt8),(49:UInt8),(32:UInt8),(52:UInt8),(32:UInt8),(48:UInt8),(32:UInt8),(53:UInt8),(32:UInt8),(49:UInt8),(32:UInt8),(53:UInt8),(32:UInt8),(48:UInt8),(32:UInt8),(45:UInt8),(53:UInt8),(10:UInt8)]
abbrev w5:By:=[(108:UInt8),(111:UInt8),(103:UInt8),(32:UInt8),(49:UInt8),(10:UInt8),(101:UInt8),(110:UInt8),(116:UInt8),(105:UInt8),(116:UInt8),(121:UInt8),(32:UInt8),(57:UInt8),(10:UInt8)]
abbrev w6:By:=[(108:UInt8),(111:UInt8),(103:UInt8),(32:UInt8),(49:UInt8)]
theorem d0:decodeF w0=([(1,3,0,0,0,false,false,(0,0),[])],1,0):=by kernel_rfl
theorem d1:decodeF w1=([(1,1,0,0,0,false,false,(0,0),[]),(6,1,5,0,0,false,false,(0,0),[])],2,0):=by kernel_rfl
theorem d2:decodeF w2=([],2,8):=by kernel_rfl
theorem d3:(decodeF w3).2.2=6:=by kernel_rfl
theorem d4:decodeF w4=(stC,5,0):=by kernel_rfl
theorem d5:decodeF w5=([(1,9,0,0,0,false,false,(0,0),[])],1,0):=by kernel_rfl
theorem d6:(decodeF w6).2.2=4:=by kernel_rfl
theorem d7:encodeF [(0,0,0,0,0,false,false,(0,0),[])]=([],25):=by kernel_rfl
theorem of_dec {s:By} {L:List Cm.CmD} {n:Int} (h:decodeF s=(L,n,0)):encodeF L=(s,0)/\∀c∈L,Cm.InC c:=by
 obtain ⟨h1,_,h3,_⟩:=read_law (s:=s) (by rw [h]);rw [h] at h1 h3;exact ⟨h1,fun c hc=>(h3 c hc).2⟩
def stB:Bk:=([1,2],[(0,1,true,false),(0,1,false,false),(0,1,false,false),(0,1,false,false),(0,2,true,false)],[],[],[],[(1,0,[(1,4,0,5),(1,5,0, -5)])])
theorem r0:repF bkN stC=(stB,5,0):=by kernel_rfl
theorem r1:repF bkN [(1,9,0,0,0,false,false,(0,0),[])]=(bkN,0,23):=by kernel_rfl
theorem e4:repD w4=(stB,5,0):=by
 unfold repD;rw [d4,if_pos rfl,r0]
theorem e5:repD w5=(bkN,0,23):=by
 unfold repD;rw [d5,if_pos rfl,r1]
theorem in0:Cm.InC (0,0,0,0,0,false,false,(0,0),[]):=by
 refine ⟨fun n hn=>Cm.in_lit ?_,fun x hx=>by cases hx⟩;revert n hn;decide
noncomputable def env_awake:Env where
 P:=Tryz.prog
 ty:=tys1
 specs:=specsOf [sp_encode,sp_decode,sp_start,sp_replayd]
def g_awake_vc:Prop:=
 (∀(c:Int×Int×Int×Int×Int×Bool×Bool×(Int×Int)×List (Int×Int×Int×Int)),c∈[((1:Int),(3:Int),(0:Int),(0:Int),(0:Int),false,false,((0:Int),(0:Int)),[])]->Cm.InC c)/\LnOk [(108:UInt8),(111:UInt8),(103:UInt8),(32:UInt8),(50:UInt8),(10:UInt8),(101:UInt8),(110:UInt8),(116:UInt8),(105:UInt8),(116:UInt8),(121:UInt8),(32:UInt8),(49:UInt8),(10:UInt8),(108:UInt8),(111:UInt8),(99:UInt8),(107:UInt8),(32:UInt8),(49:UInt8),(32:UInt8),(53:UInt8),(10:UInt8)]/\LnOk [(108:UInt8),(111:UInt8),(103:UInt8),(32:UInt8),(50:UInt8),(10:UInt8),(101:UInt8),(110:UInt8),(116:UInt8),(105:UInt8),(116:UInt8),(121:UInt8),(32:UInt8),(49:UInt8),(10:UInt8),(108:UInt8),(97:UInt8),(99:UInt8),(107:UInt8),(32:UInt8),(49:UInt8),(32:UInt8),(53:UInt8),(10:UInt8)]/\LnOk [(108:UInt8),(111:UInt8),(103:UInt8),(32:UInt8),(48:UInt8),(10:UInt8),(120:UInt8)]/\(∀(c:Int×Int×Int×Int×Int×Bool×Bool×(Int×Int)×List (Int×Int×Int×Int)),c∈[((0:Int),(0:Int),(0:Int),(0:Int),(0:Int),false,false,((0:Int),(0:Int)),[])]->Cm.InC c)/\True/\(∀(c:Int×Int×Int×Int×Int×Bool×Bool×(Int×Int)×List (Int×Int×Int×Int)),c∈stC->Cm.InC c)/\LnOk (encodeF stC).1/\LnOk [(108:UInt8),(111:UInt8),(103:UInt8),(32:UInt8),(49:UInt8),(10:UInt8),(101:UInt8),(110:UInt8),(116:UInt8),(105:UInt8),(116:UInt8),(121:UInt8),(32:UInt8),(57:UInt8),(10:UInt8)]/\LnOk [(108:UInt8),(111:UInt8),(103:UInt8),(32:UInt8),(49:UInt8)]/\(decide ((encodeF [((1:Int),(3:Int),(0:Int),(0:Int),(0:Int),false,false,((0:Int),(0:Int)),[])]).1=[(108:UInt8),(111:UInt8),(103:UInt8),(32:UInt8),(49:UInt8),(10:UInt8),(101:UInt8),(110:UInt8),(116:UInt8),(105:UInt8),(116:UInt8),(121:UInt8),(32:UInt8),(51:UInt8),(10:UInt8)])=true->(decide ((encodeF [((1:Int),(3:Int),(0:Int),(0:Int),(0:Int),false,false,((0:Int),(0:Int)),[])]).2=(0:Int))=true->(decide ((↑(decodeF [(108:UInt8),(111:UInt8),(103:UInt8),(32:UInt8),(50:UInt8),(10:UInt8),(101:UInt8),(110:UInt8),(116:UInt8),(105:UInt8),(116:UInt8),(121:UInt8),(32:UInt8),(49:UInt8),(10:UInt8),(108:UInt8),(111:UInt8),(99:UInt8),(107:UInt8),(32:UInt8),(49:UInt8),(32:UInt8),(53:UInt8),(10:UInt8)]).1.length:Int)=(2:Int))=true->(decide ((decodeF [(108:UInt8),(111:UInt8),(103:UInt8),(32:UInt8),(50:UInt8),(10:UInt8),(101:UInt8),(110:UInt8),(116:UInt8),(105:UInt8),(116:UInt8),(121:UInt8),(32:UInt8),(49:UInt8),(10:UInt8),(108:UInt8),(111:UInt8),(99:UInt8),(107:UInt8),(32:UInt8),(49:UInt8),(32:UInt8),(53:UInt8),(10:UInt8)]).2.1=(2:Int))=true->(decide ((decodeF [(108:UInt8),(111:UInt8),(103:UInt8),(32:UInt8),(50:UInt8),(10:UInt8),(101:UInt8),(110:UInt8),(116:UInt8),(105:UInt8),(116:UInt8),(121:UInt8),(32:UInt8),(49:UInt8),(10:UInt8),(108:UInt8),(111:UInt8),(99:UInt8),(107:UInt8),(32:UInt8),(49:UInt8),(32:UInt8),(53:UInt8),(10:UInt8)]).2.2=(0:Int))=true->(decide ((decodeF [(108:UInt8),(111:UInt8),(103:UInt8),(32:UInt8),(50:UInt8),(10:UInt8),(101:UInt8),(110:UInt8),(116:UInt8),(105:UInt8),(116:UInt8),(121:UInt8),(32:UInt8),(49:UInt8),(10:UInt8),(108:UInt8),(97:UInt8),(99:UInt8),(107:UInt8),(32:UInt8),(49:UInt8),(32:UInt8),(53:UInt8),(10:UInt8)]).2.1=(2:Int))=true->(decide ((decodeF [(108:UInt8),(111:UInt8),(103:UInt8),(32:UInt8),(50:UInt8),(10:UInt8),(101:UInt8),(110:UInt8),(116:UInt8),(105:UInt8),(116:UInt8),(121:UInt8),(32:UInt8),(49:UInt8),(10:UInt8),(108:UInt8),(97:UInt8),(99:UInt8),(107:UInt8),(32:UInt8),(49:UInt8),(32:UInt8),(53:UInt8),(10:UInt8)]).2.2=(8:Int))=true->(decide ((decodeF [(108:UInt8),(111:UInt8),(103:UInt8),(32:UInt8),(48:UInt8),(10:UInt8),(120:UInt8)]).2.2=(6:Int))=true->(decide ((encodeF [((0:Int),(0:Int),(0:Int),(0:Int),(0:Int),false,false,((0:Int),(0:Int)),[])]).2=(25:Int))=true->(decide ((encodeF stC).2=(0:Int))=true->(decide ((repD (encodeF stC).1).2.1=(5:Int))=true->(decide ((repD (encodeF stC).1).2.2=(0:Int))=true->(decide ((↑(repD (encodeF stC).1).1.2.2.2.2.2.length:Int)=(1:Int))=true->(decide ((repD [(108:UInt8),(111:UInt8),(103:UInt8),(32:UInt8),(49:UInt8),(10:UInt8),(101:UInt8),(110:UInt8),(116:UInt8),(105:UInt8),(116:UInt8),(121:UInt8),(32:UInt8),(57:UInt8),(10:UInt8)]).2.1=(0:Int))=true->(decide ((repD [(108:UInt8),(111:UInt8),(103:UInt8),(32:UInt8),(49:UInt8),(10:UInt8),(101:UInt8),(110:UInt8),(116:UInt8),(105:UInt8),(116:UInt8),(121:UInt8),(32:UInt8),(57:UInt8),(10:UInt8)]).2.2=(23:Int))=true->(decide ((decodeF [(108:UInt8),(111:UInt8),(103:UInt8),(32:UInt8),(49:UInt8)]).2.2=(4:Int)),())=(true,()))/\(decide ((repD [(108:UInt8),(111:UInt8),(103:UInt8),(32:UInt8),(49:UInt8),(10:UInt8),(101:UInt8),(110:UInt8),(116:UInt8),(105:UInt8),(116:UInt8),(121:UInt8),(32:UInt8),(57:UInt8),(10:UInt8)]).2.2=(23:Int))= !true->(false,())=(true,())))/\(decide ((repD [(108:UInt8),(111:UInt8),(103:UInt8),(32:UInt8),(49:UInt8),(10:UInt8),(101:UInt8),(110:UInt8),(116:UInt8),(105:UInt8),(116:UInt8),(121:UInt8),(32:UInt8),(57:UInt8),(10:UInt8)]).2.1=(0:Int))= !true->(false,())=(true,())))/\(decide ((↑(repD (encodeF stC).1).1.2.2.2.2.2.length:Int)=(1:Int))= !true->(false,())=(true,())))/\(decide ((repD (encodeF stC).1).2.2=(0:Int))= !true->(false,())=(true,())))/\(decide ((repD (encodeF stC).1).2.1=(5:Int))= !true->(false,())=(true,())))/\(decide ((encodeF stC).2=(0:Int))= !true->(false,())=(true,())))/\(decide ((encodeF [((0:Int),(0:Int),(0:Int),(0:Int),(0:Int),false,false,((0:Int),(0:Int)),[])]).2=(25:Int))= !true->(false,())=(true,())))/\(decide ((decodeF [(108:UInt8),(111:UInt8),(103:UInt8),(32:UInt8),(48:UInt8),(10:UInt8),(120:UInt8)]).2.2=(6:Int))= !true->(false,())=(true,())))/\(decide ((decodeF [(108:UInt8),(111:UInt8),(103:UInt8),(32:UInt8),(50:UInt8),(10:UInt8),(101:UInt8),(110:UInt8),(116:UInt8),(105:UInt8),(116:UInt8),(121:UInt8),(32:UInt8),(49:UInt8),(10:UInt8),(108:UInt8),(97:UInt8),(99:UInt8),(107:UInt8),(32:UInt8),(49:UInt8),(32:UInt8),(53:UInt8),(10:UInt8)]).2.2=(8:Int))= !true->(false,())=(true,())))/\(decide ((decodeF [(108:UInt8),(111:UInt8),(103:UInt8),(32:UInt8),(50:UInt8),(10:UInt8),(101:UInt8),(110:UInt8),(116:UInt8),(105:UInt8),(116:UInt8),(121:UInt8),(32:UInt8),(49:UInt8),(10:UInt8),(108:UInt8),(97:UInt8),(99:UInt8),(107:UInt8),(32:UInt8),(49:UInt8),(32:UInt8),(53:UInt8),(10:UInt8)]).2.1=(2:Int))= !true->(false,())=(true,())))/\(decide ((decodeF [(108:UInt8),(111:UInt8),(103:UInt8),(32:UInt8),(50:UInt8),(10:UInt8),(101:UInt8),(110:UInt8),(116:UInt8),(105:UInt8),(116:UInt8),(121:UInt8),(32:UInt8),(49:UInt8),(10:UInt8),(108:UInt8),(111:UInt8),(99:UInt8),(107:UInt8),(32:UInt8),(49:UInt8),(32:UInt8),(53:UInt8),(10:UInt8)]).2.2=(0:Int))= !true->(false,())=(true,())))/\(decide ((decodeF [(108:UInt8),(111:UInt8),(103:UInt8),(32:UInt8),(50:UInt8),(10:UInt8),(101:UInt8),(110:UInt8),(116:UInt8),(105:UInt8),(116:UInt8),(121:UInt8),(32:UInt8),(49:UInt8),(10:UInt8),(108:UInt8),(111:UInt8),(99:UInt8),(107:UInt8),(32:UInt8),(49:UInt8),(32:UInt8),(53:UInt8),(10:UInt8)]).2.1=(2:Int))= !true->(false,())=(true,())))/\(decide ((↑(decodeF [(108:UInt8),(111:UInt8),(103:UInt8),(32:UInt8),(50:UInt8),(10:UInt8),(101:UInt8),(110:UInt8),(116:UInt8),(105:UInt8),(116:UInt8),(121:UInt8),(32:UInt8),(49:UInt8),(10:UInt8),(108:UInt8),(111:UInt8),(99:UInt8),(107:UInt8),(32:UInt8),(49:UInt8),(32:UInt8),(53:UInt8),(10:UInt8)]).1.length:Int)=(2:Int))= !true->(false,())=(true,())))/\(decide ((encodeF [((1:Int),(3:Int),(0:Int),(0:Int),(0:Int),false,false,((0:Int),(0:Int)),[])]).2=(0:Int))= !true->(false,())=(true,())))/\(decide ((encodeF [((1:Int),(3:Int),(0:Int),(0:Int),(0:Int),false,false,((0:Int),(0:Int)),[])]).1=[(108:UInt8),(111:UInt8),(103:UInt8),(32:UInt8),(49:UInt8),(10:UInt8),(101:UInt8),(110:UInt8),(116:UInt8),(105:UInt8),(116:UInt8),(121:UInt8),(32:UInt8),(51:UInt8),(10:UInt8)])= !true->(false,())=(true,()))
theorem g_awake_eq:Cond (env_awake) Tryz.f8 [] [.bool] (true,())=g_awake_vc:=by kernel_rfl
theorem g_awake_ok:g_awake_vc:=by
 unfold g_awake_vc;have k0:=of_dec d0;have k4:=of_dec d4;simp only [k0.1,k4.1,d1,d2,d3,d6,d7,e4,e5];refine ⟨k0.2,ln_short (by decide),ln_short (by decide),ln_short (by decide),fun c hc=> ?_,trivial,k4.2,ln_short (by decide),ln_short (by decide),ln_short (by decide), ?_⟩
 ·rw [List.mem_singleton.1 hc];exact in0
 ·simp [stB]
theorem awake_pure:Pure Tryz.prog 8 [] (.bool true):=
 by have k:=Pure.of_cond (g_awake_eq) (g_awake_ok) (specs_ok rfl [sp_encode,sp_decode,sp_start,sp_replayd] [] rfl rfl) mixed Tryz.func8;exact k
noncomputable def q_awake:Prop×V:=(True,(.bool true))
noncomputable def sp_awake:FSpec Tryz.prog where
 f:=8
 run:=fun
  |[]=>some (q_awake)
  |_=>none
 ok:=fun args pre r h hp=>by
  split at h
  ·skip;exact of_q h hp fun h=>(awake_pure).weak .nil
  ·cases h
end Go.Proofs.YtabicbgeoiilmaaGreatDoor.Dry
end
section
namespace Go.Proofs.YtabicbgeoiilmaaGreatDoor.Dry
open Go.Vm
set_option maxRecDepth 20000
theorem go_at {s:By}: ∀(k:Nat) (a:Int) (acc:List Cm.CmD),0<=(decGo s k a acc).2.1
 |0,a,acc=>by
  rw [decGo];split<;>dsimp only<;>omega
 |k+1,a,acc=>by
  rw [decGo];split
  ·dsimp only;omega
  ·split
   ·dsimp only;omega
   ·exact go_at k _ _
theorem dec_at (s:By):0<=(decodeF s).2.1:=by
 unfold decodeF;split
 ·decide
 ·split
  ·exact Int.le_refl 0
  ·split
   ·exact Int.le_refl 0
   ·exact go_at _ _ _
noncomputable def env_db (l:List Cm.CmD) (s:By):Env where
 P:=Tryz.prog
 ty:=tys1
 specs:=specsOf [sp_few,sp_awake,sp_encode,sp_decode,sp_sameAll]
def g_db_vc (l:List Cm.CmD) (s:By):Prop:=
 l.length<=(9223372036854775807:Nat)/\((!fewC l)=false->(decide ((5000:Int)<(↑(List.length s):Int))=true->True/\(true,())=(true,()))/\(decide ((5000:Int)<(↑(List.length s):Int))=false->(∀(c:Int×Int×Int×Int×Int×Bool×Bool×(Int×Int)×List (Int×Int×Int×Int)),c∈l->Cm.InC c)/\(decide ((encodeF l).2=(0:Int))=true->LnOk (encodeF l).1/\(l.length<=(1000000:Nat)/\∀(c:Int×Int×Int×Int×Int×Bool×Bool×(Int×Int)×List (Int×Int×Int×Int)),c∈l->(Cm.linesF c).length<=(1000000000:Nat))/\((!sameL l (decodeF (encodeF l).1).1)=false->((!decide ((decodeF (encodeF l).1).2.1=(↑l.length:Int)))=false->((!decide ((decodeF (encodeF l).1).2.2=(0:Int)))=true->(false,())=(true,()))/\((!decide ((decodeF (encodeF l).1).2.2=(0:Int)))=false->LnOk s/\((!decide ((decodeF s).2.2=(0:Int)))=true->(decide ((↑(decodeF s).1.length:Int)=(0:Int))=true->(decide (0<=(decodeF s).2.1)=true->True/\(true,())=(true,()))/\(decide (0<=(decodeF s).2.1)= !true->(false,())=(true,())))/\(decide ((↑(decodeF s).1.length:Int)=(0:Int))= !true->(false,())=(true,())))/\((!decide ((decodeF s).2.2=(0:Int)))=false->(∀(c:Int×Int×Int×Int×Int×Bool×Bool×(Int×Int)×List (Int×Int×Int×Int)),c∈(decodeF s).1->Cm.InC c)/\(decide ((encodeF (decodeF s).1).1=s)=true->(decide ((encodeF (decodeF s).1).2=(0:Int))=true->(decide ((decodeF s).2.1=(↑(decodeF s).1.length:Int))=true->True/\(true,())=(true,()))/\(decide ((decodeF s).2.1=(↑(decodeF s).1.length:Int))= !true->(false,())=(true,())))/\(decide ((encodeF (decodeF s).1).2=(0:Int))= !true->(false,())=(true,())))/\(decide ((encodeF (decodeF s).1).1=s)= !true->(false,())=(true,())))))/\((!decide ((decodeF (encodeF l).1).2.1=(↑l.length:Int)))= !false->(false,())=(true,())))/\((!sameL l (decodeF (encodeF l).1).1)= !false->(false,())=(true,())))/\(decide ((encodeF l).2=(0:Int))=false->LnOk s/\((!decide ((decodeF s).2.2=(0:Int)))=true->(decide ((↑(decodeF s).1.length:Int)=(0:Int))=true->(decide (0<=(decodeF s).2.1)=true->True/\(true,())=(true,()))/\(decide (0<=(decodeF s).2.1)= !true->(false,())=(true,())))/\(decide ((↑(decodeF s).1.length:Int)=(0:Int))= !true->(false,())=(true,())))/\((!decide ((decodeF s).2.2=(0:Int)))=false->(∀(c:Int×Int×Int×Int×Int×Bool×Bool×(Int×Int)×List (Int×Int×Int×Int)),c∈(decodeF s).1->Cm.InC c)/\(decide ((encodeF (decodeF s).1).1=s)=true->(decide ((encodeF (decodeF s).1).2=(0:Int))=true->(decide ((decodeF s).2.1=(↑(decodeF s).1.length:Int))=true->True/\(true,())=(true,()))/\(decide ((decodeF s).2.1=(↑(decodeF s).1.length:Int))= !true->(false,())=(true,())))/\(decide ((encodeF (decodeF s).1).2=(0:Int))= !true->(false,())=(true,())))/\(decide ((encodeF (decodeF s).1).1=s)= !true->(false,())=(true,()))))))/\((!fewC l)= !false->True/\(true,())=(true,()))
theorem g_db_eq (l:List Cm.CmD) (s:By):Cond (env_db l s) Tryz.f5 [.list .part Cm l, .str s] [.bool] (true,())=g_db_vc l s:=by kernel_rfl
theorem g_db_ok (l:List Cm.CmD) (s:By) (h:(∀c∈l,Cm.InC c)/\l.length<=9223372036854775807):g_db_vc l s:=by
 obtain ⟨hI,hl⟩:=h;unfold g_db_vc;refine ⟨hl,fun hf=>⟨fun _=>⟨trivial,rfl⟩,fun c=> ?_⟩,fun _=>⟨trivial,rfl⟩⟩;have hs:LnOk s:=ln_short (by have:=of_decide_eq_false c;omega);have hfl:l.length<=1000000/\∀c∈l,(Cm.linesF c).length<=1000000000:=by
  have hf:fewC l=true:=by simpa using hf
  unfold fewC at hf;simp only [Bool.and_eq_true,decide_eq_true_eq,Bool.not_eq_true',List.any_eq_false,decide_eq_false_iff_not] at hf;refine ⟨by omega,fun c hc=> ?_⟩;have:=hf.2 c hc;omega
 refine ⟨hI,fun he=>⟨ln_enc hI,hfl, ?_⟩,fun _=>⟨hs,fun g=> ?_,fun g=> ?_⟩⟩
 ·rw [back_law hI (by simpa using he)];simp only [sameL_yes rfl];refine ⟨fun _=>⟨fun _=>⟨by simp,fun _=>⟨hs,fun g=> ?_,fun g=> ?_⟩⟩,by simp⟩,by simp⟩
  ·simp [dec_err (by simpa using g),dec_at s]
  ·obtain ⟨r1,r2,r3,r4⟩:=read_law (s:=s) (by simpa using g);refine ⟨fun c hc=>(r3 c hc).2, ?_⟩;simp [r1,r2]
 ·simp [dec_err (by simpa using g),dec_at s]
 ·obtain ⟨r1,r2,r3,r4⟩:=read_law (s:=s) (by simpa using g);refine ⟨fun c hc=>(r3 c hc).2, ?_⟩;simp [r1,r2]
theorem db_pure (l:List Cm.CmD) (s:By) (h:(∀c∈l,Cm.InC c)/\l.length<=9223372036854775807):Pure Tryz.prog 5 [.list .part Cm l, .str s] (.bool true):=
 by have k:=Pure.of_cond (g_db_eq l s) (g_db_ok l s h) (specs_ok rfl [sp_few,sp_awake,sp_encode,sp_decode,sp_sameAll] [] rfl rfl) mixed Tryz.func5;exact k
end Go.Proofs.YtabicbgeoiilmaaGreatDoor.Dry
end
