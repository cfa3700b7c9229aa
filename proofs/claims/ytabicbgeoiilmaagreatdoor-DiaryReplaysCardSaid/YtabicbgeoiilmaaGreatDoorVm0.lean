import Derived.WalkKit
import Derived.Orders
import Derived.Lib.ItoaNum
import Derived.Maps.OwnIn
import Derived.Maps.Views
import Derived.Maps.OwnSet
import Derived.Carry
import Derived.MapKept
import Derived.Test.YtabicbgeoiilmaaGreatDoorProg
theorem Q6:type_of% @decide_eq_false_iff_not:=@decide_eq_false_iff_not
theorem Q7:type_of% @decide_eq_true_eq:=@decide_eq_true_eq
theorem Q8:type_of% @if_neg:=@if_neg
theorem Q9:type_of% @Option.some.injEq:=@Option.some.injEq
theorem Q_:type_of% @if_pos:=@if_pos
theorem Ra:type_of% @Option.bind_eq_some_iff:=@Option.bind_eq_some_iff
theorem Rb:type_of% @Bool.not_eq_true':=@Bool.not_eq_true'
theorem Rc:type_of% @Option.map_eq_some_iff:=@Option.map_eq_some_iff
theorem Rd:type_of% @Bool.not_eq_false':=@Bool.not_eq_false'
theorem Re:type_of% @List.length_append:=@List.length_append
theorem Rf:type_of% @Nat.le_refl:=@Nat.le_refl
theorem Rg:type_of% @Bool.not_false:=@Bool.not_false
theorem Rh:type_of% @List.take_of_length_le:=@List.take_of_length_le
theorem Ri:type_of% @Bool.and_eq_true:=@Bool.and_eq_true
theorem Rj:type_of% @List.length_cons:=@List.length_cons
theorem Rk:type_of% @List.eq_nil_of_length_eq_zero:=@List.eq_nil_of_length_eq_zero
theorem Rl:type_of% @Bool.not_true:=@Bool.not_true
theorem Rm:type_of% @List.length_singleton:=@List.length_singleton
theorem Rn:type_of% @List.mem_append:=@List.mem_append
theorem Ro:type_of% @Nat.le_trans:=@Nat.le_trans
theorem Rp:type_of% @List.mem_cons:=@List.mem_cons
theorem Rq:type_of% @List.mem_cons_of_mem:=@List.mem_cons_of_mem
theorem Rr:type_of% @List.mem_of_getElem?:=@List.mem_of_getElem?
theorem Rs:type_of% @decide_eq_false:=@decide_eq_false
theorem Ru:type_of% @List.mem_singleton:=@List.mem_singleton
theorem Rv:type_of% @Array.getD_eq_getD_getElem?:=@Array.getD_eq_getD_getElem?
theorem Rw:type_of% @List.drop_eq_getElem_cons:=@List.drop_eq_getElem_cons
theorem Rx:type_of% @Bool.false_eq_true:=@Bool.false_eq_true
theorem Ry:type_of% @List.contains_iff_mem:=@List.contains_iff_mem
theorem Rz:type_of% @List.length_take:=@List.length_take
theorem RA:type_of% @List.append_assoc:=@List.append_assoc
theorem RB:type_of% @decide_eq_true:=@decide_eq_true
theorem RC:type_of% @List.drop_of_length_le:=@List.drop_of_length_le
theorem RD:type_of% @List.take_add_one:=@List.take_add_one
theorem RE:type_of% @List.length_drop:=@List.length_drop
theorem RF:type_of% @List.mem_cons_self:=@List.mem_cons_self
theorem RG:type_of% @Option.isSome_iff_exists:=@Option.isSome_iff_exists
theorem RH:type_of% @List.append_nil:=@List.append_nil
theorem RI:type_of% @List.length_map:=@List.length_map
theorem RJ:type_of% @List.length_nil:=@List.length_nil
theorem RK:type_of% @Nat.add_assoc:=@Nat.add_assoc
theorem RL:type_of% @List.all_eq_true:=@List.all_eq_true
theorem RM:type_of% @List.nil_append:=@List.nil_append
theorem RN:type_of% @Nat.mul_le_mul_right:=@Nat.mul_le_mul_right
theorem RO:type_of% @Nat.add_mul:=@Nat.add_mul
theorem RP:type_of% @List.cons_append:=@List.cons_append
theorem RQ:type_of% @Nat.zero_add:=@Nat.zero_add
theorem RR:type_of% @Nat.add_zero:=@Nat.add_zero
theorem RS:type_of% @List.mem_map:=@List.mem_map
theorem RT:type_of% @Bool.or_eq_true:=@Bool.or_eq_true
theorem RU:type_of% @List.map_cons:=@List.map_cons
theorem RV:type_of% @Nat.zero_le:=@Nat.zero_le
theorem RW:type_of% @List.map_append:=@List.map_append
theorem RX:type_of% @List.mem_range:=@List.mem_range
theorem RY:type_of% @Nat.lt_irrefl:=@Nat.lt_irrefl
theorem RZ:type_of% @Bool.and_eq_false_iff:=@Bool.and_eq_false_iff
theorem R3:type_of% @Int.toNat_natCast:=@Int.toNat_natCast
theorem R4:type_of% @List.size_toArray:=@List.size_toArray
theorem R5:type_of% @Array.replicate_succ:=@Array.replicate_succ
theorem R6:type_of% @Array.replicate_zero:=@Array.replicate_zero
theorem R7:type_of% @List.mem_append_left:=@List.mem_append_left
theorem R8:type_of% @Option.map_some:=@Option.map_some
theorem R9:type_of% @Option.getD_some:=@Option.getD_some
theorem R_:type_of% @List.append_toArray:=@List.append_toArray
theorem Sa:type_of% @List.push_toArray:=@List.push_toArray
theorem Sb:type_of% @Nat.eq_of_beq_eq_true:=@Nat.eq_of_beq_eq_true
theorem Sc:type_of% @Int.add_zero:=@Int.add_zero
theorem Sd:type_of% @List.any_eq_true:=@List.any_eq_true
theorem Se:type_of% @of_decide_eq_true:=@of_decide_eq_true
theorem Sf:type_of% @List.foldl_cons:=@List.foldl_cons
theorem Sg:type_of% @Nat.min_eq_left:=@Nat.min_eq_left
theorem Sh:type_of% @List.mem_iff_getElem?:=@List.mem_iff_getElem?
theorem Si:type_of% @List.take_append_drop:=@List.take_append_drop
theorem Sj:type_of% @List.not_mem_nil:=@List.not_mem_nil
theorem Sk:type_of% @Nat.eq_zero_or_pos:=@Nat.eq_zero_or_pos
theorem Sl:type_of% @List.mem_of_mem_take:=@List.mem_of_mem_take
theorem Sn:type_of% @Int.eq_ofNat_of_zero_le:=@Int.eq_ofNat_of_zero_le
theorem So:type_of% @Nat.add_sub_cancel_left:=@Nat.add_sub_cancel_left
theorem Sp:type_of% @List.map_congr_left:=@List.map_congr_left
theorem Sq:type_of% @List.getElem_replicate:=@List.getElem_replicate
theorem Sr:type_of% @List.any_cons:=@List.any_cons
theorem Ss:type_of% @List.take_length:=@List.take_length
theorem Su:type_of% @List.nodup_cons:=@List.nodup_cons
theorem Sv:type_of% @List.ext_getElem?:=@List.ext_getElem?
theorem Sw:type_of% @List.any_eq_false:=@List.any_eq_false
theorem Sx:type_of% @Nat.one_mul:=@Nat.one_mul
theorem Sy:type_of% @Option.bind_some:=@Option.bind_some
theorem Sz:type_of% @List.drop_zero:=@List.drop_zero
theorem SA:type_of% @Int.le_refl:=@Int.le_refl
theorem SB:type_of% @Nat.le_succ:=@Nat.le_succ
theorem SD:type_of% @Nat.lt_of_lt_of_le:=@Nat.lt_of_lt_of_le
theorem SE:type_of% @Int.pow_succ:=@Int.pow_succ
theorem SF:type_of% @List.pairwise_cons:=@List.pairwise_cons
theorem SG:type_of% @Bool.true_and:=@Bool.true_and
theorem SK:type_of% @List.drop_drop:=@List.drop_drop
theorem SM:type_of% @List.map_map:=@List.map_map
theorem SN:type_of% @Nat.zero_mul:=@Nat.zero_mul
noncomputable section
namespace Go.Vm
def xU (g:List (Nat×_root_.Go.Obj)) (b:Nat) (p:Array Value->Prop):Prop:= ∃cs t,(b,_root_.Go.Obj.cells cs t (0,0))∈g/\p cs
def wQ (g:List (Nat×_root_.Go.Obj)):Prop:=
 xU g 2 (fun cs=> ∃t v,cs[0]? =some (.iface t v))/\xU g 3 (fun cs=> ∃t v,cs[0]? =some (.iface t v))/\
  xU g 0 (fun cs=> ∃m,cs[0]? =some (.int .i64 m))/\xU g 1 (fun cs=>cs=(Lib.pow10Tab.map fun z=>Value.int .u64 z).toArray)
abbrev P0:Program:=Go.Proofs.Tryz.prog
def fY:TypeId:=3
def Ar:TypeId:=158
def u4 (l:List (Int×Int)):DataW Unit:= .map (l.map fun p=>(.int .i64 p.1, .lit (.int .i64 p.2)))
def Od (x:Int×Int):List (Int×Int)->List (Int×Int)
 |[]=>[x]
 |y::r=>if x.1<y.1 then x::y::r else y::Od x r
def P_ (l:List (Int×Int)) (k v:Int):List (Int×Int):=Od (k,v) (l.filter fun p=> !decide (p.1=k))
def Qa (l:List (Int×Int)) (k:Int):Int:=((l.find? fun p=>decide (p.1=k)).map (·.2)).getD 0
def MapAt (l:List (Int×Int)) (w:World) (b:Nat):Prop:=w.ownsMap P0 fY (plainElem P0 fY) b l.length (u4 l)
theorem oj (x v:Int):Lit.sameKey (.int .i64 x) (.int .i64 v)=decide (x=v):=by simp [Lit.sameKey]
theorem ol (k v:Int): ∀l:List (Int×Int),DataW.insert ((.int .i64 k:Lit),(.lit (.int .i64 v):DataW Unit)) (l.map fun p=>((.int .i64 p.1:Lit),(.lit (.int .i64 p.2):DataW Unit)))=(Od (k,v) l).map fun p=>((.int .i64 p.1:Lit),(.lit (.int .i64 p.2):DataW Unit))
 |[]=>rfl
 |y::r=>by
  simp only [List.map_cons,DataW.insert,Od,Lit.before,decide_eq_true_eq];split
  ·rfl
  ·rw [ol k v r];rfl
theorem KN (l:List (Int×Int)) (k v:Int):(u4 l).put (.int .i64 k) (.lit (.int .i64 v))=u4 (P_ l k v):=by
 simp only [DataW.put,u4,P_];rw [<-ol,List.filter_map];congr 3;apply List.filter_congr;intro p _;simp [oj]
theorem Bu (l:List (Int×Int)) (k:Int):(u4 l).atKey (.int .i64 k) (.lit (.int .i64 0))= .lit (.int .i64 (Qa l k)):=by
 simp only [DataW.atKey,u4,Qa];induction l with
 |nil=>rfl
 |cons y r ih=>
  simp only [List.map_cons,List.find?_cons,oj];by_cases h:y.1=k
  ·simp [h]
  ·simp only [h,decide_false];exact ih
theorem tb (l:List (Int×Int)):Maps.size (u4 l)=l.length:=by simp [Maps.size,u4]
theorem MapAt.tight {w:World} {b n:Nat} {l:List (Int×Int)} (h:w.ownsMap P0 fY (plainElem P0 fY) b n (u4 l)):MapAt l w b:=by
 obtain ⟨es,clock,h1,h2,h3,h4⟩:=h;refine ⟨es,clock,h1,h2, ?_,h4⟩;have h5:=tb l;rw [h4] at h5;simp only [Maps.size] at h5;rw [length_read] at h5;omega
theorem eY:P0.underlying fY=some (.int .i64):=Go.Proofs.Tryz.underlying3
theorem KO (w:World):(zeroValue fY).run P0 w= .ok (.int .i64 0) w:=Go.Proofs.Tryz.zeroValue3 w
theorem KP {v:Int} (h: -9223372036854775808<=v/\v<=9223372036854775807):(Lit.int .i64 v).wf=true:=by
 have h1:IntKind.i64.min= -9223372036854775808:=by decide
 have h2:IntKind.i64.max=9223372036854775807:=by decide
 simp only [Lit.wf,Bool.and_eq_true,decide_eq_true_eq,h1,h2];omega
theorem Dr {v:Int} (h: -9223372036854775808<=v/\v<=9223372036854775807):keyOf P0 fY (.int .i64 v)=some (.int .i64 v):=Maps.keyOf_int_mk eY (KP h)
theorem MapAt.look {t:TypeId} {l:List (Int×Int)} {w:World} {b:Nat} (h:MapAt l w b) (ht:P0.underlying t=some (.map fY fY)) {k:Int} (hk: -9223372036854775808<=k/\k<=9223372036854775807):
 (Instr.lookup t (.map (some b)) (.int .i64 k) false).run P0 w= .ok (.int .i64 (Qa l k)) w:=by
 obtain ⟨c,h1,h2,_⟩:=World.ownsMap.lookup_int h (Maps.int_keyed eY) ht eY (KO w) (Dr hk);rw [Bu] at h2;cases h2;exact h1
theorem MapAt.put {t:TypeId} {l:List (Int×Int)} {w:World} {b:Nat} (h:MapAt l w b) (ht:P0.underlying t=some (.map fY fY)) {k v:Int} (hk: -9223372036854775808<=k/\k<=9223372036854775807) (hv: -9223372036854775808<=v/\v<=9223372036854775807)
 (hl:l.length<=1000000000): ∃w',(Instr.mapUpdate t (.map (some b)) (.int .i64 k) (.int .i64 v)).run P0 w= .ok () w'/\MapAt (P_ l k v) w' b/\w.grownBy w' (some b):=by
 obtain ⟨w',h1,h2,h3⟩:=World.ownsMap.update h (Maps.int_keyed eY) ht (by unfold maxLen;omega) (Dr hk) (plainElem_int eY (KP hv));rw [KN] at h2;exact ⟨w',h1, .tight h2,h3⟩
theorem MapAt.block {l:List (Int×Int)} {w:World} {b:Nat} (h:MapAt l w b): ∃es clock,w.heap[b]? =some (.map es clock)/\es.size=l.length:=by
 obtain ⟨es,clock,h1,h2,h3,h4⟩:=h;refine ⟨es,clock,h1, ?_⟩;have h5:=tb l;rw [h4] at h5;simp only [Maps.size] at h5;rw [length_read] at h5;exact h5
theorem MapAt.new (w:World):MapAt [] (w.alloc (.map #[] 0)) w.heap.size:=World.ownsMap_made w _ _ _
theorem MapAt.same {l:List (Int×Int)} {w w':World} {b:Nat} (h:MapAt l w b) (hb:w'.heap[b]? =w.heap[b]?):MapAt l w' b:=by
 obtain ⟨es,clock,h1,h2⟩:=h;exact ⟨es,clock,hb.trans h1,h2⟩
def IE (p:Int×Nat) (i:Nat):MapEntry:={key:= .int .i64 p.1,val:= .func (.func p.2) #[] #[],born:=i}
def eg:List (Int×Nat)->Nat->List MapEntry
 |[],_=>[]
 |p::r,i=>IE p i::eg r (i+1)
def uz:List (Int×Nat)->Int->Option Nat
 |[],_=>none
 |p::r,n=>if p.1=n then some p.2 else uz r n
def FunAt (L:List (Int×Nat)) (w:World) (b:Nat):Prop:=w.heap[b]? =some (.map (eg L 0).toArray L.length)
theorem su: ∀(L M:List (Int×Nat)) (i:Nat),eg (L++M) i=eg L i++eg M (i+L.length)
 |[],M,i=>by simp [eg]
 |p::r,M,i=>by
  rw [List.cons_append,eg,eg,su r M (i+1),List.length_cons,show i+1+r.length=i+(r.length+1) by omega];rfl
theorem mL (n:Int): ∀(L:List (Int×Nat)) (i j:Nat),(∃q,Instr.findNow (.int .i64) (.int .i64 n) (eg L i) j=some q/\q.map (·.2)=(uz L n).map fun f=>Value.func (.func f) #[] #[])
 |[],i,j=>⟨none,rfl,rfl⟩
 |p::r,i,j=>by
  obtain ⟨q,h1,h2⟩:=mL n r (i+1) (j+1);by_cases c:p.1=n
  ·refine ⟨some (j, .func (.func p.2) #[] #[]), ?_,by simp [uz,c]⟩;simp [eg,IE,Instr.findNow,Instr.sameNow,c]
  ·refine ⟨q, ?_,by rw [uz,if_neg c];exact h2⟩;have c':(n==p.1)=false:=by simpa using fun e=>c e.symm
   simp [eg,IE,Instr.findNow,Instr.sameNow,c'];exact h1
theorem FunAt.look {t:TypeId} {L:List (Int×Nat)} {w:World} {b:Nat} (h:FunAt L w b) (ht:P0.underlying t=some (.map fY Ar)) {n:Int} (_: -9223372036854775808<=n/\n<=9223372036854775807) {f:Nat} (hf:uz L n=some f):
 (Instr.lookup t (.map (some b)) (.int .i64 n) false).run P0 w= .ok (.func (.func f) #[] #[]) w:=by
 obtain ⟨q,h1,h2⟩:=mL n L 0 0;rw [hf] at h2;cases q with
 |none=>cases h2
 |some q=>
  obtain ⟨j,v⟩:=q;cases h2;have hk:(Instr.findKey fY (.int .i64 n) (eg L 0)).run P0 w= .ok (some (j, .func (.func f) #[] #[])) w:=MapKept.run_findKey eY h1;have hc: ∀e,(Instr.checkKey e (9999+1) fY (.int .i64 n)).run P0 w= .ok () w:=fun e=>MapKept.run_checkKey eY (by simp [MapKept.IsKey]) e 9999;unfold Instr.lookup;simp only [Sem.run_bind,run_underlying ht,Result.andThen,MapKept.run_getObj_map (show w.heap[b]? =_ from h),Sem.run_pure,show (10000:Nat)=9999+1 from rfl,hc,hk];rfl
theorem FunAt.same {L:List (Int×Nat)} {w w':World} {b:Nat} (h:FunAt L w b) (hb:w'.heap[b]? =w.heap[b]?):FunAt L w' b:=hb.trans h
inductive OK where
 |fmi|mii|void
 deriving DecidableEq
def OK.den:OK->Type
 | .fmi=>List (Int×Nat)
 | .mii=>List (Int×Int)
 | .void=>Nat
def OK.isNil:(k:OK)->k.den->Bool
 | .fmi,_=>false
 | .mii,_=>false
 | .void,_=>true
def OK.holds:(k:OK)->k.den->World->Nat->(Nat->Prop)->Prop
 | .fmi,l,w,b,S=>FunAt l w b/\∀c,¬S c
 | .mii,l,w,b,S=>MapAt l w b/\∀c,¬S c
 | .void,_,_,_,_=>False
def OK.val:OK->Option Nat->Value
 | .fmi,o=> .map o
 | .mii,o=> .map o
 |_,o=> .pointer (o.map fun b=>⟨b,0,none⟩)
def OK.isPtr:OK->Bool
 | .fmi=>false
 | .mii=>false
 |_=>true
theorem OK.keep {k:OK} {d:k.den} {w w':World} {b:Nat} {S:Nat->Prop} (h:k.holds d w b S) (hs: ∀c,c=b∨S c->w'.heap[c]? =w.heap[c]?):k.holds d w' b S:=by
 cases k
 ·exact ⟨h.1.same (hs b (.inl rfl)),h.2⟩
 ·exact ⟨h.1.same (hs b (.inl rfl)),h.2⟩
 ·exact h.elim
theorem OK.lt {k:OK} {d:k.den} {w:World} {b:Nat} {S:Nat->Prop} (h:k.holds d w b S) {c:Nat} (hc:c=b∨S c):c<w.heap.size:=by
 cases k
 ·rcases hc with rfl|hc
  ·exact (Array.getElem?_eq_some_iff.1 h.1).1
  ·exact (h.2 c hc).elim
 ·rcases hc with rfl|hc
  ·exact World.ownsMap.lt h.1
  ·exact (h.2 c hc).elim
 ·exact h.elim
theorem OK.val_cells (k:OK) (o:Option Nat):(k.val o).cells= #[k.val o]:=by cases k<;>rfl
theorem OK.val_one (k:OK) (o:Option Nat):(k.val o).oneCell'=true:=by cases k<;>rfl
theorem OK.val_ptr {k:OK} (h:k.isPtr=true) (o:Option Nat):k.val o= .pointer (o.map fun b=>⟨b,0,none⟩):=by cases k<;>first|rfl|cases h
def OK.asF:(k:OK)->k.den->Option (List (Int×Nat))
 | .fmi,l=>some l
 |_,_=>none
theorem OK.asF_ok {k:OK} {d:k.den} {l:List (Int×Nat)} (h:k.asF d=some l):k.isNil d=false/\(∀o,k.val o= .map o)/\∀w b S,k.holds d w b S->FunAt l w b:=by
 cases k<;>cases h;exact ⟨rfl,fun _=>rfl,fun _ _ _ h=>h.1⟩
def om:TypeId:=5
end Go.Vm
