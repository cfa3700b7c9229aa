/-
  The engine, part 0: what is asked of the blocks that stay as they are: the library's variables that numerals read; maps from numbers to functions.
-/
import Derived.WalkKit
import Derived.Orders
import Derived.Lib.ItoaNum
import Derived.Maps.OwnIn
import Derived.Maps.Views
import Derived.Maps.OwnSet
import Derived.Carry
import Derived.MapKept
import Derived.Test.YtabicbgeoiilmaaGreatDoorProg
namespace Go.Vm
def Lies0 (g:List (Nat×_root_.Go.Obj)) (b:Nat) (p:Array Value->Prop):Prop:= ∃cs t,(b,_root_.Go.Obj.cells cs t (0,0))∈g/\p cs
def Tabs (g:List (Nat×_root_.Go.Obj)):Prop:=
 Lies0 g 2 (fun cs=> ∃t v,cs[0]? =some (.iface t v))/\Lies0 g 3 (fun cs=> ∃t v,cs[0]? =some (.iface t v))/\
  Lies0 g 0 (fun cs=> ∃m,cs[0]? =some (.int .i64 m))/\Lies0 g 1 (fun cs=>cs=(Lib.pow10Tab.map fun z=>Value.int .u64 z).toArray)
noncomputable abbrev P0:Program:=Go.Proofs.Tryz.prog
def intT:TypeId:=3
def funT:TypeId:=158
def mapN (l:List (Int×Int)):DataW Unit:= .map (l.map fun p=>(.int .i64 p.1, .lit (.int .i64 p.2)))
def mIns (x:Int×Int):List (Int×Int)->List (Int×Int)
 |[]=>[x]
 |y::r=>if x.1<y.1 then x::y::r else y::mIns x r
def mPut (l:List (Int×Int)) (k v:Int):List (Int×Int):=mIns (k,v) (l.filter fun p=> !decide (p.1=k))
def mGet (l:List (Int×Int)) (k:Int):Int:=((l.find? fun p=>decide (p.1=k)).map (·.2)).getD 0
def MapAt (l:List (Int×Int)) (w:World) (b:Nat):Prop:=w.ownsMap P0 intT (plainElem P0 intT) b l.length (mapN l)
theorem sameKey_int (x v:Int):Lit.sameKey (.int .i64 x) (.int .i64 v)=decide (x=v):=by simp [Lit.sameKey]
theorem insert_mapN (k v:Int): ∀l:List (Int×Int),DataW.insert ((.int .i64 k:Lit),(.lit (.int .i64 v):DataW Unit)) (l.map fun p=>((.int .i64 p.1:Lit),(.lit (.int .i64 p.2):DataW Unit)))=(mIns (k,v) l).map fun p=>((.int .i64 p.1:Lit),(.lit (.int .i64 p.2):DataW Unit))
 |[]=>rfl
 |y::r=>by
  simp only [List.map_cons,DataW.insert,mIns,Lit.before,decide_eq_true_eq];split
  ·rfl
  ·rw [insert_mapN k v r];rfl
theorem put_mapN (l:List (Int×Int)) (k v:Int):(mapN l).put (.int .i64 k) (.lit (.int .i64 v))=mapN (mPut l k v):=by
 simp only [DataW.put,mapN,mPut];rw [<-insert_mapN,List.filter_map];congr 3;apply List.filter_congr;intro p _;simp [sameKey_int]
theorem atKey_mapN (l:List (Int×Int)) (k:Int):(mapN l).atKey (.int .i64 k) (.lit (.int .i64 0))= .lit (.int .i64 (mGet l k)):=by
 simp only [DataW.atKey,mapN,mGet];induction l with
 |nil=>rfl
 |cons y r ih=>
  simp only [List.map_cons,List.find?_cons,sameKey_int];by_cases h:y.1=k
  ·simp [h]
  ·simp only [h,decide_false];exact ih
theorem size_mapN (l:List (Int×Int)):Maps.size (mapN l)=l.length:=by simp [Maps.size,mapN]
theorem MapAt.tight {w:World} {b n:Nat} {l:List (Int×Int)} (h:w.ownsMap P0 intT (plainElem P0 intT) b n (mapN l)):MapAt l w b:=by
 obtain ⟨es,clock,h1,h2,h3,h4⟩:=h;refine ⟨es,clock,h1,h2, ?_,h4⟩;have h5:=size_mapN l;rw [h4] at h5;simp only [Maps.size] at h5;rw [length_read] at h5;omega
theorem int_und:P0.underlying intT=some (.int .i64):=Go.Proofs.Tryz.underlying3
theorem int_zero (w:World):(zeroValue intT).run P0 w= .ok (.int .i64 0) w:=Go.Proofs.Tryz.zeroValue3 w
theorem int_wf {v:Int} (h: -9223372036854775808<=v/\v<=9223372036854775807):(Lit.int .i64 v).wf=true:=by
 have h1:IntKind.i64.min= -9223372036854775808:=by decide
 have h2:IntKind.i64.max=9223372036854775807:=by decide
 simp only [Lit.wf,Bool.and_eq_true,decide_eq_true_eq,h1,h2];omega
theorem int_key {v:Int} (h: -9223372036854775808<=v/\v<=9223372036854775807):keyOf P0 intT (.int .i64 v)=some (.int .i64 v):=Maps.keyOf_int_mk int_und (int_wf h)
theorem MapAt.look {t:TypeId} {l:List (Int×Int)} {w:World} {b:Nat} (h:MapAt l w b) (ht:P0.underlying t=some (.map intT intT)) {k:Int} (hk: -9223372036854775808<=k/\k<=9223372036854775807):
 (Instr.lookup t (.map (some b)) (.int .i64 k) false).run P0 w= .ok (.int .i64 (mGet l k)) w:=by
 obtain ⟨c,h1,h2,_⟩:=World.ownsMap.lookup_int h (Maps.int_keyed int_und) ht int_und (int_zero w) (int_key hk);rw [atKey_mapN] at h2;cases h2;exact h1
theorem MapAt.put {t:TypeId} {l:List (Int×Int)} {w:World} {b:Nat} (h:MapAt l w b) (ht:P0.underlying t=some (.map intT intT)) {k v:Int} (hk: -9223372036854775808<=k/\k<=9223372036854775807) (hv: -9223372036854775808<=v/\v<=9223372036854775807)
 (hl:l.length<=1000000000): ∃w',(Instr.mapUpdate t (.map (some b)) (.int .i64 k) (.int .i64 v)).run P0 w= .ok () w'/\MapAt (mPut l k v) w' b/\w.grownBy w' (some b):=by
 obtain ⟨w',h1,h2,h3⟩:=World.ownsMap.update h (Maps.int_keyed int_und) ht (by unfold maxLen;omega) (int_key hk) (plainElem_int int_und (int_wf hv));rw [put_mapN] at h2;exact ⟨w',h1, .tight h2,h3⟩
theorem MapAt.block {l:List (Int×Int)} {w:World} {b:Nat} (h:MapAt l w b): ∃es clock,w.heap[b]? =some (.map es clock)/\es.size=l.length:=by
 obtain ⟨es,clock,h1,h2,h3,h4⟩:=h;refine ⟨es,clock,h1, ?_⟩;have h5:=size_mapN l;rw [h4] at h5;simp only [Maps.size] at h5;rw [length_read] at h5;exact h5
theorem MapAt.new (w:World):MapAt [] (w.alloc (.map #[] 0)) w.heap.size:=World.ownsMap_made w _ _ _
theorem MapAt.same {l:List (Int×Int)} {w w':World} {b:Nat} (h:MapAt l w b) (hb:w'.heap[b]? =w.heap[b]?):MapAt l w' b:=by
 obtain ⟨es,clock,h1,h2⟩:=h;exact ⟨es,clock,hb.trans h1,h2⟩
def fEnt (p:Int×Nat) (i:Nat):MapEntry:={key:= .int .i64 p.1,val:= .func (.func p.2) #[] #[],born:=i}
def fEnts:List (Int×Nat)->Nat->List MapEntry
 |[],_=>[]
 |p::r,i=>fEnt p i::fEnts r (i+1)
def fGet:List (Int×Nat)->Int->Option Nat
 |[],_=>none
 |p::r,n=>if p.1=n then some p.2 else fGet r n
def FunAt (L:List (Int×Nat)) (w:World) (b:Nat):Prop:=w.heap[b]? =some (.map (fEnts L 0).toArray L.length)
theorem fEnts_app: ∀(L M:List (Int×Nat)) (i:Nat),fEnts (L++M) i=fEnts L i++fEnts M (i+L.length)
 |[],M,i=>by simp [fEnts]
 |p::r,M,i=>by
  rw [List.cons_append,fEnts,fEnts,fEnts_app r M (i+1),List.length_cons,show i+1+r.length=i+(r.length+1) by omega];rfl
theorem findNow_f (n:Int): ∀(L:List (Int×Nat)) (i j:Nat),(∃q,Instr.findNow (.int .i64) (.int .i64 n) (fEnts L i) j=some q/\q.map (·.2)=(fGet L n).map fun f=>Value.func (.func f) #[] #[])
 |[],i,j=>⟨none,rfl,rfl⟩
 |p::r,i,j=>by
  obtain ⟨q,h1,h2⟩:=findNow_f n r (i+1) (j+1);by_cases c:p.1=n
  ·refine ⟨some (j, .func (.func p.2) #[] #[]), ?_,by simp [fGet,c]⟩;simp [fEnts,fEnt,Instr.findNow,Instr.sameNow,c]
  ·refine ⟨q, ?_,by rw [fGet,if_neg c];exact h2⟩;have c':(n==p.1)=false:=by simpa using fun e=>c e.symm
   simp [fEnts,fEnt,Instr.findNow,Instr.sameNow,c'];exact h1
theorem FunAt.look {t:TypeId} {L:List (Int×Nat)} {w:World} {b:Nat} (h:FunAt L w b) (ht:P0.underlying t=some (.map intT funT)) {n:Int} (_: -9223372036854775808<=n/\n<=9223372036854775807) {f:Nat} (hf:fGet L n=some f):
 (Instr.lookup t (.map (some b)) (.int .i64 n) false).run P0 w= .ok (.func (.func f) #[] #[]) w:=by
 obtain ⟨q,h1,h2⟩:=findNow_f n L 0 0;rw [hf] at h2;cases q with
 |none=>cases h2
 |some q=>
  obtain ⟨j,v⟩:=q;cases h2;have hk:(Instr.findKey intT (.int .i64 n) (fEnts L 0)).run P0 w= .ok (some (j, .func (.func f) #[] #[])) w:=MapKept.run_findKey int_und h1;have hc: ∀e,(Instr.checkKey e (9999+1) intT (.int .i64 n)).run P0 w= .ok () w:=fun e=>MapKept.run_checkKey int_und (by simp [MapKept.IsKey]) e 9999;unfold Instr.lookup;simp only [Sem.run_bind,run_underlying ht,Result.andThen,MapKept.run_getObj_map (show w.heap[b]? =_ from h),Sem.run_pure,show (10000:Nat)=9999+1 from rfl,hc,hk];rfl
theorem FunAt.same {L:List (Int×Nat)} {w w':World} {b:Nat} (h:FunAt L w b) (hb:w'.heap[b]? =w.heap[b]?):FunAt L w' b:=hb.trans h
inductive OK where
 |fmi|mii|void
 deriving DecidableEq
def OK.den:OK->Type
 | .fmi=>List (Int×Nat)
 | .mii=>List (Int×Int)
 | .void=>Nat
def OK.isNil:(k:OK)->k.den->Bool
 | .fmi,_=>false
 | .mii,_=>false
 | .void,_=>true
def OK.holds:(k:OK)->k.den->World->Nat->(Nat->Prop)->Prop
 | .fmi,l,w,b,S=>FunAt l w b/\∀c,¬S c
 | .mii,l,w,b,S=>MapAt l w b/\∀c,¬S c
 | .void,_,_,_,_=>False
def OK.val:OK->Option Nat->Value
 | .fmi,o=> .map o
 | .mii,o=> .map o
 |_,o=> .pointer (o.map fun b=>⟨b,0,none⟩)
def OK.isPtr:OK->Bool
 | .fmi=>false
 | .mii=>false
 |_=>true
theorem OK.keep {k:OK} {d:k.den} {w w':World} {b:Nat} {S:Nat->Prop} (h:k.holds d w b S) (hs: ∀c,c=b∨S c->w'.heap[c]? =w.heap[c]?):k.holds d w' b S:=by
 cases k
 ·exact ⟨h.1.same (hs b (.inl rfl)),h.2⟩
 ·exact ⟨h.1.same (hs b (.inl rfl)),h.2⟩
 ·exact h.elim
theorem OK.lt {k:OK} {d:k.den} {w:World} {b:Nat} {S:Nat->Prop} (h:k.holds d w b S) {c:Nat} (hc:c=b∨S c):c<w.heap.size:=by
 cases k
 ·rcases hc with rfl|hc
  ·exact (Array.getElem?_eq_some_iff.1 h.1).1
  ·exact (h.2 c hc).elim
 ·rcases hc with rfl|hc
  ·exact World.ownsMap.lt h.1
  ·exact (h.2 c hc).elim
 ·exact h.elim
theorem OK.val_cells (k:OK) (o:Option Nat):(k.val o).cells= #[k.val o]:=by cases k<;>rfl
theorem OK.val_one (k:OK) (o:Option Nat):(k.val o).oneCell'=true:=by cases k<;>rfl
theorem OK.val_ptr {k:OK} (h:k.isPtr=true) (o:Option Nat):k.val o= .pointer (o.map fun b=>⟨b,0,none⟩):=by cases k<;>first|rfl|cases h
def OK.asF:(k:OK)->k.den->Option (List (Int×Nat))
 | .fmi,l=>some l
 |_,_=>none
theorem OK.asF_ok {k:OK} {d:k.den} {l:List (Int×Nat)} (h:k.asF d=some l):k.isNil d=false/\(∀o,k.val o= .map o)/\∀w b S,k.holds d w b S->FunAt l w b:=by
 cases k<;>cases h;exact ⟨rfl,fun _=>rfl,fun _ _ _ h=>h.1⟩
def byteT:TypeId:=5
end Go.Vm
