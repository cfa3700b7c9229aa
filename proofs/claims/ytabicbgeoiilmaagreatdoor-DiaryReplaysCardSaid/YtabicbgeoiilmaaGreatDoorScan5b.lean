import Derived.Test.YtabicbgeoiilmaaGreatDoorNum2
import Derived.Test.YtabicbgeoiilmaaGreatDoorShelf
import Derived.Lib.AppendIntMem
namespace Go.Proofs.YtabicbgeoiilmaaGreatDoor
noncomputable section
section
open Go.Vm
theorem db {P:Program} {f:FuncId} {args:List V} {r:V} (h: ∀(F:Fr) (w:World) (vs:List Value),Vm.Ground F w->RepL ⟨w,[],fun _=>none,F⟩ args vs->
 Calls P f vs.toArray w fun e w'=> ∃u,e= .returned u/\RowKit.Below w.heap.size w w'/\∀X,Rep X r u) (ho:own [] 60 r=some r) (hi:ids [] 60 r=[]):Pure P f args r:=by
 intro F w vs hF hr;refine (h F w vs hF hr).mono fun e w' ⟨u,he,hb,hru⟩=>⟨u,he,hb,[],fun _=>none,r,⟨fun id o h=>by simp [Store.get] at h,fun i j o o' b h=>by simp [Store.get] at h,fun id o b h=>by simp [Store.get] at h,fun b hb'=>hF.out b (Ro hb.size hb'),fun b hb'=>hF.out b hb',⟨fun e he=>by simp [hF.pin] at he,fun e he=>⟨(hb.block _ (hF.lt he)).trans (hF.gnd e he),fun h=>absurd (hF.lt he) (Nat.not_lt.2 h)⟩⟩⟩,hru _,ho,by rw [hi];exact .nil⟩
theorem Df {s:ByteArray} {l:List UInt8} (h:s.data.toList=l):s.size=l.length:=by rw [<-h];rfl
theorem oV {X:Ctx} (l:List UInt8):Rep X (.str l) (.string ⟨l.toArray⟩):= .str (by simp)
theorem qD (s p:List UInt8):Pure Tryz.prog 86 [.str s, .str p] (.bool (Lib.hasPrefix s p)):=by
 refine db (fun F w vs hF hr=> ?_) rfl rfl;obtain ⟨u1,r1,rfl,a1,hr⟩:=hr.cons_inv;obtain ⟨u2,r2,rfl,a2,hr⟩:=hr.cons_inv;rw [hr.nil_inv];obtain ⟨s1,rfl,h1⟩:=a1.str_inv;obtain ⟨s2,rfl,h2⟩:=a2.str_inv;refine (Tryz.strings_HasPrefix s1 s2 w).mono fun e w' ⟨he,hw⟩=>⟨_,he,by rw [hw];exact .refl _ _,fun X=> ?_⟩
 rw [h1,h2];exact .bool
def uS:FSpec Tryz.prog where
 f:=86
 run:=fun args=>match args with
  |[.str s, .str p]=>some (True, .bool (Lib.hasPrefix s p))
  |_=>none
 ok:=fun args pre r h _=>by
  split at h
  ·cases h;exact qD _ _
  ·cases h
theorem qE (s p:List UInt8):Pure Tryz.prog 87 [.str s, .str p] (.tuple [.str (Lib.trimPrefix s p), .bool (Lib.hasPrefix s p)]):=by
 refine db (fun F w vs hF hr=> ?_) rfl rfl;obtain ⟨u1,r1,rfl,a1,hr⟩:=hr.cons_inv;obtain ⟨u2,r2,rfl,a2,hr⟩:=hr.cons_inv;rw [hr.nil_inv];obtain ⟨s1,rfl,h1⟩:=a1.str_inv;obtain ⟨s2,rfl,h2⟩:=a2.str_inv;refine (Tryz.strings_CutPrefix s1 s2 w).mono fun e w' ⟨he,hw⟩=>⟨_,he,by rw [hw];exact .refl _ _,fun X=> ?_⟩
 rw [h1,h2];exact RepL.tuple2 (.cons (oV _) (.cons .bool .nil))
def uT:FSpec Tryz.prog where
 f:=87
 run:=fun args=>match args with
  |[.str s, .str p]=>some (True, .tuple [.str (Lib.trimPrefix s p), .bool (Lib.hasPrefix s p)])
  |_=>none
 ok:=fun args pre r h _=>by
  split at h
  ·cases h;exact qE _ _
  ·cases h
theorem gk {F:Fr} {w:World} (hF:Vm.Ground F w) {b:Nat} {p:Array Value->Prop} (h:xU F.gnd.1 b p): ∃cs t,w.heap[b]? =some (.cells cs t (0,0))/\p cs:=by
 obtain ⟨cs,t,hm,hp⟩:=h;exact ⟨cs,t,hF.gnd _ hm,hp⟩
theorem mX {w:World} {b:Nat} {cs:Array Value} {t:TypeId} (h:w.heap[b]? =some (.cells cs t (0,0))):w.cell? ⟨b,0,none⟩=cs[0]? :=by
 simp [World.cell?,h]
theorem A_ {F:Fr} {w:World} (hF:Vm.Ground F w):Lib.TabIs Tryz.prog w "internal/strconv.uint64pow10" .u64 Lib.pow10Tab:=by
 obtain ⟨cs,t,h,hp⟩:=gk hF F.gnd.2.2.2.2;have hg:Tryz.prog.globalNamed "internal/strconv.uint64pow10" =some 1:=by kernel_rfl
 unfold Lib.TabIs World.var?;rw [hg];simp only [Sy,h,hp]
theorem Ba {F:Fr} {w:World} (hF:Vm.Ground F w): ∃m,w.cell? ⟨0,0,none⟩=some (.int .i64 m):=by
 obtain ⟨cs,t,h,m,hp⟩:=gk hF F.gnd.2.2.2.1;exact ⟨m,by rw [mX h,hp]⟩
theorem xV {F:Fr} {w:World} (hF:Vm.Ground F w): ∃t v,w.cell? ⟨2,0,none⟩=some (.iface t v):=by
 obtain ⟨cs,t,h,te,v,hp⟩:=gk hF F.gnd.2.1;exact ⟨te,v,by rw [mX h,hp]⟩
theorem xW {F:Fr} {w:World} (hF:Vm.Ground F w): ∃t v,w.cell? ⟨3,0,none⟩=some (.iface t v):=by
 obtain ⟨cs,t,h,te,v,hp⟩:=gk hF F.gnd.2.2.1;exact ⟨te,v,by rw [mX h,hp]⟩
theorem Kg (s p:List UInt8) (h:s.length<4294967281):Pure Tryz.prog 55 [.str s, .str p] (.tuple [.str (Lib.cut s p).1, .str (Lib.cut s p).2.1, .bool (Lib.cut s p).2.2]):=by
 refine db (fun F w vs hF hr=> ?_) rfl rfl;obtain ⟨u1,r1,rfl,a1,hr⟩:=hr.cons_inv;obtain ⟨u2,r2,rfl,a2,hr⟩:=hr.cons_inv;rw [hr.nil_inv];obtain ⟨s1,rfl,h1⟩:=a1.str_inv;obtain ⟨s2,rfl,h2⟩:=a2.str_inv;obtain ⟨m,hm⟩:=Ba hF;refine (Tryz.strings_Cut s1 s2 m w (by rw [Df h1];exact h) hm).mono fun e w' ⟨he,n,hw⟩=>⟨_,he,by rw [hw];exact ⟨rfl,rfl,rfl,Rf _,fun _ _=>rfl⟩,fun X=> ?_⟩
 rw [h1,h2];exact RepL.tuple2 (.cons (oV _) (.cons (oV _) (.cons .bool .nil)))
def P4:FSpec Tryz.prog where
 f:=55
 run:=fun args=>match args with
  |[.str s, .str p]=>some (s.length<4294967281, .tuple [.str (Lib.cut s p).1, .str (Lib.cut s p).2.1, .bool (Lib.cut s p).2.2])
  |_=>none
 ok:=fun args pre r h hp=>by
  split at h
  ·cases h;exact Kg _ _ hp
  ·cases h
theorem F5 (n:Int) (h:InI n):Pure Tryz.prog 46 [.int .i64 n] (.str (Lib.itoa n)):=by
 refine db (fun F w vs hF hr=> ?_) rfl rfl;obtain ⟨u1,r1,rfl,a1,hr⟩:=hr.cons_inv;rw [hr.nil_inv,a1.int_inv];refine (Tryz.strconv_Itoa n h.1 h.2 w (A_ hF)).mono fun e w' ⟨he,k,os,hw⟩=>⟨_,he,by rw [hw];exact Lib.below_grow _ w (Rf _) k os,fun X=>oV _⟩
def Dg:FSpec Tryz.prog where
 f:=46
 run:=fun args=>match args with
  |[.int .i64 n]=>some (InI n, .str (Lib.itoa n))
  |_=>none
 ok:=fun args pre r h hp=>by
  split at h
  ·cases h;exact F5 _ hp
  ·cases h
def dY (s:List UInt8):Int:=match Lib.atoiAll s with
 | .ok v=>v
 | .range=>Lib.atoiSat s
 |_=>0
def kc (s:List UInt8):Bool:=match Lib.atoiAll s with
 | .ok _=>false
 |_=>true
theorem xX (w:World) (e:TypeId) (s:ByteArray):RowKit.Below w.heap.size w (Lib.bytesWorld w e s):=
 ⟨rfl,rfl,rfl,by rw [Lib.bytesWorld_size];omega,fun k hk=>Lib.bytesWorld_at_old w e s k hk⟩
theorem F6 (s:List UInt8) (h:s.length<=281474976710656):Pure Tryz.prog 89 [.str s] (.tuple [.int .i64 (dY s), .err (kc s)]):=by
 refine db (fun F w vs hF hr=> ?_) rfl rfl;obtain ⟨u1,r1,rfl,a1,hr⟩:=hr.cons_inv;rw [hr.nil_inv];obtain ⟨s1,rfl,h1⟩:=a1.str_inv;have hs:=Df h1;unfold dY kc;rw [<-h1];cases hc:Lib.atoiAll s1.data.toList with
 |ok v=>
  refine (Tryz.strconv_Atoi_ok s1 (by omega) v hc w).mono fun e w' ⟨he,hw⟩=>⟨_,he, ?_,fun X=>RepL.tuple2 (.cons .int (.cons .errN .nil))⟩
  rcases hw with rfl|⟨t,rfl⟩
  ·exact .refl _ _
  ·exact xX w 5 t
 |range=>
  obtain ⟨te,v,hv⟩:=xW hF;exact (Tryz.strconv_Atoi_range s1 (by omega) hc _ w hv (.inr ⟨te,v,rfl⟩)).mono fun e w' ⟨N,he,_,_,hb⟩=>⟨_,he,hb,fun X=>RepL.tuple2 (.cons .int (.cons .errS .nil))⟩
 |_=>
  obtain ⟨te,v,hv⟩:=xV hF;exact (Tryz.strconv_Atoi_none s1 (by omega) ⟨fun v k=>(by rw [hc] at k;cases k),fun k=>(by rw [hc] at k;cases k)⟩ _ w hv (.inr ⟨te,v,rfl⟩)).mono fun e w' ⟨N,he,_,_,hb⟩=>⟨_,he,hb,fun X=>RepL.tuple2 (.cons .int (.cons .errS .nil))⟩
def NU:FSpec Tryz.prog where
 f:=89
 run:=fun args=>match args with
  |[.str s]=>some (s.length<=281474976710656, .tuple [.int .i64 (dY s), .err (kc s)])
  |_=>none
 ok:=fun args pre r h hp=>by
  split at h
  ·cases h;exact F6 _ hp
  ·cases h
end
section
open Go.Vm
abbrev By:=List UInt8
def ar (s:By) (a:Int):By×Bool:=if a<0∨(s.length:Int)<a then ([],false) else (s.drop a.toNat,true)
theorem gP {s:By} {a:Int} (h:a<0∨(s.length:Int)<a):ar s a=([],false):=by unfold ar;rw [Q_ h]
theorem io {s:By} {a:Int} (h: ¬(a<0∨(s.length:Int)<a)):ar s a=(s.drop a.toNat,true):=by unfold ar;rw [Q8 h]
def Kh (s:By) (a:Int):Env:=ee
def sQ (s:By) (a:Int):Prop:=
 (aj (a<0)->(ag ((↑(List.length s):Int)<a)->([],false,())=((ar s a).1,(ar s a).2,()))/\(aj ((↑(List.length s):Int)<a)->(0<=a/\a<=(↑(List.length s):Int))/\(List.drop a.toNat s,true,())=((ar s a).1,(ar s a).2,())))/\(bu (a<0)->([],false,())=((ar s a).1,(ar s a).2,()))
theorem F7 (s:By) (a:Int):sQ s a:=by
 unfold sQ aj bu ag;simp only [Q7,Q6,Rg];refine ⟨fun c=>⟨fun d=> ?_,fun d=>⟨by omega, ?_⟩⟩,fun c=> ?_⟩
 ·rw [gP (.inr d)]
 ·rw [io (by omega)]
 ·rw [gP (.inl c)]
set_option maxRecDepth 20000
def uU:FSpec Tryz.prog:=mkF 54 (.c .s (.c .j .z)) [.str, .bool] (fun x=>(fun (s:By) (a:Int)=>(True,(ar s a).1,(ar s a).2,())) x.1 x.2.1) fun ⟨s,a,_⟩ _=>av (E:=Kh s a) (F7 s a) (ab rfl [] [] rfl rfl) Tryz.func54
def aO (s:By) (a:Int) (w:By):Int×Int:=
 if a<0∨(s.length:Int)<a then (0,2) else if Lib.hasPrefix (s.drop a.toNat) w then (a+w.length,0) else if Lib.hasPrefix w (s.drop a.toNat) then (0,4) else (0,8)
def NV (s:By) (a:Int) (w:By):Env where
 P:=Tryz.prog
 ty:=aJ
 specs:=ai [uU,uS]
def xY (s:By) (a:Int) (w:By):Prop:=
 True/\((!(ar s a).2)=true->((0:Int),(2:Int),())=((aO s a w).1,(aO s a w).2,()))/\((!(ar s a).2)=false->True/\(Lib.hasPrefix (ar s a).1 w=true->(au (a+(↑(List.length w):Int)))/\(a+(↑(List.length w):Int),(0:Int),())=((aO s a w).1,(aO s a w).2,()))/\(Lib.hasPrefix (ar s a).1 w=false->True/\(Lib.hasPrefix w (ar s a).1=true->((0:Int),(4:Int),())=((aO s a w).1,(aO s a w).2,()))/\(Lib.hasPrefix w (ar s a).1=false->((0:Int),(8:Int),())=((aO s a w).1,(aO s a w).2,()))))
theorem Ki (s:By) (a:Int) (w:By) (h:s.length<=1000000/\w.length<=1000000):xY s a w:=by
 obtain ⟨h1,h2⟩:=h;unfold xY;by_cases c:a<0∨(s.length:Int)<a
 ·rw [gP c];refine ⟨trivial,fun _=> ?_,fun d=>(by cases d)⟩;unfold aO;rw [Q_ c]
 ·rw [io c];unfold aO;rw [Q8 c];refine ⟨trivial,fun d=>(by cases d),fun _=>⟨trivial,fun d=>⟨by omega, ?_⟩,fun d=>⟨trivial,fun e=> ?_,fun e=> ?_⟩⟩⟩
  ·rw [Q_ d]
  ·rw [Q8 (by rw [d];decide),Q_ e]
  ·rw [Q8 (by rw [d];decide),Q8 (by rw [e];decide)]
def uc:FSpec Tryz.prog:=mkF 56 (.c .s (.c .j (.c .s .z))) [.int .i64, .int .i64] (fun x=>(fun (s:By) (a:Int) (w:By)=>(s.length<=1000000/\w.length<=1000000,(aO s a w).1,(aO s a w).2,())) x.1 x.2.1 x.2.2.1) fun ⟨s,a,w,_⟩ h=>av (E:=NV s a w) (Ki s a w h) (ab rfl _ [] rfl rfl) Tryz.func56
def Kj (s:By) (a:Int) (w:By):Env where
 P:=Tryz.prog
 ty:=aJ
 heads:=fun
  |4=>some {slots:=[(8, .int .i64)],boxes:=[],inv:=fun _ (x:Int×Unit)=>0<=x.1/\x.1<=w.length/\a+x.1<=s.length/\w.take x.1.toNat=(s.drop a.toNat).take x.1.toNat,measure:=fun _ (x:Int×Unit)=>(w.length-x.1).toNat}
  |_=>none
def sR (s:By) (a:Int) (w:By):Prop:=
 (decide (a<0)=false->(decide ((↑(List.length s):Int)<a)=true->((0:Int),(2:Int),())=((aO s a w).1,(aO s a w).2,()))/\(decide ((↑(List.length s):Int)<a)=false->(True/\0<=(0:Int)/\0<=(↑(List.length w):Int)/\a+0<=(↑(List.length s):Int)/\List.take (Int.toNat 0) w=List.take (Int.toNat 0) (List.drop a.toNat s))/\∀(x:Int×Unit),0<=x.1/\x.1<=(↑(List.length w):Int)/\a+x.1<=(↑(List.length s):Int)/\List.take x.1.toNat w=List.take x.1.toNat (List.drop a.toNat s)->(decide (x.1<(↑(List.length w):Int))=true->(au ((↑(List.length s):Int)-a))/\(decide (x.1=(↑(List.length s):Int)-a)=true->((0:Int),(4:Int),())=((aO s a w).1,(aO s a w).2,()))/\(decide (x.1=(↑(List.length s):Int)-a)=false->(au (a+x.1))/\(0<=a+x.1/\a+x.1<(↑(List.length s):Int))/\∀(c:UInt8),s[(a+x.1).toNat]? =some c->(0<=x.1/\x.1<(↑(List.length w):Int))/\∀(c_1:UInt8),w[x.1.toNat]? =some c_1->((!decide ((↑c.toNat:Int)=(↑c_1.toNat:Int)))=true->((0:Int),(8:Int),())=((aO s a w).1,(aO s a w).2,()))/\((!decide ((↑c.toNat:Int)=(↑c_1.toNat:Int)))=false->(au (x.1+1))/\True/\(0<=x.1+1/\x.1+1<=(↑(List.length w):Int)/\a+(x.1+1)<=(↑(List.length s):Int)/\List.take (x.1+1).toNat w=List.take (x.1+1).toNat (List.drop a.toNat s))/\((↑(List.length w):Int)-(x.1+1)).toNat<((↑(List.length w):Int)-x.1).toNat)))/\(decide (x.1<(↑(List.length w):Int))=false->(au (a+(↑(List.length w):Int)))/\(a+(↑(List.length w):Int),(0:Int),())=((aO s a w).1,(aO s a w).2,()))))/\(decide (a<0)= !false->((0:Int),(2:Int),())=((aO s a w).1,(aO s a w).2,()))
theorem bZ (s p:By):Lib.hasPrefix s p=true↔s.take p.length=p:=by
 unfold Lib.hasPrefix;rw [List.isPrefixOf_iff_prefix,List.prefix_iff_eq_take];exact ⟨fun h=>h.symm,fun h=>h.symm⟩
theorem jF {s:By} {i:Nat} {c:UInt8} (h:s[i]? =some c):s.take (i+1)=s.take i++[c]:=by
 rw [RD,h];rfl
theorem aM {i:Int} (h:0<=i):(i+1).toNat=i.toNat+1:=by omega
theorem qF {a b:UInt8} (h:(a.toNat:Int)=(b.toNat:Int)):a=b:=UInt8.toNat_inj.1 (by omega)
theorem je (s:By) (a i:Nat):(s.drop a)[i]? =s[a+i]? :=List.getElem?_drop
theorem xZ {s:By} {a:Int} {w:By} (h:a<0∨(s.length:Int)<a):aO s a w=(0,2):=by unfold aO;rw [Q_ h]
theorem NW {s:By} {a:Int} {w:By} (h: ¬(a<0∨(s.length:Int)<a)) (e:(s.drop a.toNat).take w.length=w):aO s a w=(a+w.length,0):=by
 unfold aO;rw [Q8 h,Q_ ((bZ _ _).2 e)]
theorem Bb {s:By} {a:Int} {w:By} (h: ¬(a<0∨(s.length:Int)<a)) (e:w.take (s.drop a.toNat).length=s.drop a.toNat) (l:(s.drop a.toNat).length<w.length):aO s a w=(0,4):=by
 unfold aO;rw [Q8 h,Q8 (fun c=> ?_),Q_ ((bZ _ _).2 e)];have:=congrArg List.length ((bZ _ _).1 c);rw [Rz] at this;omega
theorem F8 {s:By} {a:Int} {w:By} (h: ¬(a<0∨(s.length:Int)<a)) {i:Nat} {x y:UInt8} (hx:(s.drop a.toNat)[i]? =some x) (hy:w[i]? =some y) (hxy:x≠y):aO s a w=(0,8):=by
 have hi:=(List.getElem?_eq_some_iff.1 hx).1;have hj:=(List.getElem?_eq_some_iff.1 hy).1;unfold aO;rw [Q8 h,Q8 (fun c=> ?_),Q8 (fun c=> ?_)]
 ·have:=congrArg (·[i]?) ((bZ _ _).1 c);simp only [List.getElem?_take] at this;rw [Q_ hi,hy,hx] at this;exact hxy (Option.some.inj this).symm
 ·have:=congrArg (·[i]?) ((bZ _ _).1 c);simp only [List.getElem?_take] at this;rw [Q_ hj,hy,hx] at this;exact hxy (Option.some.inj this)
theorem F9 (s:By) (a:Int) (w:By) (h:s.length<=1000000/\w.length<=1000000):sR s a w:=by
 obtain ⟨h1,h2⟩:=h;unfold sR;simp only [Q7,Q6,Rb,Rd,Rg];refine ⟨fun c=>⟨fun d=> ?_,fun d=>⟨⟨trivial,by omega,by omega,by omega,by simp⟩,fun x hx=> ?_⟩⟩,fun c=> ?_⟩
 ·rw [xZ (.inr d)]
 ·obtain ⟨x1,x2,x3,x4⟩:=hx;have hn: ¬(a<0∨(s.length:Int)<a):=by omega
  have hdl:(s.drop a.toNat).length=s.length-a.toNat:=RE;refine ⟨fun e=>⟨by omega,fun f=> ?_,fun f=>⟨by omega,by omega,fun p hp=>⟨by omega,fun q hq=>⟨fun g=> ?_,fun g=>⟨by omega,trivial,⟨by omega,by omega,by omega, ?_⟩,by omega⟩⟩⟩⟩⟩,fun e=>⟨by omega, ?_⟩⟩
  ·have hxl:x.1.toNat=(s.drop a.toNat).length:=by omega
   rw [Bb hn (by rw [<-hxl,x4,hxl,Ss]) (by omega)]
  ·have hp':(s.drop a.toNat)[x.1.toNat]? =some p:=by rw [je,<-hp];congr 1;omega
   rw [F8 hn hp' hq (fun k=>g (by rw [k]))]
  ·have hp':(s.drop a.toNat)[x.1.toNat]? =some p:=by rw [je,<-hp];congr 1;omega
   rw [aM x1,jF hq,jF hp',x4,qF g]
  ·have hxl:x.1.toNat=w.length:=by omega
   rw [NW hn (by rw [<-hxl,<-x4,hxl,Ss])]
 ·rw [xZ (.inl c)]
def ue:FSpec Tryz.prog:=mkF 62 (.c .s (.c .j (.c .s .z))) [.int .i64, .int .i64] (fun x=>(fun (s:By) (a:Int) (w:By)=>(s.length<=1000000/\w.length<=1000000,(aO s a w).1,(aO s a w).2,())) x.1 x.2.1 x.2.2.1) fun ⟨s,a,w,_⟩ h=>av (E:=Kj s a w) (F9 s a w h) (ab rfl [] [] rfl rfl) Tryz.func62
def al (s:By) (a:Int):By×Int×Int:=
 if a<0∨(s.length:Int)<a then ([],0,2) else if (10:UInt8)∈s.drop a.toNat then ((s.drop a.toNat).takeWhile (· ≠10),a+((s.drop a.toNat).takeWhile (· ≠10)).length+1,0) else ([],0,4)
theorem sS: ∀(s:By),Lib.index s [10]=if (10:UInt8)∈s then ((s.takeWhile (· ≠10)).length:Int) else -1
 |[]=>by simp [Lib.index]
 |c::r=>by
  have ih:=sS r;unfold Lib.index;rw [ih];by_cases h:c=10
  ·subst h;simp [List.isPrefixOf]
  ·have h': ¬(10:UInt8)=c:=fun k=>h k.symm;by_cases m:(10:UInt8)∈r
   ·simp [List.isPrefixOf,h,h',m]
   ·simp [List.isPrefixOf,h,h',m]
theorem NX (s:By):Lib.cut s [10]=if (10:UInt8)∈s then (s.takeWhile (· ≠10),s.drop ((s.takeWhile (· ≠10)).length+1),true) else (s,[],false):=by
 unfold Lib.cut;rw [sS];by_cases h:(10:UInt8)∈s
 ·rw [Q_ h,Q_ h,Q_ (by omega)];simp only [R3,Rm];congr 1;exact List.prefix_iff_eq_take.1 (List.takeWhile_prefix _)|>.symm
 ·rw [Q8 h,Q8 h,Q8 (by omega)]
theorem mY {s:By} {a:Int} (h:a<0∨(s.length:Int)<a):al s a=([],0,2):=by unfold al;rw [Q_ h]
theorem oe {s:By} {a:Int} (h: ¬(a<0∨(s.length:Int)<a)) (n:(10:UInt8)∉s.drop a.toNat):al s a=([],0,4):=by unfold al;rw [Q8 h,Q8 n]
theorem x7 {s:By} {a:Int} (h: ¬(a<0∨(s.length:Int)<a)) (n:(10:UInt8)∈s.drop a.toNat):al s a=((s.drop a.toNat).takeWhile (· ≠10),a+((s.drop a.toNat).takeWhile (· ≠10)).length+1,0):=by unfold al;rw [Q8 h,Q_ n]
theorem sq (s:By) (a:Nat):((s.drop a).takeWhile (· ≠10)).length<=s.length:=by
 have:=(List.takeWhile_prefix (p:=(· ≠(10:UInt8))) (l:=s.drop a)).length_le;rw [RE] at this;omega
def qj (s:By) (a:Int):Env where
 P:=Tryz.prog
 ty:=aJ
 specs:=ai [uU,P4]
def gL (s:By) (a:Int):Prop:=
 True/\((!(ar s a).2)=true->([],(0:Int),(2:Int),())=((al s a).1,(al s a).2.1,(al s a).2.2,()))/\((!(ar s a).2)=false->List.length (ar s a).1<(4294967281:Nat)/\((!(Lib.cut (ar s a).1 [(10:UInt8)]).2.2)=true->([],(0:Int),(4:Int),())=((al s a).1,(al s a).2.1,(al s a).2.2,()))/\((!(Lib.cut (ar s a).1 [(10:UInt8)]).2.2)=false->(-9223372036854775808<=a+(↑(Lib.cut (ar s a).1 [(10:UInt8)]).1.length:Int)/\a+(↑(Lib.cut (ar s a).1 [(10:UInt8)]).1.length:Int)<=9223372036854775807)/\(-9223372036854775808<=a+(↑(Lib.cut (ar s a).1 [(10:UInt8)]).1.length:Int)+1/\a+(↑(Lib.cut (ar s a).1 [(10:UInt8)]).1.length:Int)+1<=9223372036854775807)/\((Lib.cut (ar s a).1 [(10:UInt8)]).1,a+(↑(Lib.cut (ar s a).1 [(10:UInt8)]).1.length:Int)+1,(0:Int),())=((al s a).1,(al s a).2.1,(al s a).2.2,())))
theorem mP (s:By) (a:Int) (h:s.length<=1000000):gL s a:=by
 unfold gL;by_cases c:a<0∨(s.length:Int)<a
 ·rw [gP c,mY c];exact ⟨trivial,fun _=>rfl,fun d=>(by cases d)⟩
 ·rw [io c];have hw:=sq s a.toNat;have hdl:(s.drop a.toNat).length=s.length-a.toNat:=RE;dsimp only;rw [NX];by_cases n:(10:UInt8)∈s.drop a.toNat
  ·rw [Q_ n,x7 c n];exact ⟨trivial,fun d=>(by cases d),fun _=>⟨by omega,fun d=>(by cases d),fun _=>⟨by dsimp only;omega,by dsimp only;omega,rfl⟩⟩⟩
  ·rw [Q8 n,oe c n];exact ⟨trivial,fun d=>(by cases d),fun _=>⟨by omega,fun _=>rfl,fun d=>(by cases d)⟩⟩
def uh:FSpec Tryz.prog:=mkF 27 (.c .s (.c .j .z)) [.str, .int .i64, .int .i64] (fun x=>(fun (s:By) (a:Int)=>(s.length<=1000000,(al s a).1,(al s a).2.1,(al s a).2.2,())) x.1 x.2.1) fun ⟨s,a,_⟩ h=>av (E:=qj s a) (mP s a h) (ab rfl _ [] rfl rfl) Tryz.func27
def F_ (s:By) (a:Int):Env where
 P:=Tryz.prog
 ty:=aJ
 heads:=fun
  |4=>some {slots:=[(7, .int .i64)],boxes:=[],inv:=fun _ (x:Int×Unit)=>a<=x.1/\x.1<=s.length/\(s.drop a.toNat).takeWhile (· ≠10)=(s.drop a.toNat).take (x.1-a).toNat++(s.drop x.1.toNat).takeWhile (· ≠10)/\((10:UInt8)∈s.drop a.toNat↔(10:UInt8)∈s.drop x.1.toNat),measure:=fun _ (x:Int×Unit)=>(s.length-x.1).toNat}
  |_=>none
def qG (s:By) (a:Int):Prop:=
 (aj (a<0)->(ag ((↑(List.length s):Int)<a)->([],(0:Int),(2:Int),())=((al s a).1,(al s a).2.1,(al s a).2.2,()))/\(aj ((↑(List.length s):Int)<a)->(True/\a<=a/\a<=(↑(List.length s):Int)/\List.takeWhile (fun x=>decide (x≠(10:UInt8))) (List.drop a.toNat s)=List.take (a-a).toNat (List.drop a.toNat s)++List.takeWhile (fun x=>decide (x≠(10:UInt8))) (List.drop a.toNat s)/\((10:UInt8)∈List.drop a.toNat s↔(10:UInt8)∈List.drop a.toNat s))/\∀(x:Int×Unit),a<=x.1/\x.1<=(↑(List.length s):Int)/\List.takeWhile (fun x=>decide (x≠(10:UInt8))) (List.drop a.toNat s)=List.take (x.1-a).toNat (List.drop a.toNat s)++List.takeWhile (fun x=>decide (x≠(10:UInt8))) (List.drop x.1.toNat s)/\((10:UInt8)∈List.drop a.toNat s↔(10:UInt8)∈List.drop x.1.toNat s)->(ag (x.1<(↑(List.length s):Int))->(0<=x.1/\x.1<(↑(List.length s):Int))/\∀(c:UInt8),s[x.1.toNat]? =some c->(ag ((↑c.toNat:Int)=(10:Int))->(0<=a/\a<=x.1/\x.1<=(↑(List.length s):Int))/\(au (x.1+1))/\(List.drop a.toNat (List.take x.1.toNat s),x.1+1,(0:Int),())=((al s a).1,(al s a).2.1,(al s a).2.2,()))/\(aj ((↑c.toNat:Int)=(10:Int))->(au (x.1+1))/\True/\(a<=x.1+1/\x.1+1<=(↑(List.length s):Int)/\List.takeWhile (fun x=>decide (x≠(10:UInt8))) (List.drop a.toNat s)=List.take (x.1+1-a).toNat (List.drop a.toNat s)++List.takeWhile (fun x=>decide (x≠(10:UInt8))) (List.drop (x.1+1).toNat s)/\((10:UInt8)∈List.drop a.toNat s↔(10:UInt8)∈List.drop (x.1+1).toNat s))/\((↑(List.length s):Int)-(x.1+1)).toNat<((↑(List.length s):Int)-x.1).toNat))/\(aj (x.1<(↑(List.length s):Int))->([],(0:Int),(4:Int),())=((al s a).1,(al s a).2.1,(al s a).2.2,()))))/\(bu (a<0)->([],(0:Int),(2:Int),())=((al s a).1,(al s a).2.1,(al s a).2.2,()))
theorem ge {s:By} {i:Nat} {c:UInt8} (h:s[i]? =some c):s.drop i=c::s.drop (i+1):=by
 obtain ⟨hi,e⟩:=List.getElem?_eq_some_iff.1 h;rw [Rw hi,e]
theorem Bc (s:By) (a:Int) (h:s.length<=1000000):qG s a:=by
 unfold qG aj bu ag;simp only [Q7,Q6,Rg];refine ⟨fun c=>⟨fun d=> ?_,fun d=>⟨⟨trivial,by omega,by omega,by simp,by trivial⟩,fun x hx=> ?_⟩⟩,fun c=> ?_⟩
 ·rw [mY (.inr d)]
 ·obtain ⟨x1,x2,x3,x4⟩:=hx;have hn: ¬(a<0∨(s.length:Int)<a):=by omega
  refine ⟨fun e=>⟨by omega,fun p hp=>⟨fun f=>⟨by omega,by omega, ?_⟩,fun f=>⟨by omega,trivial,⟨by omega,by omega, ?_, ?_⟩,by omega⟩⟩⟩,fun e=> ?_⟩
  ·have hp10:p=10:=qF (by rw [f];rfl);have hd:=ge hp;subst hp10;have hm:(10:UInt8)∈s.drop a.toNat:=x4.2 (by rw [hd];exact RF);have ht:(s.drop a.toNat).takeWhile (· ≠10)=(s.drop a.toNat).take (x.1-a).toNat:=by
    rw [x3,hd];simp
   have hl:((s.drop a.toNat).take (x.1-a).toNat).length=(x.1-a).toNat:=by
    rw [Rz,RE];omega
   rw [x7 hn hm,ht,hl,List.take_drop];have e1:a.toNat+(x.1-a).toNat=x.1.toNat:=by omega
   have e2:a+((x.1-a).toNat:Int)+1=x.1+1:=by omega
   rw [e1,e2]
  ·have hp10:p≠10:=fun k=>f (by rw [k];rfl);have hd:=ge hp;have e1:(x.1+1-a).toNat=(x.1-a).toNat+1:=by omega
   have hp':(s.drop a.toNat)[(x.1-a).toNat]? =some p:=by rw [je,<-hp];congr 1;omega
   rw [x3,hd,e1,jF hp',aM (by omega)];simp [hp10]
  ·have hp10:p≠10:=fun k=>f (by rw [k];rfl);rw [x4,ge hp,aM (by omega)];simp [Ne.symm hp10]
  ·rw [oe hn];rw [x4,RC (by omega)];simp
 ·rw [mY (.inl c)]
def H9:FSpec Tryz.prog:=mkF 30 (.c .s (.c .j .z)) [.str, .int .i64, .int .i64] (fun x=>(fun (s:By) (a:Int)=>(s.length<=1000000,(al s a).1,(al s a).2.1,(al s a).2.2,())) x.1 x.2.1) fun ⟨s,a,_⟩ h=>av (E:=F_ s a) (Bc s a h) (ab rfl [] [] rfl rfl) Tryz.func30
def gm (c:UInt8):Bool:=decide (48<=(c.toNat:Int))&&decide ((c.toNat:Int)<=57)
def eP (s:By) (i:Int):Bool:=((s[i.toNat]?).map gm).getD false
def Ga (s:By) (i:Int):Env:=ee
def qH (s:By) (i:Int):Prop:=
 (0<=i/\i<(↑(List.length s):Int))/\∀(c:UInt8),s[i.toNat]? =some c->(ag ((48:Int)<=(↑c.toNat:Int))->(0<=i/\i<(↑(List.length s):Int))/\∀(c:UInt8),s[i.toNat]? =some c->(decide ((↑c.toNat:Int)<=(57:Int)),())=(eP s i,()))/\(aP ((48:Int)<=(↑c.toNat:Int))->(false,())=(eP s i,()))
theorem Bd (s:By) (i:Int) (h:0<=i/\i<s.length):qH s i:=by
 unfold qH aP ag eP;refine ⟨h,fun c hc=> ?_⟩;rw [hc];simp only [R8,R9,gm];refine ⟨fun d=>⟨h,fun e he=> ?_⟩,fun d=> ?_⟩
 ·cases he;rw [d];rfl
 ·rw [d];rfl
def x8:FSpec Tryz.prog:=mkF 110 (.c .j (.c (.f (.c .s .z)) .z)) [.bool] (fun x=>(fun (s:By) (i:Int)=>(0<=i/\i<s.length,eP s i,())) x.2.1.1 x.1) fun ⟨i,⟨s,_⟩,_⟩ h=>av (E:=Ga s i) (Bd s i h) (ab rfl [] [] rfl rfl) Tryz.func110
def aU (s:By):Int:=((s.takeWhile gm).length:Nat)
def NY (s:By):Env where
 P:=Tryz.prog
 ty:=aJ
 specs:=ai [x8]
 heads:=fun
  |3=>some {slots:=[(8, .int .i64),(4, .any)],boxes:=[],keep:=[1],inv:=fun _ (x:Int×Unit×Unit)=>0<=x.1/\x.1<=s.length/\aU s=x.1+aU (s.drop x.1.toNat),measure:=fun _ (x:Int×Unit×Unit)=>(s.length-x.1).toNat}
  |_=>none
def qI (s:By):Prop:=
 ((some (Obj.box [V.str s])=some (Obj.box [V.str s])/\True)/\0<=(0:Int)/\0<=(↑(List.length s):Int)/\aU s=0+aU (List.drop (Int.toNat 0) s))/\∀(x:Int×Unit×Unit),0<=x.1/\x.1<=(↑(List.length s):Int)/\aU s=x.1+aU (List.drop x.1.toNat s)->(ag (x.1<(↑(List.length s):Int))->(0<=x.1/\x.1<(↑(List.length s):Int))/\((!eP s x.1)=true->(x.1,())=(aU s,()))/\((!eP s x.1)=false->(au (x.1+1))/\(some (Obj.box [V.str s])=some (Obj.box [V.str s])/\True)/\(0<=x.1+1/\x.1+1<=(↑(List.length s):Int)/\aU s=x.1+1+aU (List.drop (x.1+1).toNat s))/\((↑(List.length s):Int)-(x.1+1)).toNat<((↑(List.length s):Int)-x.1).toNat))/\(aj (x.1<(↑(List.length s):Int))->((↑(List.length s):Int),())=(aU s,()))
theorem Kk (s:By):Ie (NY s) Tryz.f88 [.str s] [.int .i64] (aU s,())=qI s:=by kernel_rfl
theorem sT {s:By} {i:Int} (h0:0<=i) (h:i<s.length) (d:eP s i=true):aU (s.drop i.toNat)=1+aU (s.drop (i+1).toNat):=by
 have hc:s[i.toNat]? =some s[i.toNat]:=List.getElem?_eq_getElem (by omega);unfold eP at d;rw [hc] at d;simp only [R8,R9] at d;unfold aU;rw [ge hc,aM h0,List.takeWhile_cons,Q_ d,Rj];omega
theorem sU {s:By} {i:Int} (h0:0<=i) (h:i<s.length) (d:eP s i=false):aU (s.drop i.toNat)=0:=by
 have hc:s[i.toNat]? =some s[i.toNat]:=List.getElem?_eq_getElem (by omega);unfold eP at d;rw [hc] at d;simp only [R8,R9] at d;unfold aU;rw [ge hc,List.takeWhile_cons,Q8 (by rw [d];decide)];rfl
theorem Kl (s:By) (h:s.length<=1000000):qI s:=by
 unfold qI aj ag;simp only [Q7,Q6,Rb,Rd];refine ⟨⟨⟨by trivial,by trivial⟩,by omega,by omega,by simp⟩,fun x hx=>⟨fun c=>⟨by omega,fun d=> ?_,fun d=>⟨by omega,⟨by trivial,by trivial⟩,⟨by omega,by omega, ?_⟩,by omega⟩⟩,fun c=> ?_⟩⟩
 ·rw [hx.2.2,sU hx.1 c d,Sc]
 ·rw [hx.2.2,sT hx.1 c d];omega
 ·rw [hx.2.2,RC (by omega)];have e:x.1=s.length:=by omega
  rw [e];simp [aU]
def Km (s:By):Prop×V:=(s.length<=1000000,(.int .i64 (aU s)))
theorem run_pure (s:By) (h:(Km s).1):Pure Tryz.prog 88 [.str s] (Km s).2:=
 by have k:=Pure.of_cond (Kk s) (Kl s h) (ab rfl [x8] [] rfl rfl) mixed Tryz.func88;exact k
def P5:FSpec Tryz.prog where
 f:=88
 run:=fun
  |[.str s]=>some (Km s)
  |_=>none
 ok:=fun args pre r h hp=>by
  split at h
  ·rename_i s;exact zU h hp fun h=>(run_pure s h).weak (.cons (.refl _) .nil)
  ·cases h
def toB (d:Int):UInt8:=UInt8.ofNat (48+d).toNat
def eV (l:List Int):By:=(l.map toB).reverse
def dr (l:List Int):List Int:=if l=[] then [0] else l
def Kn (s:Bool) (l:List Int) (d:Int):Env where
 P:=Tryz.prog
 ty:=aJ
 heads:=fun
  |2=>some {slots:=[(5, .list .part I)],boxes:=[],keep:=[2],inv:=fun _ (x:List Int×Unit)=>x.1=l∨(l=[]/\x.1=[0]),measure:=fun _ (x:List Int×Unit)=>1-x.1.length}
  |6=>some {slots:=[(7, .int .i64),(6, .str)],boxes:=[],keep:=[2],inv:=fun _ (x:Int×By×Unit)=>0<=x.1/\x.1<=(dr l).length/\x.2.1=eV ((dr l).take x.1.toNat),measure:=fun _ (x:Int×By×Unit)=>((dr l).length-x.1).toNat}
  |_=>none
def sV (s:Bool) (l:List Int) (d:Int):Prop:=
 ((some (Obj.box [V.bool s,V.list LK.part I l])=some (Obj.box [V.bool s,V.list LK.part I l])/\True)/\(l=l∨l=[]/\l=[(0:Int)]))/\∀(x:List Int×Unit),x.1=l∨l=[]/\x.1=[(0:Int)]->(ag (x.1.length<=d)->(((0:Nat)+x.1.length)*(8:Nat)<=(140737488355328:Nat)/\(0:Nat)+x.1.length<=(4611686018427387904:Nat)/\((0:Nat)<x.1.length∨(0:Nat)=(0:Nat)))/\((x.1.length+(1:Nat))*(8:Nat)<=(140737488355328:Nat)/\x.1.length+(1:Nat)<=(4611686018427387904:Nat))/\(some (Obj.box [V.bool s,V.list LK.part I l])=some (Obj.box [V.bool s,V.list LK.part I l])/\True)/\(x.1++[(0:Int)]=l∨l=[]/\x.1++[(0:Int)]=[(0:Int)])/\(1:Nat)-(x.1++[(0:Int)]).length<(1:Nat)-x.1.length)/\(aj (x.1.length<=d)->((some (Obj.box [V.bool s,V.list LK.part I l])=some (Obj.box [V.bool s,V.list LK.part I l])/\True)/\0<=(0:Int)/\0<=(↑(dr l).length:Int)/\[]=eV (List.take (Int.toNat 0) (dr l)))/\∀(x_1:Int×List UInt8×Unit),0<=x_1.1/\x_1.1<=(↑(dr l).length:Int)/\x_1.2.1=eV (List.take x_1.1.toNat (dr l))->(ag (x_1.1<x.1.length)->(ag (x_1.1=d)->(ag (0<d)->(1:Nat)+x_1.2.1.length<=(9223372036854775807:Nat)/\(0<=x_1.1/\x_1.1<x.1.length)/\∀(x_2:Int),x.1[x_1.1.toNat]? =some x_2->(au ((48:Int)+x_2))/\(0<=(48:Int)+x_2/\(48:Int)+x_2<=255)/\(List.map (fun n=>UInt8.ofNat (Int.toNat n)) [(48:Int)+x_2]).length+([(46:UInt8)]++x_1.2.1).length<=(9223372036854775807:Nat)/\(au (x_1.1+1))/\(some (Obj.box [V.bool s,V.list LK.part I l])=some (Obj.box [V.bool s,V.list LK.part I l])/\True)/\(0<=x_1.1+1/\x_1.1+1<=(↑(dr l).length:Int)/\List.map (fun n=>UInt8.ofNat (Int.toNat n)) [(48:Int)+x_2]++([(46:UInt8)]++x_1.2.1)=eV (List.take (x_1.1+1).toNat (dr l)))/\((↑(dr l).length:Int)-(x_1.1+1)).toNat<((↑(dr l).length:Int)-x_1.1).toNat)/\(aj (0<d)->(0<=x_1.1/\x_1.1<x.1.length)/\∀(x_2:Int),x.1[x_1.1.toNat]? =some x_2->(au ((48:Int)+x_2))/\(0<=(48:Int)+x_2/\(48:Int)+x_2<=255)/\(List.map (fun n=>UInt8.ofNat (Int.toNat n)) [(48:Int)+x_2]).length+x_1.2.1.length<=(9223372036854775807:Nat)/\(au (x_1.1+1))/\(some (Obj.box [V.bool s,V.list LK.part I l])=some (Obj.box [V.bool s,V.list LK.part I l])/\True)/\(0<=x_1.1+1/\x_1.1+1<=(↑(dr l).length:Int)/\List.map (fun n=>UInt8.ofNat (Int.toNat n)) [(48:Int)+x_2]++x_1.2.1=eV (List.take (x_1.1+1).toNat (dr l)))/\((↑(dr l).length:Int)-(x_1.1+1)).toNat<((↑(dr l).length:Int)-x_1.1).toNat))/\(aP (x_1.1=d)->(0<=x_1.1/\x_1.1<x.1.length)/\∀(x_2:Int),x.1[x_1.1.toNat]? =some x_2->(au ((48:Int)+x_2))/\(0<=(48:Int)+x_2/\(48:Int)+x_2<=255)/\(List.map (fun n=>UInt8.ofNat (Int.toNat n)) [(48:Int)+x_2]).length+x_1.2.1.length<=(9223372036854775807:Nat)/\(au (x_1.1+1))/\(some (Obj.box [V.bool s,V.list LK.part I l])=some (Obj.box [V.bool s,V.list LK.part I l])/\True)/\(0<=x_1.1+1/\x_1.1+1<=(↑(dr l).length:Int)/\List.map (fun n=>UInt8.ofNat (Int.toNat n)) [(48:Int)+x_2]++x_1.2.1=eV (List.take (x_1.1+1).toNat (dr l)))/\((↑(dr l).length:Int)-(x_1.1+1)).toNat<((↑(dr l).length:Int)-x_1.1).toNat))/\(aj (x_1.1<x.1.length)->(s=true->(1:Nat)+x_1.2.1.length<=(9223372036854775807:Nat)/\([(45:UInt8)]++x_1.2.1,())=(Lib.itoa (big s l),()))/\(s=false->(x_1.2.1,())=(Lib.itoa (big s l),()))))
theorem qJ {l:List Int} {i:Nat} {d:Int} (h:l[i]? =some d):eV (l.take (i+1))=[UInt8.ofNat (48+d).toNat]++eV (l.take i):=by
 unfold eV;rw [RD,h];simp [toB]
theorem sW (n:Nat):eV (dr (aD n))=Lib.decDigits n:=by
 induction n using Nat.strongRecOn with
 |_ n ih=>
  by_cases h0:n=0
  ·subst h0;rw [bT,Lib.decDigits,dif_pos (by omega)];rfl
  ·have hne:aD n≠[]:=fun c=>h0 (fK.1 c);have hp:dr (aD n)=aD n:=by unfold dr;rw [Q8 hne]
   rw [hp,dA h0];by_cases h:n<10
   ·have e:n/10=0:=by omega
    rw [Lib.decDigits,dif_pos h,e,bT,Nat.mod_eq_of_lt h];simp only [eV,toB,RU,List.map_nil,List.reverse_cons,List.reverse_nil,RM];congr 2
   ·rw [Lib.decDigits,dif_neg h,<-ih (n/10) (by omega)];have hne2:aD (n/10)≠[]:=fun c=>by have:=fK.1 c;omega
    have hp2:dr (aD (n/10))=aD (n/10):=by unfold dr;rw [Q8 hne2]
    rw [hp2];simp only [eV,toB,RU,List.reverse_cons];congr 2
theorem sX {s:Bool} {l:List Int} (h:Big s l):Lib.itoa (big s l)=if s then 45::eV (dr l) else eV (dr l):=by
 have hl:aD (big s l).natAbs=l:=uN h;have hs:=NL h;unfold Lib.itoa;cases s with
 |true=>
  have hneg:big true l<0:=by simpa using hs
  rw [Q_ hneg,Q_ rfl,<-sW,hl]
 |false=>
  have hneg: ¬big false l<0:=by simpa using hs
  have e:(big false l).toNat=(big false l).natAbs:=by omega
  rw [Q8 hneg,Q8 (by decide),e,<-sW,hl]
theorem NZ {l:List Int} (h:Dig l):Dig (dr l):=by
 unfold dr;split
 ·intro d hd;simp only [Ru] at hd;omega
 ·exact h
theorem Gb (s:Bool) (l:List Int) (d:Int) (h:d=0/\Big s l/\l.length<=1000000):sV s l d:=by
 obtain ⟨rfl,hb,hl⟩:=h;have hit:=sX hb;have hpd:=NZ hb.1.dig;have hpl:(dr l).length<=1000001:=by
  unfold dr;split
  ·simp
  ·omega
 unfold sV aj aP ag;refine ⟨⟨⟨by trivial,by trivial⟩, .inl rfl⟩,fun x hx=> ?_⟩;simp only [Q7,Q6,Rl];have hxl:x.1.length<=1000001:=by
  rcases hx with h|⟨_,h⟩
  ·rw [h];omega
  ·rw [h];simp
 refine ⟨fun c=> ?_,fun c=> ?_⟩
 ·have hx0:x.1=[]:=Rk (by omega);have hl0:l=[]:=by
   rcases hx with h|⟨h,_⟩
   ·rw [<-h,hx0]
   ·exact h
  rw [hx0];refine ⟨⟨by simp,by simp, .inr (by trivial)⟩,⟨by simp,by simp⟩,⟨by trivial,by trivial⟩, .inr ⟨hl0,rfl⟩,by simp⟩
 ·have hxp:x.1=dr l:=by
   unfold dr;rcases hx with h|⟨h1,h2⟩
   ·rw [Q8 (fun k=>c (by rw [h,k];exact SA _)),h]
   ·rw [Q_ h1,h2]
  rw [hxp];refine ⟨⟨⟨by trivial,by trivial⟩,by omega,by omega,rfl⟩,fun y hy=> ?_⟩;have hyl:y.2.1.length<=1000001:=by
   rw [hy.2.2];unfold eV;rw [List.length_reverse,RI,Rz];omega
  refine ⟨fun d=>⟨fun e=>⟨fun f=>absurd f (by omega),fun _=>⟨by omega,fun z hz=> ?_⟩⟩,fun e=>⟨by omega,fun z hz=> ?_⟩⟩,fun d=>⟨fun e=>⟨by omega, ?_⟩,fun e=> ?_⟩⟩
  ·have:=gi hpd hz;refine ⟨by omega,by omega,by simp;omega,by omega,⟨by trivial,by trivial⟩,⟨by omega,by omega, ?_⟩,by omega⟩;rw [aM hy.1,qJ hz,hy.2.2];rfl
  ·have:=gi hpd hz;refine ⟨by omega,by omega,by simp;omega,by omega,⟨by trivial,by trivial⟩,⟨by omega,by omega, ?_⟩,by omega⟩;rw [aM hy.1,qJ hz,hy.2.2];rfl
  ·subst e;rw [hit,hy.2.2,Rh (by omega)];rfl
  ·subst e;rw [hit,hy.2.2,Rh (by omega)];rfl
def N3:FSpec Tryz.prog:=mkF 49 (.c (.g (.c .b (.c (.p I) .z))) (.c .j .z)) [.str] (fun x=>(fun (s:Bool) (l:List Int) (d:Int)=>(d=0/\Big s l/\l.length<=1000000,Lib.itoa (big s l),())) x.1.1 x.1.2.1 x.2.1) fun ⟨⟨s,l,_⟩,d,_⟩ h=>av (E:=Kn s l d) (Gb s l d h) (ab rfl [] [] rfl rfl) Tryz.func49
def uV (n:Int):Env where
 P:=Tryz.prog
 ty:=aJ
 specs:=ai [Dg]
def ke (n:Int):Prop:=
 InI n/\(Lib.itoa n,())=(Lib.itoa n,())
theorem rQ (n:Int):Ie (uV n) Tryz.f21 [.int .i64 n] [.str] (Lib.itoa n,())=ke n:=by kernel_rfl
theorem rR (n:Int) (h:InI n):ke n:=by
 exact ⟨h,rfl⟩
theorem jZ (n:Int) (h:InI n):Pure Tryz.prog 21 [.int .i64 n] (.str (Lib.itoa n)):=
 by have k:=Pure.of_cond (rQ n) (rR n h) (ab rfl [Dg] [] rfl rfl) mixed Tryz.func21;exact k
def Be (n:Int):Prop×V:=(InI n,(.str (Lib.itoa n)))
def nJ:FSpec Tryz.prog where
 f:=21
 run:=fun
  |[.int .i64 n]=>some (Be n)
  |_=>none
 ok:=fun args pre r h hp=>by
  split at h
  ·rename_i n;exact zU h hp fun h=>(jZ n h).weak (.cons (.refl _) .nil)
  ·cases h
theorem i6 {n:Int} (h:InI n):(aD n.natAbs).length<=30:=by
 obtain ⟨h1,h2⟩:=h;exact eN (k:=30) (by omega)
end
section
open Go.Vm
def fQ (l:List Int) (i:Nat) (d:Int) (k c:Int) (o:List Int):Prop:=
 0<=k/\0<=c/\c<=9/\(k<=l.length∨c=0)/\k<=l.length+1/\(o.length:Int)=i+k/\Dig o/\val o+10 ^ (i+k.toNat)*c=10 ^ i*(d*val (l.take k.toNat))
theorem QU (l:List Int) (i:Nat) (d:Int):fQ l i d 0 0 (List.replicate i 0):=by
 refine ⟨by omega,by omega,by omega, .inr rfl,by omega,by simp,fun x hx=> ?_, ?_⟩
 ·have:=(List.mem_replicate.1 hx).2;omega
 ·rw [mU (fun x hx=>(List.mem_replicate.1 hx).2)];simp [val]
theorem Ko {l o:List Int} {i:Nat} {d k c n:Int} (hl:Dig l) (h:fQ l i d k c o) (hd:0<=d/\d<=9) (hc:k<l.length∨0<c) (hn:n=c+at0 l k.toNat*d):
 fQ l i d (k+1) (n.tdiv 10) (o++[n.tmod 10]):=by
 obtain ⟨h1,h2,h3,h4,h5,h6,h7,h8⟩:=h;obtain ⟨a1,a2⟩:=eH hl k.toNat;have p1:0<=at0 l k.toNat*d:=Int.mul_nonneg a1 hd.1;have p2:at0 l k.toNat*d<=9*9:=Int.mul_le_mul a2 hd.2 hd.1 (by omega);have hn0:0<=n:=by omega
 have e1:n.tdiv 10=n/10:=Int.tdiv_eq_ediv_of_nonneg hn0;have e2:n.tmod 10=n%10:=Int.tmod_eq_emod_of_nonneg hn0;have hlen:o.length=i+k.toNat:=by omega
 rw [e1,e2];refine ⟨by omega,by omega,by omega, ?_, ?_,by simp;omega,uM.2 ⟨h7,fun x hx=> ?_⟩, ?_⟩
 ·by_cases hk:k<l.length
  ·exact .inl (by omega)
  ·right;have z:at0 l k.toNat=0:=eO (by omega);rw [z,Int.zero_mul] at hn;omega
 ·omega
 ·simp only [Ru] at hx;omega
 ·have ek:(k+1).toNat=k.toNat+1:=by omega
  have ev:n=n%10+10*(n/10):=by omega
  rw [ek,dP,jD,hlen];have e3:(10:Int) ^ (i+(k.toNat+1))=10 ^ (i+k.toNat)*10:=by rw [<-RK,SE]
  have e4:(10:Int) ^ (i+k.toNat)=10 ^ i*10 ^ k.toNat:=Int.pow_add ..;rw [e3];simp only [val,Int.mul_zero,Sc];generalize n%10=r at*;generalize n/10=q at*;generalize at0 l k.toNat=a at*;generalize val (l.take k.toNat)=v at*;generalize val o=vo at*;rw [e4] at h8⊢;generalize (10:Int) ^ i=A at*;generalize (10:Int) ^ k.toNat=B at*;grind
theorem N4 {l o:List Int} {i:Nat} {d k c:Int} (h:fQ l i d k c o) (h1: ¬k<l.length) (h2: ¬0<c):Dig o/\val o=10 ^ i*(d*val l)/\(o.length:Int)<=i+l.length+1:=by
 obtain ⟨k1,k2,k3,k4,k5,k6,k7,k8⟩:=h;have hc:c=0:=by omega
 rw [hc,Int.mul_zero,Sc,Rh (by omega)] at k8;exact ⟨k7,k8,by omega⟩
theorem Kp {l m:List Int} (i:Nat):val l*val (m.take (i+1))=val l*val (m.take i)+10 ^ i*(at0 m i*val l):=by
 rw [dP];generalize val l=a;generalize val (m.take i)=b;generalize at0 m i=c;generalize (10:Int) ^ i=d;grind
theorem og {l m:List Int} (hl:Dig l) (hm:Dig m) (i:Nat):0<=val l*val (m.take i):=Int.mul_nonneg (bK hl) (bK (fN hm i))
theorem N5 {l m:List Int} (hl:Dig l) (hm:Dig m) (i:Nat):(aD (val l*val (m.take i)).toNat).length<=l.length+m.length:=by
 refine eN ?_;have h1:=kL hl;have h2:=kL (fN hm i);have h3:(10:Int) ^ (m.take i).length<=10 ^ m.length:=AU (by rw [Rz];omega);have n1:=bK hl;have n2:=bK (fN hm i);have h4:val l*val (m.take i)<10 ^ l.length*10 ^ m.length:=by
  refine Int.lt_of_le_of_lt (Int.mul_le_mul_of_nonneg_right (Int.le_of_lt h1) n2) ?_;exact Int.mul_lt_mul_of_pos_left (by omega) (by omega)
 have h5:((10 ^ (l.length+m.length):Nat):Int)=10 ^ l.length*10 ^ m.length:=by
  rw [Int.natCast_pow,Int.pow_add];rfl
 exact (Int.toNat_lt (og hl hm i)).2 (by rw [h5];exact h4)
theorem Kq {s t:Bool} {l m:List Int} (h:Big s l) (k:Big t m):(big s l*big t m).natAbs=(val l*val m).toNat/\(decide (big s l*big t m<0)=((!s==t)&&decide ((0:Int)<((aD (val l*val m).toNat).length:Int)))):=by
 have hP:0<=val l*val m:=Int.mul_nonneg (bK h.1.dig) (bK k.1.dig);have hlen:(0:Int)<((aD (val l*val m).toNat).length:Int)↔val l*val m≠0:=by
  have h1:= @fK (val l*val m).toNat;have h2:= @List.length_eq_zero_iff _ (aD (val l*val m).toNat);rw [<-h2] at h1;omega
 have ed:decide ((0:Int)<((aD (val l*val m).toNat).length:Int))=decide (val l*val m≠0):=decide_eq_decide.2 hlen;rw [ed];cases s<;>cases t<;>simp only [big,if_true,Int.neg_mul,Int.mul_neg,Int.neg_neg,Rx,if_false]
 ·exact ⟨by omega,by simp;omega⟩
 ·refine ⟨by omega, ?_⟩;show decide (-(val l*val m)<0)=decide (val l*val m≠0);exact decide_eq_decide.2 (by omega)
 ·refine ⟨by omega, ?_⟩;show decide (-(val l*val m)<0)=decide (val l*val m≠0);exact decide_eq_decide.2 (by omega)
 ·exact ⟨by omega,by simp;omega⟩
def Gc (s t:Bool) (l m:List Int):Env where
 P:=Tryz.prog
 ty:=aJ
 specs:=ai [uO,Dd]
 frz:=fun|66=>true|67=>true|_=>false
 heads:=fun
  |3=>some {slots:=[(6, .int .i64),(5, .list .part I),(7, .any),(8, .any),(9, .any),(10, .any),(11, .any)],boxes:=[],keep:=[2,3,4],inv:=fun _ (x:Int×List Int×Unit×Unit×Unit×Unit×Unit×Unit)=>0<=x.1/\x.1<=m.length/\x.2.1=aD (val l*val (m.take x.1.toNat)).toNat,measure:=fun _ (x:Int×List Int×Unit×Unit×Unit×Unit×Unit×Unit)=>(m.length-x.1).toNat}
  |7=>some {slots:=[(8, .int .i64),(7, .slc 5000 I)],boxes:=[],keep:=[2,3,4],inv:=fun st (x:Int×List Int×Unit)=>0<=x.1/\x.1<=st.int 6/\x.2.1=List.replicate x.1.toNat 0,measure:=fun st (x:Int×List Int×Unit)=>(st.int 6-x.1).toNat}
  |12=>some {slots:=[(10, .int .i64),(9, .int .i64),(7, .slc 5001 I),(11, .any)],boxes:=[],keep:=[2,3,4],inv:=fun st (x:Int×Int×List Int×Unit×Unit)=>fQ l (st.int 6).toNat (at0 m (st.int 6).toNat) x.1 x.2.1 x.2.2.1,measure:=fun _ (x:Int×Int×List Int×Unit×Unit)=>10*(l.length+1-x.1).toNat+x.2.1.toNat}
  |_=>none
 joins:=fun
  |19=>some {slots:=[(7, .list .part I)],boxes:=[],keep:=[2,3,4],inv:=fun st (x:List Int×Unit)=>Dig x.1/\val x.1=10 ^ (st.int 6).toNat*(at0 m (st.int 6).toNat*val l)/\x.1.length<=300000}
  |17=>some {slots:=[(11, .int .i64)],boxes:=[],keep:=[2,3,4,5001],inv:=fun st (x:Int×Unit)=>x.1=st.int 9+at0 l (st.int 10).toNat*at0 m (st.int 6).toNat}
  |_=>none
abbrev Gd:Ann:={slots:=bB 0 [.bool, .list .part I],boxes:=[],inv:=fun _ _=>True}
def qK (s:Bool) (t:Bool) (l:List Int) (m:List Int):Prop:=
 ((some (Obj.box [V.bool s,V.list LK.part I l])=some (Obj.box [V.bool s,V.list LK.part I l])/\some (Obj.box [V.bool t,V.list LK.part I m])=some (Obj.box [V.bool t,V.list LK.part I m])/\some (Obj.box [V.kb false,V.nils])=some (Obj.box [V.kb false,V.nils])/\True)/\0<=(0:Int)/\0<=(↑m.length:Int)/\[]=aD (val l*val (List.take (Int.toNat (0:Int)) m)).toNat)/\∀(x:Int×List Int×Unit×Unit×Unit×Unit×Unit×Unit),0<=x.1/\x.1<=(↑m.length:Int)/\x.2.1=aD (val l*val (List.take x.1.toNat m)).toNat->(decide (x.1<(↑m.length:Int))=true->((some (Obj.box [V.bool s,V.list LK.part I l])=some (Obj.box [V.bool s,V.list LK.part I l])/\some (Obj.box [V.bool t,V.list LK.part I m])=some (Obj.box [V.bool t,V.list LK.part I m])/\some (Obj.box [V.kb false,V.nils])=some (Obj.box [V.kb false,V.nils])/\True)/\0<=(0:Int)/\0<=x.1/\[]=List.replicate (Int.toNat (0:Int)) (0:Int))/\∀(x_1:Int×List Int×Unit),0<=x_1.1/\x_1.1<=x.1/\x_1.2.1=List.replicate x_1.1.toNat (0:Int)->(decide (x_1.1<x.1)=true->((x_1.2.1.length+(1:Nat))*(8:Nat)<=(140737488355328:Nat)/\x_1.2.1.length+(1:Nat)<=(4611686018427387904:Nat))/\(-9223372036854775808<=x_1.1+1/\x_1.1+1<=9223372036854775807)/\(some (Obj.box [V.bool s,V.list LK.part I l])=some (Obj.box [V.bool s,V.list LK.part I l])/\some (Obj.box [V.bool t,V.list LK.part I m])=some (Obj.box [V.bool t,V.list LK.part I m])/\some (Obj.box [V.kb false,V.nils])=some (Obj.box [V.kb false,V.nils])/\True)/\(0<=x_1.1+1/\x_1.1+1<=x.1/\x_1.2.1++[(0:Int)]=List.replicate (x_1.1+1).toNat (0:Int))/\(x.1-(x_1.1+1)).toNat<(x.1-x_1.1).toNat)/\(decide (x_1.1<x.1)=false->(((some (Obj.box [V.bool s,V.list LK.part I l])=some (Obj.box [V.bool s,V.list LK.part I l])/\some (Obj.box [V.bool t,V.list LK.part I m])=some (Obj.box [V.bool t,V.list LK.part I m])/\some (Obj.box [V.kb false,V.nils])=some (Obj.box [V.kb false,V.nils])/\True)/\fQ l x.1.toNat (at0 m x.1.toNat) (0:Int) (0:Int) x_1.2.1)/\∀(x_2:Int×Int×List Int×Unit×Unit),fQ l x.1.toNat (at0 m x.1.toNat) x_2.1 x_2.2.1 x_2.2.2.1->(decide (x_2.1<(↑l.length:Int))=false->(decide ((0:Int)<x_2.2.1)=true->((decide (x_2.1<(↑l.length:Int))=true->(0<=x_2.1/\x_2.1<(↑l.length:Int))/\∀(x_3:Int),l[x_2.1.toNat]? =some x_3->(0<=x.1/\x.1<(↑m.length:Int))/\∀(x_4:Int),m[x.1.toNat]? =some x_4->(-9223372036854775808<=x_3*x_4/\x_3*x_4<=9223372036854775807)/\(-9223372036854775808<=x_2.2.1+x_3*x_4/\x_2.2.1+x_3*x_4<=9223372036854775807)/\(some (Obj.box [V.bool s,V.list LK.part I l])=some (Obj.box [V.bool s,V.list LK.part I l])/\some (Obj.box [V.bool t,V.list LK.part I m])=some (Obj.box [V.bool t,V.list LK.part I m])/\some (Obj.box [V.kb false,V.nils])=some (Obj.box [V.kb false,V.nils])/\some (Obj.arr (0:Nat) I x_2.2.2.1)=some (Obj.arr (0:Nat) I x_2.2.2.1)/\True)/\x_2.2.1+x_3*x_4=x_2.2.1+at0 l x_2.1.toNat*at0 m x.1.toNat)/\(decide (x_2.1<(↑l.length:Int))=false->(some (Obj.box [V.bool s,V.list LK.part I l])=some (Obj.box [V.bool s,V.list LK.part I l])/\some (Obj.box [V.bool t,V.list LK.part I m])=some (Obj.box [V.bool t,V.list LK.part I m])/\some (Obj.box [V.kb false,V.nils])=some (Obj.box [V.kb false,V.nils])/\some (Obj.arr (0:Nat) I x_2.2.2.1)=some (Obj.arr (0:Nat) I x_2.2.2.1)/\True)/\x_2.2.1=x_2.2.1+at0 l x_2.1.toNat*at0 m x.1.toNat))/\∀(x_3:Int×Unit),x_3.1=x_2.2.1+at0 l x_2.1.toNat*at0 m x.1.toNat->(10:Int)≠(0:Int)/\((x_2.2.2.1.length+(1:Nat))*(8:Nat)<=(140737488355328:Nat)/\x_2.2.2.1.length+(1:Nat)<=(4611686018427387904:Nat))/\(10:Int)≠(0:Int)/\(-9223372036854775808<=x_3.1.tdiv (10:Int)/\x_3.1.tdiv (10:Int)<=9223372036854775807)/\(-9223372036854775808<=x_2.1+1/\x_2.1+1<=9223372036854775807)/\(some (Obj.box [V.bool s,V.list LK.part I l])=some (Obj.box [V.bool s,V.list LK.part I l])/\some (Obj.box [V.bool t,V.list LK.part I m])=some (Obj.box [V.bool t,V.list LK.part I m])/\some (Obj.box [V.kb false,V.nils])=some (Obj.box [V.kb false,V.nils])/\True)/\fQ l x.1.toNat (at0 m x.1.toNat) (x_2.1+1) (x_3.1.tdiv (10:Int)) (x_2.2.2.1++[x_3.1.tmod (10:Int)])/\(10:Nat)*((↑l.length:Int)+1-(x_2.1+1)).toNat+(x_3.1.tdiv (10:Int)).toNat<(10:Nat)*((↑l.length:Int)+1-x_2.1).toNat+x_2.2.1.toNat)/\(decide ((0:Int)<x_2.2.1)=false->(some (Obj.box [V.bool s,V.list LK.part I l])=some (Obj.box [V.bool s,V.list LK.part I l])/\some (Obj.box [V.bool t,V.list LK.part I m])=some (Obj.box [V.bool t,V.list LK.part I m])/\some (Obj.box [V.kb false,V.nils])=some (Obj.box [V.kb false,V.nils])/\True)/\Dig x_2.2.2.1/\val x_2.2.2.1=(10:Int) ^ x.1.toNat*(at0 m x.1.toNat*val l)/\x_2.2.2.1.length<=(300000:Nat)))/\(decide (x_2.1<(↑l.length:Int))= !false->((decide (x_2.1<(↑l.length:Int))=true->(0<=x_2.1/\x_2.1<(↑l.length:Int))/\∀(x_3:Int),l[x_2.1.toNat]? =some x_3->(0<=x.1/\x.1<(↑m.length:Int))/\∀(x_4:Int),m[x.1.toNat]? =some x_4->(-9223372036854775808<=x_3*x_4/\x_3*x_4<=9223372036854775807)/\(-9223372036854775808<=x_2.2.1+x_3*x_4/\x_2.2.1+x_3*x_4<=9223372036854775807)/\(some (Obj.box [V.bool s,V.list LK.part I l])=some (Obj.box [V.bool s,V.list LK.part I l])/\some (Obj.box [V.bool t,V.list LK.part I m])=some (Obj.box [V.bool t,V.list LK.part I m])/\some (Obj.box [V.kb false,V.nils])=some (Obj.box [V.kb false,V.nils])/\some (Obj.arr (0:Nat) I x_2.2.2.1)=some (Obj.arr (0:Nat) I x_2.2.2.1)/\True)/\x_2.2.1+x_3*x_4=x_2.2.1+at0 l x_2.1.toNat*at0 m x.1.toNat)/\(decide (x_2.1<(↑l.length:Int))=false->(some (Obj.box [V.bool s,V.list LK.part I l])=some (Obj.box [V.bool s,V.list LK.part I l])/\some (Obj.box [V.bool t,V.list LK.part I m])=some (Obj.box [V.bool t,V.list LK.part I m])/\some (Obj.box [V.kb false,V.nils])=some (Obj.box [V.kb false,V.nils])/\some (Obj.arr (0:Nat) I x_2.2.2.1)=some (Obj.arr (0:Nat) I x_2.2.2.1)/\True)/\x_2.2.1=x_2.2.1+at0 l x_2.1.toNat*at0 m x.1.toNat))/\∀(x_3:Int×Unit),x_3.1=x_2.2.1+at0 l x_2.1.toNat*at0 m x.1.toNat->(10:Int)≠(0:Int)/\((x_2.2.2.1.length+(1:Nat))*(8:Nat)<=(140737488355328:Nat)/\x_2.2.2.1.length+(1:Nat)<=(4611686018427387904:Nat))/\(10:Int)≠(0:Int)/\(-9223372036854775808<=x_3.1.tdiv (10:Int)/\x_3.1.tdiv (10:Int)<=9223372036854775807)/\(-9223372036854775808<=x_2.1+1/\x_2.1+1<=9223372036854775807)/\(some (Obj.box [V.bool s,V.list LK.part I l])=some (Obj.box [V.bool s,V.list LK.part I l])/\some (Obj.box [V.bool t,V.list LK.part I m])=some (Obj.box [V.bool t,V.list LK.part I m])/\some (Obj.box [V.kb false,V.nils])=some (Obj.box [V.kb false,V.nils])/\True)/\fQ l x.1.toNat (at0 m x.1.toNat) (x_2.1+1) (x_3.1.tdiv (10:Int)) (x_2.2.2.1++[x_3.1.tmod (10:Int)])/\(10:Nat)*((↑l.length:Int)+1-(x_2.1+1)).toNat+(x_3.1.tdiv (10:Int)).toNat<(10:Nat)*((↑l.length:Int)+1-x_2.1).toNat+x_2.2.1.toNat))/\∀(x_2:List Int×Unit),Dig x_2.1/\val x_2.1=(10:Int) ^ x.1.toNat*(at0 m x.1.toNat*val l)/\x_2.1.length<=(300000:Nat)->(Dig x_2.1/\x_2.1.length<=(1000000000:Nat))/\(Dig x.2.1/\Dig (aD (val x_2.1).toNat)/\x.2.1.length<=(100000000:Nat)/\(aD (val x_2.1).toNat).length<=(100000000:Nat))/\(-9223372036854775808<=x.1+1/\x.1+1<=9223372036854775807)/\(some (Obj.box [V.bool s,V.list LK.part I l])=some (Obj.box [V.bool s,V.list LK.part I l])/\some (Obj.box [V.bool t,V.list LK.part I m])=some (Obj.box [V.bool t,V.list LK.part I m])/\some (Obj.box [V.kb false,V.nils])=some (Obj.box [V.kb false,V.nils])/\True)/\(0<=x.1+1/\x.1+1<=(↑m.length:Int)/\aD (val x.2.1+val (aD (val x_2.1).toNat)).toNat=aD (val l*val (List.take (x.1+1).toNat m)).toNat)/\((↑m.length:Int)-(x.1+1)).toNat<((↑m.length:Int)-x.1).toNat))/\(decide (x.1<(↑m.length:Int))=false->((!s==t)=true->True/\(decide ((0:Int)<(↑x.2.1.length:Int)),x.2.1,())=(decide (big s l*big t m<(0:Int)),aD (big s l*big t m).natAbs,()))/\((!s==t)= !true->True/\(false,x.2.1,())=(decide (big s l*big t m<(0:Int)),aD (big s l*big t m).natAbs,())))
theorem qL {l o : List Int} {i : Nat} {d k c n : Int} (hl : Dig l) (ll : l.length <= 100000) (hi : i <= 100000) (h : fQ l i d k c o) (hd : 0 <= d /\ d <= 9) (hc : k < l.length ∨ 0 < c) (hn : n = c + at0 l k.toNat * d) :
    ((o.length + 1) * 8 <= 140737488355328 /\ o.length + 1 <= 4611686018427387904) /\ (-9223372036854775808 <= n.tdiv 10 /\ n.tdiv 10 <= 9223372036854775807) /\ (-9223372036854775808 <= k + 1 /\ k + 1 <= 9223372036854775807) /\
      fQ l i d (k + 1) (n.tdiv 10) (o ++ [n.tmod 10]) /\ 10 * ((l.length : Int) + 1 - (k + 1)).toNat + (n.tdiv 10).toNat < 10 * ((l.length : Int) + 1 - k).toNat + c.toNat := by
  have hs := Ko hl h hd hc hn
  obtain ⟨s1, s2, s3, s4, s5, s6, s7, s8⟩ := hs
  obtain ⟨h1, h2, h3, h4, h5, h6, h7, h8⟩ := h
  exact ⟨by omega, by omega, by omega, ⟨s1, s2, s3, s4, s5, s6, s7, s8⟩, by omega⟩
theorem Bf {l m:List Int} {i j:Nat} {p q:Int} (hl:Dig l) (hm:Dig m) (hp:l[i]? =some p) (hq:m[j]? =some q):0<=p*q/\p*q<=81/\p*q=at0 l i*at0 m j:=by
 have a:=gi hl hp;have b:=gi hm hq;have p1:0<=p*q:=Int.mul_nonneg a.1 b.1;have p2:p*q<=9*9:=Int.mul_le_mul a.2 b.2 b.1 (by omega);exact ⟨p1,by omega,by rw [fO hp,fO hq]⟩
theorem Bg (s t:Bool) (l m:List Int) (h:Big s l/\Big t m/\l.length<=100000/\m.length<=100000):qK s t l m:=by
 obtain ⟨hl,hm,ll,lm⟩:=h;have dl:=hl.1.dig;have dm:=hm.1.dig;unfold qK;simp only [Q7,Q6,Rg];refine ⟨⟨⟨by trivial,by trivial,by trivial,by trivial⟩,by omega,by omega,by simp [val,bT]⟩,fun x hx=>⟨fun c=> ?_,fun c=> ?_⟩⟩
 ·obtain ⟨x1,x2,x3⟩:=hx;have hd:=eH dm x.1.toNat;refine ⟨⟨⟨by trivial,by trivial,by trivial,by trivial⟩,by omega,by omega,by trivial⟩,fun y hy=>⟨fun d=> ?_,fun d=>⟨⟨⟨⟨by trivial,by trivial,by trivial,by trivial⟩, ?_⟩,fun z hz=> ?_⟩,fun u hu=> ?_⟩⟩⟩
  ·have yl:y.2.1.length<=100000:=by rw [hy.2.2,List.length_replicate];omega
   refine ⟨⟨by omega,by omega⟩,by omega,⟨by trivial,by trivial,by trivial,by trivial⟩,⟨by omega,by omega, ?_⟩,by omega⟩;rw [hy.2.2,aM hy.1,List.replicate_succ']
  ·have e:y.1=x.1:=by omega
   rw [hy.2.2,e];exact QU l _ _
  ·have hz':=hz;obtain ⟨z1,z2,z3,z4,z5,z6,z7,z8⟩:=hz';refine ⟨fun e=>⟨fun f=>⟨⟨fun g=>absurd g e,fun g=>⟨⟨by trivial,by trivial,by trivial,by trivial,by trivial⟩, ?_⟩⟩,fun n hn=> ?_⟩,fun f=> ?_⟩,fun e=>⟨⟨fun g=>⟨⟨z1,g⟩,fun p hp=>⟨⟨x1,c⟩,fun q hq=> ?_⟩⟩,fun g=>absurd e g⟩,fun n hn=> ?_⟩⟩
   ·rw [eO (by omega),Int.zero_mul,Sc]
   ·obtain ⟨b1,b2,b3,b4,b5⟩:=qL dl ll (by omega) hz hd (.inr f) hn;exact ⟨by omega,b1,by omega,b2,b3,⟨by trivial,by trivial,by trivial,by trivial⟩,b4,b5⟩
   ·obtain ⟨r1,r2,r3⟩:=N4 hz e f;exact ⟨⟨by trivial,by trivial,by trivial,by trivial⟩,r1,r2,by omega⟩
   ·obtain ⟨p1,p2,p3⟩:=Bf dl dm hp hq;exact ⟨by omega,by omega,⟨by trivial,by trivial,by trivial,by trivial,by trivial⟩,by rw [p3]⟩
   ·obtain ⟨b1,b2,b3,b4,b5⟩:=qL dl ll (by omega) hz hd (.inl e) hn;exact ⟨by omega,b1,by omega,b2,b3,⟨by trivial,by trivial,by trivial,by trivial⟩,b4,b5⟩
  ·obtain ⟨u1,u2,u3⟩:=hu;have n1:=og dl dm x.1.toNat;have n2:=bK u1;have l1:=N5 dl dm x.1.toNat;have l2:(aD (val u.1).toNat).length<=u.1.length:=by
    refine eN ?_;have:=kL u1;exact (Int.toNat_lt n2).2 (by rw [Int.natCast_pow];exact this)
   refine ⟨⟨u1,by omega⟩,⟨by rw [x3];exact qv _,qv _,by rw [x3];omega,by omega⟩,by omega,⟨by trivial,by trivial,by trivial,by trivial⟩,⟨by omega,by omega, ?_⟩,by omega⟩;rw [x3,gN,gN,aM x1,Kp,<-u2];congr 1;omega
 ·have e:x.2.1=aD (val l*val m).toNat:=by rw [hx.2.2,Rh (by omega)]
  obtain ⟨b1,b2⟩:=Kq hl hm;rw [e,b1,b2];refine ⟨fun d=>⟨trivial, ?_⟩,fun d=>⟨trivial, ?_⟩⟩
  ·rw [d,SG]
  ·rw [d];rfl
set_option maxRecDepth 20000
def Kr:FSpec Tryz.prog:=mkG 115 (.c (.g (.c .b (.c (.p I) .z))) (.c (.g (.c .b (.c (.p I) .z))) .z)) (fun x=>(fun (s t:Bool) (l m:List Int)=>(Big s l/\Big t m/\l.length<=100000/\m.length<=100000,(.agg [.bool (decide (big s l*big t m<0)), .list .part I (aD (big s l*big t m).natAbs)]))) x.1.1 x.2.1.1 x.1.2.1 x.2.1.2.1) fun ⟨⟨s,l,_⟩,⟨t,m,_⟩,_⟩ h=>Pure.of_condG (E:=Gc s t l m) (sh:=[some 2]) (ann:=Gd) (x:=(fun (s t:Bool) (l m:List Int)=>(decide (big s l*big t m<0),aD (big s l*big t m).natAbs,())) s t l m) (by kernel_rfl) (Bg s t l m h) rfl (ab rfl _ [] rfl rfl) mixed Tryz.func115
end
section
open Go.Vm
def ct (n:Int) (c:UInt8):Int:=if gm c then n*10+((c.toNat:Int)-48) else n
def pz (s:By):Int:=s.foldl ct 0
def pzs (s:By):Int:=if s.head? =some 45 then 0-pz s else pz s
def x9 (D:By):Prop:= ∀c∈D,gm c=true
theorem cc {c:UInt8}:gm c=true↔48<=c.toNat/\c.toNat<=57:=by
 simp only [gm,Ri,Q7];omega
theorem Dh (s:By) (c:UInt8):pz (s++[c])=ct (pz s) c:=by simp [pz]
theorem uW {s:By} {i:Nat} {c:UInt8} (h:s[i]? =some c):pz (s.take (i+1))=ct (pz (s.take i)) c:=by rw [jF h,Dh]
theorem qM: ∀(s:By) (n:Int) (k:Nat),0<=n->n<10 ^ k->n<=s.foldl ct n/\s.foldl ct n<10 ^ (k+s.length)
 |[],n,k,h0,h1=>⟨SA _,h1⟩
 |c::r,n,k,h0,h1=>by
  have e:(10:Int) ^ (k+1)=10 ^ k*10:=SE ..;have h2:n<=ct n c/\ct n c<10 ^ (k+1):=by
   unfold ct;split
   ·rename_i hd;have:=cc.1 hd;omega
   ·omega
  obtain ⟨k1,k2⟩:=qM r (ct n c) (k+1) (by omega) h2.2;rw [Sf,Rj];refine ⟨by omega, ?_⟩;rw [show k+(r.length+1)=k+1+r.length by omega];exact k2
theorem gQ (s:By):0<=pz s/\pz s<10 ^ s.length:=by
 have:=qM s 0 0 (by omega) (by omega);rw [RQ] at this;exact this
theorem P6 (s:By):(aD (pz s).natAbs).length<=s.length:=by
 obtain ⟨h1,h2⟩:=gQ s;refine eN ?_;have h3:pz s<((10 ^ s.length:Nat):Int):=by rw [Int.natCast_pow];exact h2
 omega
theorem Ks (D:By):pz (45::D)=pz D:=by
 unfold pz;rw [Sf];rfl
theorem x_ {l m:By} (h:l≠[]):(l++m).head? =l.head? :=by
 cases l with
 |nil=>exact absurd rfl h
 |cons x r=>rfl
theorem P7 (n:Nat):Lib.decDigits n≠[]:=by
 intro c;have h1:=Lib.decDigits_length n;have h2:=Lib.nDigits_pos n;rw [c] at h1;simp at h1;omega
theorem ya {n:Nat} (h:0<n):(Lib.decDigits n).head? ≠some 48:=by
 induction n using Nat.strongRecOn with
 |_ n ih=>
  by_cases h10:n<10
  ·rw [Lib.decDigits,dif_pos h10];simp only [List.head?_cons,ne_eq,Q9];intro c;have:=congrArg UInt8.toNat c;rw [UInt8.toNat_ofNat'] at this;have e:(48:UInt8).toNat=48:=rfl;omega
  ·rw [Lib.decDigits,dif_neg h10];rw [x_ (P7 _)];exact ih (n/10) (by omega) (by omega)
theorem Bh: ∀(n:Nat) (D:By),D.length=n->D≠[]->x9 D->(D.head? ≠some 48∨D.length=1)->Lib.decDigits (pz D).toNat=D:=by
 intro n;induction n with
 |zero=>intro D h1 h2;exact absurd (Rk h1) h2
 |succ n ih=>
  intro D hlen hne hD hc;obtain ⟨D',c,rfl⟩: ∃D' c,D=D'++[c]:=⟨D.dropLast,D.getLast hne,(List.dropLast_concat_getLast hne).symm⟩
  have hcd:=cc.1 (hD c (by simp));have hpc:pz (D'++[c])=pz D'*10+((c.toNat:Int)-48):=by
   rw [Dh];unfold ct;rw [Q_ (cc.2 hcd)]
  have p0:=(gQ D').1;have ec: ∀m:Nat,m=c.toNat-48->UInt8.ofNat (48+m)=c:=by
   intro m hm;rw [hm,show 48+(c.toNat-48)=c.toNat by omega];exact UInt8.ofNat_toNat
  by_cases h':D'=[]
  ·subst h';have e:pz ([]++[c])=(c.toNat:Int)-48:=by rw [hpc];simp [pz]
   rw [e,Lib.decDigits,dif_pos (by omega)];simp only [RM];rw [ec _ (by omega)]
  ·have hh:D'.head? ≠some 48:=by
    rcases hc with h|h
    ·rw [x_ h'] at h;exact h
    ·have:D'.length≠0:=fun k=>h' (Rk k);simp at h;exact absurd h h'
   have hi:=ih D' (by simpa using hlen) h' (fun x hx=>hD x (by simp [hx])) (.inl hh);have p1:1<=pz D':=by
    by_cases k:pz D'=0
    ·rw [k] at hi;have:Lib.decDigits (Int.toNat 0)=[48]:=by
      rw [Lib.decDigits,dif_pos (by decide)];rfl
     rw [this] at hi;rw [<-hi] at hh;exact absurd rfl hh
    ·omega
   rw [hpc,Lib.decDigits,dif_neg (by omega)];have e1:(pz D'*10+((c.toNat:Int)-48)).toNat/10=(pz D').toNat:=by omega
   rw [e1,hi,ec _ (by omega)]
theorem N6 {D:By} (hne:D≠[]) (hD:x9 D):Lib.decDigits (pz D).toNat=D↔(D.head? ≠some 48∨D.length=1):=by
 refine ⟨fun h=> ?_,Bh _ D rfl hne hD⟩;by_cases k:(pz D).toNat=0
 ·right;rw [k] at h;have:Lib.decDigits 0=[48]:=by
   rw [Lib.decDigits,dif_pos (by decide)];rfl
  rw [this] at h;rw [<-h];rfl
 ·left;rw [<-h];exact ya (by omega)
theorem Di: ∀(D:By) (acc:Nat),x9 D->acc<18446744073709551616->Lib.parseUint10 acc D=if D.foldl ct (acc:Int)<18446744073709551616 then .ok (D.foldl ct (acc:Int)).toNat else .range
 |[],acc,_,h=>by
  unfold Lib.parseUint10;rw [List.foldl_nil,Q_ (by omega)];simp
 |c::r,acc,hD,h=>by
  have hd:=hD c (by simp);have hcd:=cc.1 hd;have hr:x9 r:=fun x hx=>hD x (by simp [hx]);have he:ct (acc:Int) c=((acc*10+(c.toNat-48):Nat):Int):=by
   unfold ct;rw [Q_ hd];omega
  have hge:((acc*10+(c.toNat-48):Nat):Int)<=r.foldl ct ((acc*10+(c.toNat-48):Nat):Int):=by
   have: ∀(l:By) (n:Int),0<=n->n<=l.foldl ct n:=by
    intro l;induction l with
    |nil=>intro n _;exact SA _
    |cons x l ih=>
     intro n hn;have h2:n<=ct n x:=by
      unfold ct;split
      ·rename_i hx;have:=cc.1 hx;omega
      ·omega
     exact Int.le_trans h2 (ih _ (by omega))
   exact this r _ (by omega)
  rw [Sf,he];unfold Lib.parseUint10;rw [Q_ hcd];by_cases h1:1844674407370955162<=acc
  ·rw [Q_ h1,Q8 (by omega)]
  ·rw [Q8 h1];by_cases h2:18446744073709551616<=acc*10+(c.toNat-48)
   ·rw [Q_ h2,Q8 (by omega)]
   ·rw [Q8 h2];exact Di r _ hr (by omega)
theorem Dj {D:By} (hne:D≠[]) (hD:x9 D):Lib.parseMag D=if pz D<18446744073709551616 then .ok (pz D).toNat else .range:=by
 unfold Lib.parseMag;rw [Q8 hne,Di D 0 hD (by decide)];rfl
theorem yb {D:By} (hD:x9 D):D.head? ≠some 45:=by
 cases D with
 |nil=>simp
 |cons c r=>
  have:=cc.1 (hD c (by simp));simp only [List.head?_cons,ne_eq,Q9];intro k;rw [k] at this;exact absurd this (by decide)
def Kt (t D:By):Prop:=D≠[]/\x9 D/\(t=D∨t=45::D)
theorem Ku {t D:By} (h:Kt t D):Lib.atoiAll t=if -9223372036854775808<=pzs t/\pzs t<=9223372036854775807 then .ok (pzs t) else .range:=by
 obtain ⟨hne,hD,ht⟩:=h;have p0:=(gQ D).1;rcases ht with rfl|rfl
 ·have hp:pzs t=pz t:=by unfold pzs;rw [Q8 (yb hD)]
  rw [hp];cases t with
  |nil=>exact absurd rfl hne
  |cons c r=>
   have hcd:=cc.1 (hD c (by simp));unfold Lib.atoiAll;simp only;rw [Q8 (by omega),Dj hne hD];by_cases h1:pz (c::r)<18446744073709551616
   ·rw [Q_ h1];simp only;by_cases h2:pz (c::r)<=9223372036854775807
    ·rw [Q8 (by omega),Q8 (by omega),Q8 (by omega),Q_ (by omega)];congr 1;omega
    ·rw [Q_ (by omega),Q8 (by omega)]
   ·rw [Q8 h1,Q8 (by omega)]
 ·have hp:pzs (45::D)=0-pz D:=by
   unfold pzs;rw [Q_ (show (45::D:By).head? =some 45 from rfl),Ks]
  rw [hp];unfold Lib.atoiAll;have e45:(45:UInt8).toNat=45:=rfl;simp only [e45,or_true,if_true,not_true_eq_false,false_and,if_false,true_and];rw [Dj hne hD];by_cases h1:pz D<18446744073709551616
  ·rw [Q_ h1];simp only;by_cases h2:pz D<=9223372036854775808
   ·rw [Q8 (by omega),Q_ (by omega)];congr 1;omega
   ·rw [Q_ (by omega),Q8 (by omega)]
  ·rw [Q8 h1,Q8 (by omega)]
theorem Kv {t D:By} (h:Kt t D):Lib.itoa (pzs t)=t↔¬(D.head? =some 48/\(D.length≠1∨t=45::D)):=by
 obtain ⟨hne,hD,ht⟩:=h;have p0:=(gQ D).1;have hnt:D≠45::D:=fun k=>by have:=congrArg List.length k;simp at this
 rcases ht with rfl|rfl
 ·have hp:pzs t=pz t:=by unfold pzs;rw [Q8 (yb hD)]
  rw [hp];unfold Lib.itoa;rw [Q8 (by omega),N6 hne hD];constructor
  ·rintro (k|k) ⟨k1,k2⟩
   ·exact k k1
   ·exact k2.elim (fun q=>q k) (fun q=>hnt q)
  ·intro k;by_cases k1:t.head? =some 48
   ·right;exact Classical.byContradiction fun q=>k ⟨k1, .inl q⟩
   ·exact .inl k1
 ·have hp:pzs (45::D)=0-pz D:=by
   unfold pzs;rw [Q_ (show (45::D:By).head? =some 45 from rfl),Ks]
  rw [hp];unfold Lib.itoa;by_cases z:pz D=0
  ·rw [Q8 (by omega)];have e:Lib.decDigits (0-pz D).toNat=[48]:=by
    rw [z,Lib.decDigits,dif_pos (by decide)];rfl
   rw [e];constructor
   ·intro k;exact absurd (List.cons.inj k).1 (by decide)
   ·intro k;exfalso;refine k ⟨?_, .inr rfl⟩;exact Classical.byContradiction fun q=>by
     have:=Bh _ D rfl hne hD (.inl q);rw [z,Lib.decDigits,dif_pos (by decide)] at this;rw [<-this] at q;exact q rfl
  ·rw [Q_ (by omega)];have e:(0-pz D).natAbs=(pz D).toNat:=by omega
   rw [e];constructor
   ·intro k;have k':=(List.cons.inj k).2;rintro ⟨k1,_⟩;have:=ya (n:=(pz D).toNat) (by omega);rw [k'] at this;exact this k1
   ·intro k;have k1:D.head? ≠some 48:=fun q=>k ⟨q, .inr rfl⟩;rw [Bh _ D rfl hne hD (.inl k1)]
theorem jG (r:By):Lib.hasPrefix r [45]=true↔r.head? =some 45:=by
 unfold Lib.hasPrefix;cases r with
 |nil=>simp [List.isPrefixOf]
 |cons c r=>
  simp only [List.isPrefixOf,List.head?_cons,Q9,Bool.and_true,beq_iff_eq];exact eq_comm
theorem ip (r:By):Lib.trimPrefix r [45]=if r.head? =some 45 then r.drop 1 else r:=by
 unfold Lib.trimPrefix;by_cases h:r.head? =some 45
 ·rw [Q_ ((jG r).2 h),Q_ h];rfl
 ·rw [Q8 (fun k=>h ((jG r).1 k)),Q8 h]
def dOf (r:By):By:=(Lib.trimPrefix r [45]).takeWhile gm
def ch (r:By):Int:=r.length-(Lib.trimPrefix r [45]).length+aU (Lib.trimPrefix r [45])
theorem uX (r:By):((dOf r).length:Int)=aU (Lib.trimPrefix r [45]):=rfl
theorem Dk (r:By):x9 (dOf r):=fun c hc=>by
 have:=List.all_takeWhile (p:=gm) (l:=Lib.trimPrefix r [45]);exact RL.1 this c hc
theorem yc (r:By):dOf r=(Lib.trimPrefix r [45]).take (dOf r).length:=List.prefix_iff_eq_take.1 (List.takeWhile_prefix _)
theorem Kw {r:By} (h:aU (Lib.trimPrefix r [45])≠0):(dOf r).head? =(Lib.trimPrefix r [45]).head? :=by
 have hl:=uX r;have ht:=yc r;generalize Lib.trimPrefix r [45]=b at*;cases b with
 |nil=>rw [ht];simp
 |cons c q=>
  rw [ht];obtain ⟨k,hk⟩: ∃k,(dOf r).length=k+1:=⟨(dOf r).length-1,by omega⟩
  rw [hk];rfl
theorem jf {r:By} (h:aU (Lib.trimPrefix r [45])≠0):Kt (r.take (ch r).toNat) (dOf r)/\(r.take (ch r).toNat=45::dOf r↔Lib.hasPrefix r [45]=true)/\0<=ch r/\ch r<=r.length:=by
 have hl:=uX r;have ht:=yc r;have hlt:(dOf r).length<=(Lib.trimPrefix r [45]).length:=(List.takeWhile_prefix gm).length_le;have hne:dOf r≠[]:=fun k=>h (by rw [<-hl,k];rfl);have hnt:dOf r≠45::dOf r:=fun k=>by have:=congrArg List.length k;simp at this
 by_cases hm:r.head? =some 45
 ·have hb:Lib.trimPrefix r [45]=r.drop 1:=by rw [ip,Q_ hm]
  cases r with
  |nil=>simp at hm
  |cons c q=>
   have hc:c=45:=by simpa using hm
   subst hc;have hbq:Lib.trimPrefix (45::q) [45]=q:=hb;have hw:ch (45::q)=(dOf (45::q)).length+1:=by
    unfold ch;rw [<-hl,hbq,Rj];omega
   have e:(45::q).take (ch (45::q)).toNat=45::dOf (45::q):=by
    rw [hw,show (((dOf (45::q)).length:Int)+1).toNat=(dOf (45::q)).length+1 by omega,List.take_succ_cons];congr 1;rw [hbq] at ht;exact ht.symm
   rw [hbq] at hlt;refine ⟨⟨hne,Dk _, .inr e⟩,⟨fun _=>(jG _).2 rfl,fun _=>e⟩,by omega,by rw [hw,Rj];omega⟩
 ·have hb:Lib.trimPrefix r [45]=r:=by rw [ip,Q8 hm]
  have hw:ch r=(dOf r).length:=by
   unfold ch;rw [<-hl,hb];omega
  have e:r.take (ch r).toNat=dOf r:=by
   rw [hw,R3];rw [hb] at ht;exact ht.symm
  rw [hb] at hlt;exact ⟨⟨hne,Dk _, .inl e⟩,⟨fun k=>absurd (e.symm.trans k) hnt,fun k=>absurd ((jG r).1 k) hm⟩,by omega,by omega⟩
theorem qN {r:By} (h:aU (Lib.trimPrefix r [45])≠0):Lib.itoa (pzs (r.take (ch r).toNat))=r.take (ch r).toNat↔
 ¬((Lib.trimPrefix r [45]).head? =some 48/\(1<aU (Lib.trimPrefix r [45])∨Lib.hasPrefix r [45]=true)):=by
 obtain ⟨h1,h2,_⟩:=jf h;have hl:=uX r;have hpos:0<=aU (Lib.trimPrefix r [45]):=by unfold aU;omega
 rw [Kv h1,Kw h,h2];have:(dOf r).length≠1↔1<aU (Lib.trimPrefix r [45]):=by omega
 rw [this]
end
section
open Go.Vm
def bz (d:Int):Bool:=decide (0<=d)&&decide (d<=6)
def ic (d:Int):Env:=ee
def da (d:Int):Prop:=
 (ag (0<=d)->(decide (d<=6),())=(bz d,()))/\(aP (0<=d)->(false,())=(bz d,()))
theorem fF (d:Int):da d:=by
 unfold da aP ag bz;refine ⟨fun h=> ?_,fun h=> ?_⟩
 ·rw [h];rfl
 ·rw [h];rfl
set_option maxRecDepth 20000
def iM:FSpec Tryz.prog:=mkF 113 (.c .j .z) [.bool] (fun x=>(fun (d:Int)=>(True,bz d,())) x.1) fun ⟨d,_⟩ _=>av (E:=ic d) (fF d) (ab rfl [] [] rfl rfl) Tryz.func113
def bk (s:By):Int×Int:=if Lib.itoa (pzs s)=s then (fJ (pzs s),dX (pzs s)) else (0,5)
def Ge (s:By) (d:Int):Env where
 P:=Tryz.prog
 ty:=aJ
 specs:=ai [iM,JE,Kr,qh,De,N3,NO]
 frz:=fun|28=>true|29=>true|35=>true|36=>true|46=>true|49=>true|53=>true|_=>false
 heads:=fun
  |5=>some {slots:=[(7, .int .i64)],boxes:=[(6,[.bool, .list .part I])],inv:=fun _ (x:Int×Bool×List Int×Unit)=>0<=x.1/\x.1<=s.length/\x.2.1=decide (pz (s.take x.1.toNat)<0)/\x.2.2.1=aD (pz (s.take x.1.toNat)).natAbs,measure:=fun _ (x:Int×Bool×List Int×Unit)=>(s.length-x.1).toNat}
  |_=>none
def qO (s:By) (d:Int):Prop:=
 True/\((!bz d)=true->((0:Int),(2:Int),())=((bk s).1,(bk s).2,()))/\((!bz d)=false->(True/\0<=(0:Int)/\0<=(↑(List.length s):Int)/\false=decide (pz (List.take (Int.toNat 0) s)<0)/\[]=aD (pz (List.take (Int.toNat 0) s)).natAbs)/\∀(x:Int×Bool×List Int×Unit),0<=x.1/\x.1<=(↑(List.length s):Int)/\x.2.1=decide (pz (List.take x.1.toNat s)<0)/\x.2.2.1=aD (pz (List.take x.1.toNat s)).natAbs->(decide (x.1<(↑(List.length s):Int))=true->(0<=x.1/\x.1<(↑(List.length s):Int))/\∀(c:UInt8),s[x.1.toNat]? =some c->(decide ((48:Int)<=(↑c.toNat:Int))=true->(0<=x.1/\x.1<(↑(List.length s):Int))/\∀(c:UInt8),s[x.1.toNat]? =some c->(decide ((↑c.toNat:Int)<=(57:Int))=true->InI 10/\(Big x.2.1 x.2.2.1/\Big (decide ((10:Int)<(0:Int))) (aD (Int.natAbs 10))/\x.2.2.1.length<=(100000:Nat)/\(aD (Int.natAbs 10)).length<=(100000:Nat))/\(0<=x.1/\x.1<(↑(List.length s):Int))/\∀(c:UInt8),s[x.1.toNat]? =some c->(au (↑c.toNat:Int))/\(au ((↑c.toNat:Int)-(48:Int)))/\InI ((↑c.toNat:Int)-(48:Int))/\(Big (decide (big x.2.1 x.2.2.1*big (decide ((10:Int)<(0:Int))) (aD (Int.natAbs 10))<0)) (aD (big x.2.1 x.2.2.1*big (decide ((10:Int)<(0:Int))) (aD (Int.natAbs 10))).natAbs)/\Big (decide ((↑c.toNat:Int)-(48:Int)<(0:Int))) (aD ((↑c.toNat:Int)-(48:Int)).natAbs)/\(aD (big x.2.1 x.2.2.1*big (decide ((10:Int)<(0:Int))) (aD (Int.natAbs 10))).natAbs).length<=(1000000:Nat)/\(aD ((↑c.toNat:Int)-(48:Int)).natAbs).length<=(1000000:Nat))/\(au (x.1+1))/\True/\(0<=x.1+1/\x.1+1<=(↑(List.length s):Int)/\decide (big (decide (big x.2.1 x.2.2.1*big (decide ((10:Int)<(0:Int))) (aD (Int.natAbs 10))<0)) (aD (big x.2.1 x.2.2.1*big (decide ((10:Int)<(0:Int))) (aD (Int.natAbs 10))).natAbs)+big (decide ((↑c.toNat:Int)-(48:Int)<(0:Int))) (aD ((↑c.toNat:Int)-(48:Int)).natAbs)<0)=decide (pz (List.take (x.1+1).toNat s)<0)/\aD (big (decide (big x.2.1 x.2.2.1*big (decide ((10:Int)<(0:Int))) (aD (Int.natAbs 10))<0)) (aD (big x.2.1 x.2.2.1*big (decide ((10:Int)<(0:Int))) (aD (Int.natAbs 10))).natAbs)+big (decide ((↑c.toNat:Int)-(48:Int)<(0:Int))) (aD ((↑c.toNat:Int)-(48:Int)).natAbs)).natAbs=aD (pz (List.take (x.1+1).toNat s)).natAbs)/\((↑(List.length s):Int)-(x.1+1)).toNat<((↑(List.length s):Int)-x.1).toNat)/\(decide ((↑c.toNat:Int)<=(57:Int))=false->(au (x.1+1))/\True/\(0<=x.1+1/\x.1+1<=(↑(List.length s):Int)/\x.2.1=decide (pz (List.take (x.1+1).toNat s)<0)/\x.2.2.1=aD (pz (List.take (x.1+1).toNat s)).natAbs)/\((↑(List.length s):Int)-(x.1+1)).toNat<((↑(List.length s):Int)-x.1).toNat))/\(decide ((48:Int)<=(↑c.toNat:Int))= !true->(au (x.1+1))/\True/\(0<=x.1+1/\x.1+1<=(↑(List.length s):Int)/\x.2.1=decide (pz (List.take (x.1+1).toNat s)<0)/\x.2.2.1=aD (pz (List.take (x.1+1).toNat s)).natAbs)/\((↑(List.length s):Int)-(x.1+1)).toNat<((↑(List.length s):Int)-x.1).toNat))/\(decide (x.1<(↑(List.length s):Int))=false->(decide ((0:Int)<(↑(List.length s):Int))=true->(0<=(0:Int)/\(0:Int)<(↑(List.length s):Int))/\∀(c:UInt8),s[Int.toNat 0]? =some c->(decide ((↑c.toNat:Int)=(45:Int))=true->Big x.2.1 x.2.2.1/\(d=0/\Big (decide ((0:Int)-big x.2.1 x.2.2.1<0)) (aD ((0:Int)-big x.2.1 x.2.2.1).natAbs)/\(aD ((0:Int)-big x.2.1 x.2.2.1).natAbs).length<=(1000000:Nat))/\((!decide (Lib.itoa (big (decide ((0:Int)-big x.2.1 x.2.2.1<0)) (aD ((0:Int)-big x.2.1 x.2.2.1).natAbs))=s))=true->((0:Int),(5:Int),())=((bk s).1,(bk s).2,()))/\((!decide (Lib.itoa (big (decide ((0:Int)-big x.2.1 x.2.2.1<0)) (aD ((0:Int)-big x.2.1 x.2.2.1).natAbs))=s))=false->(Big (decide ((0:Int)-big x.2.1 x.2.2.1<0)) (aD ((0:Int)-big x.2.1 x.2.2.1).natAbs)/\(aD ((0:Int)-big x.2.1 x.2.2.1).natAbs).length<=(1000000:Nat))/\(fJ (big (decide ((0:Int)-big x.2.1 x.2.2.1<0)) (aD ((0:Int)-big x.2.1 x.2.2.1).natAbs)),dX (big (decide ((0:Int)-big x.2.1 x.2.2.1<0)) (aD ((0:Int)-big x.2.1 x.2.2.1).natAbs)),())=((bk s).1,(bk s).2,())))/\(decide ((↑c.toNat:Int)=(45:Int))=false->(d=0/\Big x.2.1 x.2.2.1/\x.2.2.1.length<=(1000000:Nat))/\((!decide (Lib.itoa (big x.2.1 x.2.2.1)=s))=true->((0:Int),(5:Int),())=((bk s).1,(bk s).2,()))/\((!decide (Lib.itoa (big x.2.1 x.2.2.1)=s))=false->(Big x.2.1 x.2.2.1/\x.2.2.1.length<=(1000000:Nat))/\(fJ (big x.2.1 x.2.2.1),dX (big x.2.1 x.2.2.1),())=((bk s).1,(bk s).2,()))))/\(decide ((0:Int)<(↑(List.length s):Int))= !true->(d=0/\Big x.2.1 x.2.2.1/\x.2.2.1.length<=(1000000:Nat))/\((!decide (Lib.itoa (big x.2.1 x.2.2.1)=s))=true->((0:Int),(5:Int),())=((bk s).1,(bk s).2,()))/\((!decide (Lib.itoa (big x.2.1 x.2.2.1)=s))=false->(Big x.2.1 x.2.2.1/\x.2.2.1.length<=(1000000:Nat))/\(fJ (big x.2.1 x.2.2.1),dX (big x.2.1 x.2.2.1),())=((bk s).1,(bk s).2,())))))
theorem iq {s:By} (h: ¬Lib.itoa (pzs s)=s):bk s=(0,5):=by unfold bk;rw [Q8 h]
theorem jH {s:By} (h:Lib.itoa (pzs s)=s):bk s=(fJ (pzs s),dX (pzs s)):=by unfold bk;rw [Q_ h]
theorem Kx (s:By):(aD (pz s*10).natAbs).length<=s.length+1:=by
 obtain ⟨h1,h2⟩:=gQ s;refine eN ?_;have h3:((10 ^ (s.length+1):Nat):Int)=10 ^ s.length*10:=by rw [Int.natCast_pow,SE];rfl
 omega
theorem Bi (s:By) (d:Int) (h:d=0/\s.length<=10000):qO s d:=by
 obtain ⟨rfl,hl⟩:=h;have hm:bz 0=true:=rfl;unfold qO;rw [hm];refine ⟨trivial,fun c=>(by cases c),fun _=>⟨⟨trivial,by omega,by omega,by simp [pz],by simp [pz,bT]⟩,fun x hx=> ?_⟩⟩;obtain ⟨i,b,D,⟨⟩⟩:=x;obtain ⟨x1,x2,x3,x4⟩:=hx;dsimp only at x1 x2 x3 x4⊢;rw [x3,x4];clear x3 x4;have hz:=gQ (s.take i.toNat);have hzl:=P6 (s.take i.toNat);have htl:(s.take i.toNat).length<=10000:=by rw [Rz];omega
 have h10:=Kx (s.take i.toNat);have hb10:(aD (Int.natAbs 10)).length<=100000:=Ro (i6 (n:=10) ⟨by decide,by decide⟩) (by omega);simp only [Q7,Q6,Rb,Rd,Rl];simp only [fI];refine ⟨fun c=>⟨⟨x1,c⟩,fun q hq=>⟨fun d=>⟨⟨x1,c⟩,fun q2 hq2=>⟨fun e=> ?_,fun e=> ?_⟩⟩,fun d=> ?_⟩⟩,fun c=> ?_⟩
 ·rw [hq] at hq2;cases hq2;have hdig:gm q=true:=cc.2 (by omega);have hlt:=q.toNat_lt;have hin:InI ((q.toNat:Int)-48):=⟨by omega,by omega⟩
  refine ⟨⟨by decide,by decide⟩,⟨bO _,bO _,by omega,hb10⟩,⟨x1,c⟩,fun q3 hq3=> ?_⟩;rw [hq] at hq3;cases hq3;have hp:pz (s.take (i+1).toNat)=pz (s.take i.toNat)*10+((q.toNat:Int)-48):=by
   rw [aM x1,uW hq];unfold ct;rw [Q_ hdig]
  rw [hp];exact ⟨by omega,by omega,hin,⟨bO _,bO _,by omega,Ro (i6 hin) (by omega)⟩,by omega,trivial,⟨by omega,by omega,rfl,rfl⟩,by omega⟩
 ·rw [hq] at hq2;cases hq2;have hp:pz (s.take (i+1).toNat)=pz (s.take i.toNat):=by
   rw [aM x1,uW hq];unfold ct;rw [Q8 (fun k=>by have:=cc.1 k;omega)]
  rw [hp];exact ⟨by omega,trivial,⟨by omega,by omega,rfl,rfl⟩,by omega⟩
 ·have hp:pz (s.take (i+1).toNat)=pz (s.take i.toNat):=by
   rw [aM x1,uW hq];unfold ct;rw [Q8 (fun k=>by have:=cc.1 k;omega)]
  rw [hp];exact ⟨by omega,trivial,⟨by omega,by omega,rfl,rfl⟩,by omega⟩
 ·have he:s.take i.toNat=s:=Rh (by omega);rw [he] at hz hzl⊢;have hnl:(aD (0-pz s).natAbs).length<=1000000:=by
   rw [show (0-pz s).natAbs=(pz s).natAbs by omega];omega
  refine ⟨fun d=>⟨⟨by omega,d⟩,fun q hq=>⟨fun e=> ?_,fun e=> ?_⟩⟩,fun d=> ?_⟩
  ·have hh:s.head? =some 45:=by
    rw [List.head?_eq_getElem?];rw [show (45:UInt8)=q from (qF (by rw [e];rfl)).symm];exact hq
   have hp:pzs s=0-pz s:=by unfold pzs;rw [Q_ hh]
   rw [<-hp] at hnl⊢;refine ⟨bO _,⟨by trivial,bO _,hnl⟩,fun k=> ?_,fun k=>⟨⟨bO _,hnl⟩, ?_⟩⟩
   ·rw [iq k]
   ·rw [jH k]
  ·have hh: ¬s.head? =some 45:=by
    rw [List.head?_eq_getElem?];intro k;have:=hq.symm.trans k;cases this;exact e rfl
   have hp:pzs s=pz s:=by unfold pzs;rw [Q8 hh]
   have hpl:(aD (pz s).natAbs).length<=1000000:=by omega
   rw [<-hp] at hpl⊢;refine ⟨⟨by trivial,bO _,hpl⟩,fun k=> ?_,fun k=>⟨⟨bO _,hpl⟩, ?_⟩⟩
   ·rw [iq k]
   ·rw [jH k]
  ·have hh: ¬s.head? =some 45:=by
    have:s=[]:=Rk (by omega);rw [this];simp
   have hp:pzs s=pz s:=by unfold pzs;rw [Q8 hh]
   have hpl:(aD (pz s).natAbs).length<=1000000:=by omega
   rw [<-hp] at hpl⊢;refine ⟨⟨by trivial,bO _,hpl⟩,fun k=> ?_,fun k=>⟨⟨bO _,hpl⟩, ?_⟩⟩
   ·rw [iq k]
   ·rw [jH k]
def Ky:FSpec Tryz.prog:=mkF 90 (.c .s (.c .j .z)) [.int .i64, .int .i64] (fun x=>(fun (s:By) (d:Int)=>(d=0/\s.length<=10000,(bk s).1,(bk s).2,())) x.1 x.2.1) fun ⟨s,d,_⟩ h=>av (E:=Ge s d) (Bi s d h) (ab rfl _ [] rfl rfl) Tryz.func90
def inR (z lo hi:Int):Bool:=decide (-9223372036854775808<=z/\z<=9223372036854775807/\lo<=z/\z<=hi)
def aK (s:By) (a lo hi:Int):Int×Int×Int:=
 if a<0∨(s.length:Int)<a then (0,0,2) else if Lib.trimPrefix (s.drop a.toNat) [45]=[] then (0,0,4) else
  if aU (Lib.trimPrefix (s.drop a.toNat) [45])=0∨((Lib.trimPrefix (s.drop a.toNat) [45]).head? =some 48/\(1<aU (Lib.trimPrefix (s.drop a.toNat) [45])∨Lib.hasPrefix (s.drop a.toNat) [45]=true)) then (0,0,5) else
   if inR (pzs ((s.drop a.toNat).take (ch (s.drop a.toNat)).toNat)) lo hi then (pzs ((s.drop a.toNat).take (ch (s.drop a.toNat)).toNat),a+ch (s.drop a.toNat),0) else (0,0,7)
def N7 (s:By) (a lo hi:Int):Env where
 P:=Tryz.prog
 ty:=aJ
 specs:=ai [uU,uT,P5,NU]
def yd (s:By) (a:Int) (lo:Int) (hi:Int):Prop:=
 True/\((!(ar s a).2)=true->((0:Int),(0:Int),(2:Int),())=((aK s a lo hi).1,(aK s a lo hi).2.1,(aK s a lo hi).2.2,()))/\((!(ar s a).2)=false->True/\(Lib.trimPrefix (ar s a).1 [(45:UInt8)]).length<=(1000000:Nat)/\(decide ((↑(Lib.trimPrefix (ar s a).1 [(45:UInt8)]).length:Int)=(0:Int))=true->((0:Int),(0:Int),(4:Int),())=((aK s a lo hi).1,(aK s a lo hi).2.1,(aK s a lo hi).2.2,()))/\(decide ((↑(Lib.trimPrefix (ar s a).1 [(45:UInt8)]).length:Int)=(0:Int))=false->(decide (aU (Lib.trimPrefix (ar s a).1 [(45:UInt8)])=(0:Int))=false->(0<=(0:Int)/\(0:Int)<(↑(Lib.trimPrefix (ar s a).1 [(45:UInt8)]).length:Int))/\∀(c:UInt8),(Lib.trimPrefix (ar s a).1 [(45:UInt8)])[Int.toNat (0:Int)]? =some c->(decide ((↑c.toNat:Int)=(48:Int))=true->(decide ((1:Int)<aU (Lib.trimPrefix (ar s a).1 [(45:UInt8)]))=false->(Lib.hasPrefix (ar s a).1 [(45:UInt8)]=true->((0:Int),(0:Int),(5:Int),())=((aK s a lo hi).1,(aK s a lo hi).2.1,(aK s a lo hi).2.2,()))/\(Lib.hasPrefix (ar s a).1 [(45:UInt8)]=false->(-9223372036854775808<=(↑(List.length (ar s a).1):Int)-(↑(Lib.trimPrefix (ar s a).1 [(45:UInt8)]).length:Int)/\(↑(List.length (ar s a).1):Int)-(↑(Lib.trimPrefix (ar s a).1 [(45:UInt8)]).length:Int)<=9223372036854775807)/\(-9223372036854775808<=(↑(List.length (ar s a).1):Int)-(↑(Lib.trimPrefix (ar s a).1 [(45:UInt8)]).length:Int)+aU (Lib.trimPrefix (ar s a).1 [(45:UInt8)])/\(↑(List.length (ar s a).1):Int)-(↑(Lib.trimPrefix (ar s a).1 [(45:UInt8)]).length:Int)+aU (Lib.trimPrefix (ar s a).1 [(45:UInt8)])<=9223372036854775807)/\(0<=(↑(List.length (ar s a).1):Int)-(↑(Lib.trimPrefix (ar s a).1 [(45:UInt8)]).length:Int)+aU (Lib.trimPrefix (ar s a).1 [(45:UInt8)])/\(↑(List.length (ar s a).1):Int)-(↑(Lib.trimPrefix (ar s a).1 [(45:UInt8)]).length:Int)+aU (Lib.trimPrefix (ar s a).1 [(45:UInt8)])<=(↑(List.length (ar s a).1):Int))/\(List.take ((↑(List.length (ar s a).1):Int)-(↑(Lib.trimPrefix (ar s a).1 [(45:UInt8)]).length:Int)+aU (Lib.trimPrefix (ar s a).1 [(45:UInt8)])).toNat (ar s a).1).length<=(281474976710656:Nat)/\((!!kc (List.take ((↑(List.length (ar s a).1):Int)-(↑(Lib.trimPrefix (ar s a).1 [(45:UInt8)]).length:Int)+aU (Lib.trimPrefix (ar s a).1 [(45:UInt8)])).toNat (ar s a).1))=false->(decide (dY (List.take ((↑(List.length (ar s a).1):Int)-(↑(Lib.trimPrefix (ar s a).1 [(45:UInt8)]).length:Int)+aU (Lib.trimPrefix (ar s a).1 [(45:UInt8)])).toNat (ar s a).1)<lo)=false->(decide (hi<dY (List.take ((↑(List.length (ar s a).1):Int)-(↑(Lib.trimPrefix (ar s a).1 [(45:UInt8)]).length:Int)+aU (Lib.trimPrefix (ar s a).1 [(45:UInt8)])).toNat (ar s a).1))=true->((0:Int),(0:Int),(7:Int),())=((aK s a lo hi).1,(aK s a lo hi).2.1,(aK s a lo hi).2.2,()))/\(decide (hi<dY (List.take ((↑(List.length (ar s a).1):Int)-(↑(Lib.trimPrefix (ar s a).1 [(45:UInt8)]).length:Int)+aU (Lib.trimPrefix (ar s a).1 [(45:UInt8)])).toNat (ar s a).1))=false->(-9223372036854775808<=a+((↑(List.length (ar s a).1):Int)-(↑(Lib.trimPrefix (ar s a).1 [(45:UInt8)]).length:Int)+aU (Lib.trimPrefix (ar s a).1 [(45:UInt8)]))/\a+((↑(List.length (ar s a).1):Int)-(↑(Lib.trimPrefix (ar s a).1 [(45:UInt8)]).length:Int)+aU (Lib.trimPrefix (ar s a).1 [(45:UInt8)]))<=9223372036854775807)/\(dY (List.take ((↑(List.length (ar s a).1):Int)-(↑(Lib.trimPrefix (ar s a).1 [(45:UInt8)]).length:Int)+aU (Lib.trimPrefix (ar s a).1 [(45:UInt8)])).toNat (ar s a).1),a+((↑(List.length (ar s a).1):Int)-(↑(Lib.trimPrefix (ar s a).1 [(45:UInt8)]).length:Int)+aU (Lib.trimPrefix (ar s a).1 [(45:UInt8)])),(0:Int),())=((aK s a lo hi).1,(aK s a lo hi).2.1,(aK s a lo hi).2.2,())))/\(decide (dY (List.take ((↑(List.length (ar s a).1):Int)-(↑(Lib.trimPrefix (ar s a).1 [(45:UInt8)]).length:Int)+aU (Lib.trimPrefix (ar s a).1 [(45:UInt8)])).toNat (ar s a).1)<lo)= !false->((0:Int),(0:Int),(7:Int),())=((aK s a lo hi).1,(aK s a lo hi).2.1,(aK s a lo hi).2.2,())))/\((!!kc (List.take ((↑(List.length (ar s a).1):Int)-(↑(Lib.trimPrefix (ar s a).1 [(45:UInt8)]).length:Int)+aU (Lib.trimPrefix (ar s a).1 [(45:UInt8)])).toNat (ar s a).1))= !false->((0:Int),(0:Int),(7:Int),())=((aK s a lo hi).1,(aK s a lo hi).2.1,(aK s a lo hi).2.2,()))))/\(decide ((1:Int)<aU (Lib.trimPrefix (ar s a).1 [(45:UInt8)]))= !false->((0:Int),(0:Int),(5:Int),())=((aK s a lo hi).1,(aK s a lo hi).2.1,(aK s a lo hi).2.2,())))/\(decide ((↑c.toNat:Int)=(48:Int))= !true->(-9223372036854775808<=(↑(List.length (ar s a).1):Int)-(↑(Lib.trimPrefix (ar s a).1 [(45:UInt8)]).length:Int)/\(↑(List.length (ar s a).1):Int)-(↑(Lib.trimPrefix (ar s a).1 [(45:UInt8)]).length:Int)<=9223372036854775807)/\(-9223372036854775808<=(↑(List.length (ar s a).1):Int)-(↑(Lib.trimPrefix (ar s a).1 [(45:UInt8)]).length:Int)+aU (Lib.trimPrefix (ar s a).1 [(45:UInt8)])/\(↑(List.length (ar s a).1):Int)-(↑(Lib.trimPrefix (ar s a).1 [(45:UInt8)]).length:Int)+aU (Lib.trimPrefix (ar s a).1 [(45:UInt8)])<=9223372036854775807)/\(0<=(↑(List.length (ar s a).1):Int)-(↑(Lib.trimPrefix (ar s a).1 [(45:UInt8)]).length:Int)+aU (Lib.trimPrefix (ar s a).1 [(45:UInt8)])/\(↑(List.length (ar s a).1):Int)-(↑(Lib.trimPrefix (ar s a).1 [(45:UInt8)]).length:Int)+aU (Lib.trimPrefix (ar s a).1 [(45:UInt8)])<=(↑(List.length (ar s a).1):Int))/\(List.take ((↑(List.length (ar s a).1):Int)-(↑(Lib.trimPrefix (ar s a).1 [(45:UInt8)]).length:Int)+aU (Lib.trimPrefix (ar s a).1 [(45:UInt8)])).toNat (ar s a).1).length<=(281474976710656:Nat)/\((!!kc (List.take ((↑(List.length (ar s a).1):Int)-(↑(Lib.trimPrefix (ar s a).1 [(45:UInt8)]).length:Int)+aU (Lib.trimPrefix (ar s a).1 [(45:UInt8)])).toNat (ar s a).1))=false->(decide (dY (List.take ((↑(List.length (ar s a).1):Int)-(↑(Lib.trimPrefix (ar s a).1 [(45:UInt8)]).length:Int)+aU (Lib.trimPrefix (ar s a).1 [(45:UInt8)])).toNat (ar s a).1)<lo)=false->(decide (hi<dY (List.take ((↑(List.length (ar s a).1):Int)-(↑(Lib.trimPrefix (ar s a).1 [(45:UInt8)]).length:Int)+aU (Lib.trimPrefix (ar s a).1 [(45:UInt8)])).toNat (ar s a).1))=true->((0:Int),(0:Int),(7:Int),())=((aK s a lo hi).1,(aK s a lo hi).2.1,(aK s a lo hi).2.2,()))/\(decide (hi<dY (List.take ((↑(List.length (ar s a).1):Int)-(↑(Lib.trimPrefix (ar s a).1 [(45:UInt8)]).length:Int)+aU (Lib.trimPrefix (ar s a).1 [(45:UInt8)])).toNat (ar s a).1))=false->(-9223372036854775808<=a+((↑(List.length (ar s a).1):Int)-(↑(Lib.trimPrefix (ar s a).1 [(45:UInt8)]).length:Int)+aU (Lib.trimPrefix (ar s a).1 [(45:UInt8)]))/\a+((↑(List.length (ar s a).1):Int)-(↑(Lib.trimPrefix (ar s a).1 [(45:UInt8)]).length:Int)+aU (Lib.trimPrefix (ar s a).1 [(45:UInt8)]))<=9223372036854775807)/\(dY (List.take ((↑(List.length (ar s a).1):Int)-(↑(Lib.trimPrefix (ar s a).1 [(45:UInt8)]).length:Int)+aU (Lib.trimPrefix (ar s a).1 [(45:UInt8)])).toNat (ar s a).1),a+((↑(List.length (ar s a).1):Int)-(↑(Lib.trimPrefix (ar s a).1 [(45:UInt8)]).length:Int)+aU (Lib.trimPrefix (ar s a).1 [(45:UInt8)])),(0:Int),())=((aK s a lo hi).1,(aK s a lo hi).2.1,(aK s a lo hi).2.2,())))/\(decide (dY (List.take ((↑(List.length (ar s a).1):Int)-(↑(Lib.trimPrefix (ar s a).1 [(45:UInt8)]).length:Int)+aU (Lib.trimPrefix (ar s a).1 [(45:UInt8)])).toNat (ar s a).1)<lo)= !false->((0:Int),(0:Int),(7:Int),())=((aK s a lo hi).1,(aK s a lo hi).2.1,(aK s a lo hi).2.2,())))/\((!!kc (List.take ((↑(List.length (ar s a).1):Int)-(↑(Lib.trimPrefix (ar s a).1 [(45:UInt8)]).length:Int)+aU (Lib.trimPrefix (ar s a).1 [(45:UInt8)])).toNat (ar s a).1))= !false->((0:Int),(0:Int),(7:Int),())=((aK s a lo hi).1,(aK s a lo hi).2.1,(aK s a lo hi).2.2,()))))/\(decide (aU (Lib.trimPrefix (ar s a).1 [(45:UInt8)])=(0:Int))= !false->((0:Int),(0:Int),(5:Int),())=((aK s a lo hi).1,(aK s a lo hi).2.1,(aK s a lo hi).2.2,()))))
def ye (r:By) (a lo hi:Int):Int×Int×Int:=
 if Lib.trimPrefix r [45]=[] then (0,0,4) else
  if aU (Lib.trimPrefix r [45])=0∨((Lib.trimPrefix r [45]).head? =some 48/\(1<aU (Lib.trimPrefix r [45])∨Lib.hasPrefix r [45]=true)) then (0,0,5) else
   if inR (pzs (r.take (ch r).toNat)) lo hi then (pzs (r.take (ch r).toNat),a+ch r,0) else (0,0,7)
theorem lH {s:By} {a lo hi:Int} (h:a<0∨(s.length:Int)<a):aK s a lo hi=(0,0,2):=by unfold aK;rw [Q_ h]
theorem uY {s:By} {a lo hi:Int} (h: ¬(a<0∨(s.length:Int)<a)):aK s a lo hi=ye (s.drop a.toNat) a lo hi:=by unfold aK ye;rw [Q8 h]
theorem kN {r:By} {a lo hi:Int} (h:Lib.trimPrefix r [45]=[]):ye r a lo hi=(0,0,4):=by unfold ye;rw [Q_ h]
theorem fp {r:By} {a lo hi:Int} (h: ¬Lib.trimPrefix r [45]=[]) (k:aU (Lib.trimPrefix r [45])=0∨((Lib.trimPrefix r [45]).head? =some 48/\(1<aU (Lib.trimPrefix r [45])∨Lib.hasPrefix r [45]=true))):ye r a lo hi=(0,0,5):=by
 unfold ye;rw [Q8 h,Q_ k]
theorem oW {r:By} {a lo hi:Int} (h: ¬Lib.trimPrefix r [45]=[]) (k: ¬(aU (Lib.trimPrefix r [45])=0∨((Lib.trimPrefix r [45]).head? =some 48/\(1<aU (Lib.trimPrefix r [45])∨Lib.hasPrefix r [45]=true)))):
 ye r a lo hi=if inR (pzs (r.take (ch r).toNat)) lo hi then (pzs (r.take (ch r).toNat),a+ch r,0) else (0,0,7):=by
 unfold ye;rw [Q8 h,Q8 k]
theorem Dl {b:By} {c:UInt8} (h:b[Int.toNat 0]? =some c) (e:(c.toNat:Int)=48):b.head? =some 48:=by
 rw [List.head?_eq_getElem?];rw [show (48:UInt8)=c from (qF (by rw [e];rfl)).symm];exact h
theorem yf {t D : By} {w a lo hi : Int} {n : Int × Int × Int} (ht : Kt t D) (hw : -10000000 <= w /\ w <= 10000000) (ha : -10000000 <= a /\ a <= 10000000) (hn : n = if inR (pzs t) lo hi then (pzs t, a + w, 0) else (0, 0, 7)) :
    ((!!kc t) = false -> (¬ dY t < lo -> (hi < dY t -> ((0 : Int), (0 : Int), (7 : Int), ()) = (n.1, n.2.1, n.2.2, ())) /\ (¬ hi < dY t -> (-9223372036854775808 <= a + w /\ a + w <= 9223372036854775807) /\ (dY t, a + w, (0 : Int), ()) = (n.1, n.2.1, n.2.2, ()))) /\
      (dY t < lo -> ((0 : Int), (0 : Int), (7 : Int), ()) = (n.1, n.2.1, n.2.2, ()))) /\ ((!!kc t) = true -> ((0 : Int), (0 : Int), (7 : Int), ()) = (n.1, n.2.1, n.2.2, ())) := by
  have hl := Ku ht
  unfold kc dY
  by_cases c : -9223372036854775808 <= pzs t /\ pzs t <= 9223372036854775807
  · rw [Q_ c] at hl
    rw [hl]
    dsimp only
    refine ⟨fun _ => ⟨fun d => ⟨fun e => ?_, fun e => ⟨by omega, ?_⟩⟩, fun d => ?_⟩, fun d => by cases d⟩
    · rw [hn, Q8 (by unfold inR; rw [Q7]; omega)]
    · rw [hn, Q_ (by unfold inR; rw [Q7]; omega)]
    · rw [hn, Q8 (by unfold inR; rw [Q7]; omega)]
  · rw [Q8 c] at hl
    rw [hl]
    dsimp only
    refine ⟨fun d => (by cases d), fun _ => ?_⟩
    rw [hn, Q8 (by unfold inR; rw [Q7]; omega)]
theorem Kz (s:By) (a lo hi:Int) (h:s.length<=10000):yd s a lo hi:=by
 unfold yd;by_cases c:a<0∨(s.length:Int)<a
 ·rw [gP c,lH c];exact ⟨trivial,fun _=>rfl,fun d=>by cases d⟩
 ·rw [io c];dsimp only;have hrl:(s.drop a.toNat).length<=10000:=by rw [RE];omega
  have hnum:=uY (s:=s) (a:=a) (lo:=lo) (hi:=hi) c;generalize s.drop a.toNat=r at*;rw [hnum];have htl:(Lib.trimPrefix r [45]).length<=r.length:=by
   rw [ip];split
   ·rw [RE];omega
   ·omega
  simp only [Q7,Q6,Rg,Rl];refine ⟨trivial,fun d=>(by cases d),fun _=>⟨trivial,by omega,fun d=> ?_,fun d=>⟨fun e=>⟨⟨by omega,by omega⟩,fun q hq=>⟨fun f=>⟨fun g=>⟨fun k=> ?_,fun k=> ?_⟩,fun g=> ?_⟩,fun f=> ?_⟩⟩,fun e=> ?_⟩⟩⟩
  ·rw [kN (Rk (by omega))]
  ·rw [fp (fun w=>d (by rw [w];rfl)) (.inr ⟨Dl hq f, .inr k⟩)]
  ·have hcan: ¬((Lib.trimPrefix r [45]).head? =some 48/\(1<aU (Lib.trimPrefix r [45])∨Lib.hasPrefix r [45]=true)):=by
    rintro ⟨_,w|w⟩
    ·exact g w
    ·rw [k] at w;cases w
   obtain ⟨n1,_,n2,n3⟩:=jf e;unfold ch at n1 n2 n3;refine ⟨by omega,by omega,by omega,by rw [Rz];omega,yf n1 (by omega) (by omega) (oW (fun w=>d (by rw [w];rfl)) (by rintro (w|w);exact e w;exact hcan w))⟩
  ·rw [fp (fun w=>d (by rw [w];rfl)) (.inr ⟨Dl hq f, .inl g⟩)]
  ·have hcan: ¬((Lib.trimPrefix r [45]).head? =some 48/\(1<aU (Lib.trimPrefix r [45])∨Lib.hasPrefix r [45]=true)):=by
    rintro ⟨w,_⟩;rw [List.head?_eq_getElem?] at w;have:=hq.symm.trans w;cases this;exact f rfl
   obtain ⟨n1,_,n2,n3⟩:=jf e;unfold ch at n1 n2 n3;refine ⟨by omega,by omega,by omega,by rw [Rz];omega,yf n1 (by omega) (by omega) (oW (fun w=>d (by rw [w];rfl)) (by rintro (w|w);exact e w;exact hcan w))⟩
  ·rw [fp (fun w=>d (by rw [w];rfl)) (.inl e)]
def zG:FSpec Tryz.prog:=mkF 57 (.c .s (.c .j (.c .j (.c .j .z)))) [.int .i64, .int .i64, .int .i64] (fun x=>(fun (s:By) (a lo hi:Int)=>(s.length<=10000,(aK s a lo hi).1,(aK s a lo hi).2.1,(aK s a lo hi).2.2,())) x.1 x.2.1 x.2.2.1 x.2.2.2.1) fun ⟨s,a,lo,hi,_⟩ h=>av (E:=N7 s a lo hi) (Kz s a lo hi h) (ab rfl _ [] rfl rfl) Tryz.func57
def dt (s:By) (a:Int):Int:=if s[a.toNat]? =some 45 then a+1 else a
def KA (s:By) (a lo hi:Int):Env where
 P:=Tryz.prog
 ty:=aJ
 specs:=ai [Ky]
 heads:=fun
  |7=>some {slots:=[(11, .int .i64)],boxes:=[],inv:=fun st (x:Int×Unit)=>st.int 12<=x.1/\x.1<=s.length/\aU (s.drop (st.int 12).toNat)=x.1-st.int 12+aU (s.drop x.1.toNat),measure:=fun _ (x:Int×Unit)=>(s.length-x.1).toNat}
  |_=>none
 joins:=fun
  |9=>some {slots:=[(11, .int .i64)],boxes:=[],inv:=fun st (x:Int×Unit)=>x.1=st.int 12+aU (s.drop (st.int 12).toNat)}
  |6=>some {slots:=[(11, .int .i64)],boxes:=[],inv:=fun _ (x:Int×Unit)=>x.1=dt s a}
  |_=>none
def sY (s:By) (a:Int) (lo:Int) (hi:Int):Prop:=
 (aj (a<0)->(ag ((↑(List.length s):Int)<a)->((0:Int),(0:Int),(2:Int),())=((aK s a lo hi).1,(aK s a lo hi).2.1,(aK s a lo hi).2.2,()))/\(aj ((↑(List.length s):Int)<a)->((ag (a<(↑(List.length s):Int))->(0<=a/\a<(↑(List.length s):Int))/\∀(c:UInt8),s[a.toNat]? =some c->(ag ((↑c.toNat:Int)=(45:Int))->(au (a+1))/\True/\a+1=dt s a)/\(aj ((↑c.toNat:Int)=(45:Int))->True/\a=dt s a))/\(aP (a<(↑(List.length s):Int))->True/\a=dt s a))/\∀(x:Int×Unit),x.1=dt s a->((True/\x.1<=x.1/\x.1<=(↑(List.length s):Int)/\aU (List.drop x.1.toNat s)=x.1-x.1+aU (List.drop x.1.toNat s))/\∀(x_1:Int×Unit),x.1<=x_1.1/\x_1.1<=(↑(List.length s):Int)/\aU (List.drop x.1.toNat s)=x_1.1-x.1+aU (List.drop x_1.1.toNat s)->(ag (x_1.1<(↑(List.length s):Int))->(0<=x_1.1/\x_1.1<(↑(List.length s):Int))/\∀(c:UInt8),s[x_1.1.toNat]? =some c->(ag ((48:Int)<=(↑c.toNat:Int))->(0<=x_1.1/\x_1.1<(↑(List.length s):Int))/\∀(c:UInt8),s[x_1.1.toNat]? =some c->(ag ((↑c.toNat:Int)<=(57:Int))->(au (x_1.1+1))/\True/\(x.1<=x_1.1+1/\x_1.1+1<=(↑(List.length s):Int)/\aU (List.drop x.1.toNat s)=x_1.1+1-x.1+aU (List.drop (x_1.1+1).toNat s))/\((↑(List.length s):Int)-(x_1.1+1)).toNat<((↑(List.length s):Int)-x_1.1).toNat)/\(aj ((↑c.toNat:Int)<=(57:Int))->True/\x_1.1=x.1+aU (List.drop x.1.toNat s)))/\(aP ((48:Int)<=(↑c.toNat:Int))->True/\x_1.1=x.1+aU (List.drop x.1.toNat s)))/\(aP (x_1.1<(↑(List.length s):Int))->True/\x_1.1=x.1+aU (List.drop x.1.toNat s)))/\∀(x_1:Int×Unit),x_1.1=x.1+aU (List.drop x.1.toNat s)->(ag (x_1.1=x.1)->(ag (x_1.1=(↑(List.length s):Int))->((0:Int),(0:Int),(4:Int),())=((aK s a lo hi).1,(aK s a lo hi).2.1,(aK s a lo hi).2.2,()))/\(aj (x_1.1=(↑(List.length s):Int))->((0:Int),(0:Int),(5:Int),())=((aK s a lo hi).1,(aK s a lo hi).2.1,(aK s a lo hi).2.2,())))/\(aj (x_1.1=x.1)->(0<=a/\a<=x_1.1/\x_1.1<=(↑(List.length s):Int))/\((0:Int)=(0:Int)/\(List.drop a.toNat (List.take x_1.1.toNat s)).length<=(10000:Nat))/\(ag ((bk (List.drop a.toNat (List.take x_1.1.toNat s))).2=5)->((0:Int),(0:Int),(5:Int),())=((aK s a lo hi).1,(aK s a lo hi).2.1,(aK s a lo hi).2.2,()))/\(aj ((bk (List.drop a.toNat (List.take x_1.1.toNat s))).2=5)->((!decide ((bk (List.drop a.toNat (List.take x_1.1.toNat s))).2=0))=false->(aj ((bk (List.drop a.toNat (List.take x_1.1.toNat s))).1<lo)->(ag (hi<(bk (List.drop a.toNat (List.take x_1.1.toNat s))).1)->((0:Int),(0:Int),(7:Int),())=((aK s a lo hi).1,(aK s a lo hi).2.1,(aK s a lo hi).2.2,()))/\(aj (hi<(bk (List.drop a.toNat (List.take x_1.1.toNat s))).1)->((bk (List.drop a.toNat (List.take x_1.1.toNat s))).1,x_1.1,(0:Int),())=((aK s a lo hi).1,(aK s a lo hi).2.1,(aK s a lo hi).2.2,())))/\(bu ((bk (List.drop a.toNat (List.take x_1.1.toNat s))).1<lo)->((0:Int),(0:Int),(7:Int),())=((aK s a lo hi).1,(aK s a lo hi).2.1,(aK s a lo hi).2.2,())))/\((!decide ((bk (List.drop a.toNat (List.take x_1.1.toNat s))).2=0))= !false->((0:Int),(0:Int),(7:Int),())=((aK s a lo hi).1,(aK s a lo hi).2.1,(aK s a lo hi).2.2,()))))))/\(bu (a<0)->((0:Int),(0:Int),(2:Int),())=((aK s a lo hi).1,(aK s a lo hi).2.1,(aK s a lo hi).2.2,()))
theorem Gf {t D : By} {e lo hi : Int} {n : Int × Int × Int} (ht : Kt t D) (hn : n = if Lib.itoa (pzs t) = t then (if inR (pzs t) lo hi then (pzs t, e, 0) else (0, 0, 7)) else (0, 0, 5)) :
    ((bk t).2 = 5 -> ((0 : Int), (0 : Int), (5 : Int), ()) = (n.1, n.2.1, n.2.2, ())) /\ (¬ (bk t).2 = 5 -> ((bk t).2 = 0 -> (¬ (bk t).1 < lo -> (hi < (bk t).1 -> ((0 : Int), (0 : Int), (7 : Int), ()) = (n.1, n.2.1, n.2.2, ())) /\ (¬ hi < (bk t).1 -> ((bk t).1, e, (0 : Int), ()) = (n.1, n.2.1, n.2.2, ()))) /\
      ((bk t).1 < lo -> ((0 : Int), (0 : Int), (7 : Int), ()) = (n.1, n.2.1, n.2.2, ()))) /\ (¬ (bk t).2 = 0 -> ((0 : Int), (0 : Int), (7 : Int), ()) = (n.1, n.2.1, n.2.2, ()))) := by
  by_cases k : Lib.itoa (pzs t) = t
  · rw [Q_ k] at hn
    rw [jH k]
    unfold fJ dX
    by_cases c : -9223372036854775808 <= pzs t /\ pzs t <= 9223372036854775807
    · have ho : okB (pzs t) = true := by unfold okB; rw [RB c.1, RB c.2]; rfl
      rw [Q_ c, Q_ ho]
      refine ⟨fun d => (by cases d), fun _ => ⟨fun _ => ⟨fun d => ⟨fun g => ?_, fun g => ?_⟩, fun d => ?_⟩, fun d => absurd rfl d⟩⟩
      · rw [hn, Q8 (by unfold inR; rw [Q7]; omega)]
      · rw [hn, Q_ (by unfold inR; rw [Q7]; omega)]
      · rw [hn, Q8 (by unfold inR; rw [Q7]; omega)]
    · have ho : okB (pzs t) = false := by
        unfold okB
        rw [RZ, Q6, Q6]
        omega
      rw [Q8 c, Q8 (by rw [ho]; decide)]
      refine ⟨fun d => (by cases d), fun _ => ⟨fun d => (by cases d), fun _ => ?_⟩⟩
      rw [hn, Q8 (by unfold inR; rw [Q7]; omega)]
  · rw [Q8 k] at hn
    rw [iq k, hn]
    exact ⟨fun _ => rfl, fun d => absurd rfl d⟩
theorem oh {s:By} {a:Int} (h: ¬(a<0∨(s.length:Int)<a)):s.drop (dt s a).toNat=Lib.trimPrefix (s.drop a.toNat) [45]/\a<=dt s a/\dt s a<=s.length/\dt s a+aU (Lib.trimPrefix (s.drop a.toNat) [45])=a+ch (s.drop a.toNat):=by
 have hd:(s.drop a.toNat).head? =s[a.toNat]? :=by rw [List.head?_eq_getElem?,je];rfl
 have hdl:(s.drop a.toNat).length=s.length-a.toNat:=RE;unfold dt ch;rw [ip,hd];by_cases c:s[a.toNat]? =some 45
 ·have:=(List.getElem?_eq_some_iff.1 c).1;have l2:(s.drop (a.toNat+1)).length=s.length-(a.toNat+1):=RE;rw [Q_ c,Q_ c,SK];refine ⟨by rw [aM (by omega)],by omega,by omega,by omega⟩
 ·rw [Q8 c,Q8 c];exact ⟨rfl,by omega,by omega,by omega⟩
theorem Gg (s:By) (a lo hi:Int) (h:s.length<=10000):sY s a lo hi:=by
 unfold sY aj bu aP ag;simp only [Q7,Q6,Rb,Rd,Rl,Rg];refine ⟨fun c=>⟨fun d=> ?_,fun d=>⟨⟨fun e=>⟨⟨by omega,e⟩,fun q hq=>⟨fun f=>⟨by omega,trivial, ?_⟩,fun f=>⟨trivial, ?_⟩⟩⟩,fun e=>⟨trivial, ?_⟩⟩,fun x hx=> ?_⟩⟩,fun c=> ?_⟩
 ·rw [lH (.inr d)]
 ·unfold dt;rw [Q_ (by rw [hq,qF (a:=q) (b:=45) (by rw [f];rfl)])]
 ·unfold dt;rw [Q8 (fun k=>by rw [hq] at k;cases k;exact f rfl)]
 ·unfold dt;rw [Q8 (fun k=>by have:=(List.getElem?_eq_some_iff.1 k).1;omega)]
 ·have hn: ¬(a<0∨(s.length:Int)<a):=by omega
  obtain ⟨p1,p2,p3,p4⟩:=oh hn;have hrl:(s.drop a.toNat).length=s.length-a.toNat:=RE;have hnum:=uY (s:=s) (a:=a) (lo:=lo) (hi:=hi) hn;have hdl:(s.drop (dt s a).toNat).length=s.length-(dt s a).toNat:=RE;rw [hx];have stop: ∀i:Int,dt s a<=i->i<s.length->eP s i=false->aU (s.drop i.toNat)=0:=fun i h1 h2 h3=>sU (by omega) h2 h3;refine ⟨⟨⟨trivial,by omega,by omega,by omega⟩,fun y hy=> ?_⟩,fun z hz=> ?_⟩
  ·obtain ⟨y1,y2,y3⟩:=hy;refine ⟨fun e=>⟨⟨by omega,e⟩,fun q hq=>⟨fun f=>⟨⟨by omega,e⟩,fun q2 hq2=>⟨fun g=> ?_,fun g=>⟨trivial, ?_⟩⟩⟩,fun f=>⟨trivial, ?_⟩⟩⟩,fun e=>⟨trivial, ?_⟩⟩
   ·rw [hq] at hq2;cases hq2;have hd:eP s y.1=true:=by unfold eP;rw [hq];exact cc.2 (by omega)
    have:=sT (by omega) e hd;exact ⟨by omega,trivial,⟨by omega,by omega,by omega⟩,by omega⟩
   ·rw [hq] at hq2;cases hq2;have hd:eP s y.1=false:=by
     unfold eP;rw [hq];exact Bool.eq_false_iff.2 (fun k=>by have:=cc.1 k;omega)
    have:=stop y.1 y1 e hd;omega
   ·have hd:eP s y.1=false:=by
     unfold eP;rw [hq];exact Bool.eq_false_iff.2 (fun k=>by have:=cc.1 k;omega)
    have:=stop y.1 y1 e hd;omega
   ·have:aU (s.drop y.1.toNat)=0:=by
     rw [RC (by omega)];rfl
    omega
  ·rw [hnum];rw [p1] at hz hdl;have hr0:0<=aU (Lib.trimPrefix (s.drop a.toNat) [45]):=by unfold aU;omega
   refine ⟨fun e=>⟨fun f=> ?_,fun f=> ?_⟩,fun e=> ?_⟩
   ·rw [kN (Rk (by omega))]
   ·rw [fp (fun w=>by rw [w] at hdl;simp at hdl;omega) (.inl (by omega))]
   ·have hrn:aU (Lib.trimPrefix (s.drop a.toNat) [45])≠0:=by omega
    obtain ⟨n1,_,n2,n3⟩:=jf hrn;have ht:(s.take z.1.toNat).drop a.toNat=(s.drop a.toNat).take (ch (s.drop a.toNat)).toNat:=by
     rw [List.take_drop];congr 2;omega
    have hcan:=qN hrn;have hbn: ¬Lib.trimPrefix (s.drop a.toNat) [45]=[]:=fun w=>hrn (by rw [w];rfl);rw [ht];refine ⟨by omega,⟨by trivial,by rw [Rz];omega⟩,Gf n1 ?_⟩;rw [show z.1=a+ch (s.drop a.toNat) by omega];by_cases k:Lib.itoa (pzs ((s.drop a.toNat).take (ch (s.drop a.toNat)).toNat))=(s.drop a.toNat).take (ch (s.drop a.toNat)).toNat
    ·rw [Q_ k,oW hbn (by rintro (w|w);exact hrn w;exact hcan.1 k w)]
    ·rw [Q8 k,fp hbn (.inr (Classical.byContradiction fun w=>k (hcan.2 w)))]
 ·rw [lH (.inl c)]
def CH:FSpec Tryz.prog:=mkF 63 (.c .s (.c .j (.c .j (.c .j .z)))) [.int .i64, .int .i64, .int .i64] (fun x=>(fun (s:By) (a lo hi:Int)=>(s.length<=10000,(aK s a lo hi).1,(aK s a lo hi).2.1,(aK s a lo hi).2.2,())) x.1 x.2.1 x.2.2.1 x.2.2.2.1) fun ⟨s,a,lo,hi,_⟩ h=>av (E:=KA s a lo hi) (Gg s a lo hi h) (ab rfl _ [] rfl rfl) Tryz.func63
end
section
open Go.Vm
theorem H1 {s:By} {a lo hi:Int} (h: ¬(aK s a lo hi).2.2=0):(aK s a lo hi).1=0/\(aK s a lo hi).2.1=0:=by
 unfold aK at h⊢;repeat' split
 all_goals first
  |exact ⟨rfl,rfl⟩
  |(rename_i h1 h2 h3 h4;rw [Q8 h1,Q8 h2,Q8 h3,Q_ h4] at h;exact absurd rfl h)
theorem KB (b:By) (c:UInt8) (h:b[(aU b).toNat]? =some c):gm c=false:=by
 induction b with
 |nil=>simp at h
 |cons x r ih=>
  unfold aU at h ih;rw [List.takeWhile_cons] at h;by_cases k:gm x=true
  ·rw [Q_ k,Rj] at h;refine ih ?_;rw [R3] at h⊢;rw [List.getElem?_cons_succ] at h;exact h
  ·rw [Q8 k] at h;have:some x=some c:=h;cases this;simpa using k
theorem mw {s:By} {a lo hi:Int} (h:(aK s a lo hi).2.2=0):(0<=a/\a<=s.length)/\(a<=(aK s a lo hi).2.1/\(aK s a lo hi).2.1<=s.length)/\(lo<=(aK s a lo hi).1/\(aK s a lo hi).1<=hi)/\InI (aK s a lo hi).1/\
 Lib.itoa (aK s a lo hi).1=(s.take (aK s a lo hi).2.1.toNat).drop a.toNat/\∀c,s[(aK s a lo hi).2.1.toNat]? =some c->gm c=false:=by
 by_cases hb:a<0∨(s.length:Int)<a
 ·rw [lH hb] at h;cases h
 rw [uY hb] at h⊢;have hrl:(s.drop a.toNat).length=s.length-a.toNat:=RE;by_cases h1:Lib.trimPrefix (s.drop a.toNat) [45]=[]
 ·rw [kN h1] at h;cases h
 by_cases h2:aU (Lib.trimPrefix (s.drop a.toNat) [45])=0∨((Lib.trimPrefix (s.drop a.toNat) [45]).head? =some 48/\(1<aU (Lib.trimPrefix (s.drop a.toNat) [45])∨Lib.hasPrefix (s.drop a.toNat) [45]=true))
 ·rw [fp h1 h2] at h;cases h
 rw [oW h1 h2] at h⊢;by_cases h3:inR (pzs ((s.drop a.toNat).take (ch (s.drop a.toNat)).toNat)) lo hi=true
 ·rw [Q_ h3];dsimp only;unfold inR at h3;rw [Q7] at h3;have hr:aU (Lib.trimPrefix (s.drop a.toNat) [45])≠0:=fun k=>h2 (.inl k);obtain ⟨n1,_,n2,n3⟩:=jf hr;have hc:=(qN hr).2 (fun k=>h2 (.inr k));obtain ⟨p1,p2,p3,p4⟩:=oh hb;refine ⟨by omega,by omega,by omega,⟨by omega,by omega⟩, ?_,fun c hc=> ?_⟩
  ·rw [hc,List.take_drop];congr 2;omega
  ·refine KB (Lib.trimPrefix (s.drop a.toNat) [45]) c ?_;have hr0:0<=aU (Lib.trimPrefix (s.drop a.toNat) [45]):=by unfold aU;omega
   rw [<-p1,je,p1,<-hc];congr 1;omega
 ·rw [Q8 h3] at h;cases h
theorem ld {n:Int} (h:InI n):(Lib.itoa n).length<=40:=by
 have h1:=sX (bO n);rw [fI] at h1;have h2:=i6 h;rw [h1];unfold eV dr;split<;>split<;>simp<;>omega
end
end
end Go.Proofs.YtabicbgeoiilmaaGreatDoor
