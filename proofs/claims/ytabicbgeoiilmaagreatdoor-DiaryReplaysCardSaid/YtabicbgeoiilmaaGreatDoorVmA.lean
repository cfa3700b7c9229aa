import Derived.Test.YtabicbgeoiilmaaGreatDoorVm0
namespace Go.Vm
inductive Ty where
 |bool|str|int (k:IntKind)|slice (t:Ty)|pair (a b:Ty)
 deriving DecidableEq
def Ty.den:Ty->Type
 | .bool=>Bool
 | .str=>List UInt8
 | .int _=>Int
 | .slice t=>List t.den
 | .pair a b=>a.den×b.den
def Ty.cells:Ty->Nat
 | .bool| .str| .int _| .slice _=>1
 | .pair a b=>a.cells+b.cells
theorem Ty.cells_pos (t:Ty):0<t.cells:=by
 induction t with
 |pair a b iha ihb=>simp only [Ty.cells];omega
 |_=>simp [Ty.cells]
inductive LK where
 |full|part|tmp
 deriving DecidableEq
inductive V where
 |any
 |kb (b:Bool)
 |bool (b:Bool)
 |bq (p:Bool->Prop)
 |int (k:IntKind) (n:Int)
 |str (l:List UInt8)
 |nilp|nils|nilm|nilf|nili
 |err (b:Bool)
 |list (kd:LK) (t:Ty) (l:List t.den)
 |olist (t:Ty) (l:List t.den)
 |optr (cells:List V)
 |slc (id ep:Nat) (rng:Option (Nat×Nat))
 |fptr (cells:List V)
 |ptr (id off:Nat)
 |own (id:Nat) (T:TypeId)
 |eptr (id ep i off:Nat)
 |nslc (id:Nat)
 |nptr (id i off:Nat)
 |nin (id iv i:Nat)
 |oref (id:Nat)
 |fopq (k:OK) (d:k.den)
 |rows (n:Nat) (cells:List V)
 |fn (f:Fn) (first cap:List V)
 |agg (cells:List V)
 |tuple (vs:List V)
 |iface (t:TypeId) (v:V)
instance:Inhabited V:=⟨.any⟩
inductive Obj where
 |box (cells:List V)
 |arr (ep:Nat) (t:Ty) (l:List t.den)
 |nest (iv:Nat) (t:Ty) (f:Nat) (hole:Option Nat) (l:List t.den)
 |opq (k:OK) (d:k.den)
def cU:Option Obj->Bool
 |some (.nest ..)=>true
 |some (.opq ..)=>true
 |_=>false
def enc:(t:Ty)->t.den->List V
 | .bool,b=>[.bool b]
 | .str,l=>[.str l]
 | .int k,n=>[.int k n]
 | .slice t,l=>[.list .part t l]
 | .pair a b,x=>enc a x.1++enc b x.2
abbrev Store:=List (Nat×Obj)
def Store.get:Store->Nat->Option Obj
 |[],_=>none
 |(i,o)::r,k=>if i=k then some o else Store.get r k
abbrev Mu:=Nat->Option (Nat×Nat×Nat)
inductive Pn where
 |box (p:Nat×Nat×Nat)
 |opq (k:OK) (b:Option Nat)
structure Fr where
 out:Nat->Prop
 hid:Nat->Prop
 pin:List (Nat×Pn)
 gnd:{l:List (Nat×_root_.Go.Obj)//wQ l}
instance:CoeFun Fr fun _=>Nat->Prop:=⟨Fr.out⟩
def Fr.any (F:Fr) (b:Nat):Prop:=F.out b∨F.hid b
structure Ctx where
 w:World
 σ:Store
 μ:Mu
 F:Fr
def di:Value->Option Nat
 | .slice (some a) _ cap=>if 0<cap then some a.block else none
 |_=>none
def bS (w:World) (p:Nat×Nat×Nat) (t:Ty) (f i:Nat):Option Value:=w.cell? ⟨p.1,p.2.1+i*t.cells+f,none⟩
def Obj.inn (w:World) (p:Nat×Nat×Nat) (o:Obj) (b:Nat):Prop:=
 match o with
 | .nest _ t f h l=> ∃i u,i<l.length/\h≠some i/\bS w p t f i=some u/\di u=some b
 | .opq _ _=>p.2.2.testBit b=true
 |_=>False
def Blk (X:Ctx) (id:Nat) (o:Obj) (b:Nat):Prop:= ∃p,X.μ id=some p/\(p.1=b∨o.inn X.w p b)
def Ctx.T0 (X:Ctx) (b:Nat):Prop:=b<X.w.heap.size/\∀id o,X.σ.get id=some o->¬Blk X id o b
theorem Ctx.T0.off {X:Ctx} {b:Nat} (h:X.T0 b) {id:Nat} {o:Obj} {p:Nat×Nat×Nat} (hg:X.σ.get id=some o) (hm:X.μ id=some p):p.1≠b:=
 fun e=>h.2 id o hg ⟨p,hm, .inl e⟩
def Ctx.T (X:Ctx) (b:Nat):Prop:=X.T0 b/\¬X.F.hid b
def Ctx.G (X:Ctx) (b:Nat):Prop:=X.T b/\¬X.F b
def Ctx.H (X:Ctx) (kd:LK) (b:Nat):Prop:=X.T b/\(kd≠ .tmp->¬X.F b)
abbrev nth {α:Type} (l:List α) (i:Nat):Option α:=l[i]?
def RepC (w:World) (G:Nat->Prop):(t:Ty)->t.den->List Value->Prop
 | .bool,b,cs=>cs=[.bool b]
 | .str,l,cs=> ∃s:ByteArray,cs=[.string s]/\s.data.toList=l
 | .int k,n,cs=>cs=[.int k n]
 | .pair a b,x,cs=> ∃c1 c2,cs=c1++c2/\RepC w G a x.1 c1/\RepC w G b x.2 c2
 | .slice t,l,cs=> ∃A cap,cs=[.slice A (List.length l) cap]/\List.length l<=cap/\
  (0<List.length l->∃b o,A=some ⟨b,o,none⟩/\G b/\
   ∀(i:Nat) (x:t.den),nth (α:=t.den) l i=some x->∃row,RepC w G t x row/\∀(j:Nat) (u:Value),row[j]? =some u->w.cell? ⟨b,o+i*t.cells+j,none⟩=some u)
def RepS (w:World) (H G:Nat->Prop) (t:Ty) (l:List t.den) (A:Option Addr) (len cap:Nat):Prop:=
 len=l.length/\len<=cap/\(0<len->∃b o,A=some ⟨b,o,none⟩/\H b/\
  ∀(i:Nat) (x:t.den),nth l i=some x->∃row,RepC w G t x row/\∀(j:Nat) (u:Value),row[j]? =some u->w.cell? ⟨b,o+i*t.cells+j,none⟩=some u)
theorem RepC.toS {w:World} {G:Nat->Prop} {t:Ty} {l:List t.den} {A:Option Addr} {len cap:Nat} (h:RepC w G (.slice t) l [.slice A len cap]):RepS w G G t l A len cap:=by
 obtain ⟨A',cap',e,hl,hc⟩:=h;simp only [List.cons.injEq,Value.slice.injEq,and_true] at e;obtain ⟨rfl,rfl,rfl⟩:=e;exact ⟨rfl,hl,hc⟩
theorem RepS.toC {w:World} {H G:Nat->Prop} {t:Ty} {l:List t.den} {A:Option Addr} {len cap:Nat} (h:RepS w H G t l A len cap) (hG: ∀b,H b->G b):RepC w G (.slice t) l [.slice A len cap]:=by
 obtain ⟨rfl,hl,hc⟩:=h;refine ⟨A,cap,rfl,hl,fun h0=> ?_⟩;obtain ⟨b,o,e,hb,hr⟩:=hc h0;exact ⟨b,o,e,hG b hb,hr⟩
theorem RepC.len {w:World} {G:Nat->Prop}: ∀{t:Ty} {x:t.den} {cs:List Value},RepC w G t x cs->cs.length=t.cells
 | .bool,_,_,h=>by simp only [RepC] at h;subst h;rfl
 | .int _,_,_,h=>by simp only [RepC] at h;subst h;rfl
 | .str,_,_,h=>by obtain ⟨s,rfl,_⟩:=h;rfl
 | .slice _,_,_,h=>by obtain ⟨A,cap,rfl,_⟩:=h;rfl
 | .pair _ _,_,_,h=>by
  obtain ⟨c1,c2,rfl,h1,h2⟩:=h;rw [Re,h1.len,h2.len];rfl
theorem dO {w w':World} {b o:Nat} (h:w'.heap[b]? =w.heap[b]?):w'.cell? ⟨b,o,none⟩=w.cell? ⟨b,o,none⟩:=by
 simp [World.cell?,h]
theorem RepC.keep {w w':World} {G G':Nat->Prop} (hG: ∀b,G b->G' b/\w'.heap[b]? =w.heap[b]?):
 ∀{t:Ty} {x:t.den} {cs:List Value},RepC w G t x cs->RepC w' G' t x cs
 | .bool,_,_,h=>h
 | .int _,_,_,h=>h
 | .str,_,_,h=>h
 | .pair _ _,_,_,h=>by
  obtain ⟨c1,c2,e,h1,h2⟩:=h;exact ⟨c1,c2,e,h1.keep hG,h2.keep hG⟩
 | .slice t,_,_,h=>by
  obtain ⟨A,cap,e,hl,hc⟩:=h;refine ⟨A,cap,e,hl,fun h0=> ?_⟩;obtain ⟨b,o,eA,hg,hi⟩:=hc h0;obtain ⟨hg',hh⟩:=hG b hg;refine ⟨b,o,eA,hg',fun i x hx=> ?_⟩;obtain ⟨row,hr,bS⟩:=hi i x hx;exact ⟨row,hr.keep hG,fun j u hu=>by rw [dO hh];exact bS j u hu⟩
theorem RepS.keep {w w':World} {H G H' G':Nat->Prop} (hG: ∀b,G b->G' b/\w'.heap[b]? =w.heap[b]?) (hH: ∀b,H b->H' b/\w'.heap[b]? =w.heap[b]?) {t:Ty} {l:List t.den} {A:Option Addr} {len cap:Nat}
 (h:RepS w H G t l A len cap):RepS w' H' G' t l A len cap:=by
 obtain ⟨h1,h2,hc⟩:=h;refine ⟨h1,h2,fun h0=> ?_⟩;obtain ⟨b,o,e,hb,hr⟩:=hc h0;obtain ⟨hb',hh⟩:=hH b hb;refine ⟨b,o,e,hb',fun i x hx=> ?_⟩;obtain ⟨row,r1,r2⟩:=hr i x hx;exact ⟨row,r1.keep hG,fun j u hu=>by rw [dO hh];exact r2 j u hu⟩
def Hdr (p:Option (Nat×Nat×Nat)) (t:Ty) (n:Nat) (rng:Option (Nat×Nat)) (A:Option Addr) (len cap:Nat):Prop:=
 match p,rng with
 |none,none=>len=0/\cap=0/\n=0
 |none,some (off,m)=>off=0/\m=0/\len=0/\cap=0/\n=0
 |some (b,base,C),none=>len=n/\cap=C/\n<=C/\(∃a,A=some a/\(0<C->a=⟨b,base,none⟩))
 |some (b,base,C),some (off,m)=>len=m/\off+m<=n/\n<=C/\cap=C-off/\(∃a,A=some a/\(0<C-off->a=⟨b,base+off*t.cells,none⟩))
inductive Rep (X:Ctx):V->Value->Prop where
 |any {v}:Rep X .any v
 |kb {b}:Rep X (.kb b) (.bool b)
 |bool {b}:Rep X (.bool b) (.bool b)
 |bq {p b}:p b->Rep X (.bq p) (.bool b)
 |int {k n}:Rep X (.int k n) (.int k n)
 |str {l s}:s.data.toList=l->Rep X (.str l) (.string s)
 |nilp:Rep X .nilp (.pointer none)
 |nils:Rep X .nils (.slice none 0 0)
 |nilm:Rep X .nilm (.map none)
 |nilf:Rep X .nilf .nilFunc
 |nili:Rep X .nili .nilIface
 |errN:Rep X (.err false) .nilIface
 |errS {t:TypeId} {v:Value}:Rep X (.err true) (.iface t v)
 |list {kd t l A len cap}:RepS X.w (X.H kd) X.G t l A len cap->(kd= .full->cap=len)->Rep X (.list kd t l) (.slice A len cap)
 |slc {id ep rng A len cap ep' t l}:X.σ.get id=some (.arr ep' t l)->ep<=ep'->(ep=ep'->Hdr (X.μ id) t l.length rng A len cap)->Rep X (.slc id ep rng) (.slice A len cap)
 |fptr {cells b o} (f:Nat->Value):(0<cells.length->X.T b)->(∀(j:Nat) c,cells[j]? =some c->X.w.cell? ⟨b,o+j,none⟩=some (f j))->
  (∀(j:Nat) c,cells[j]? =some c->Rep X c (f j))->Rep X (.fptr cells) (.pointer (some ⟨b,o,none⟩))
 |ptr {id off cells b base C}:X.σ.get id=some (.box cells)->X.μ id=some (b,base,C)->Rep X (.ptr id off) (.pointer (some ⟨b,base+off,none⟩))
 |own {id T cells b u}:X.σ.get id=some (.box cells)->X.μ id=some (b,0,T)->(u= .pointer none∨u= .pointer (some ⟨b,0,none⟩))->Rep X (.own id T) u
 |eptr {id ep i off a ep' t l}:X.σ.get id=some (.arr ep' t l)->ep<=ep'->(ep=ep'->∃b base C,X.μ id=some (b,base,C)/\a=⟨b,base+i*t.cells+off,none⟩)->
  Rep X (.eptr id ep i off) (.pointer (some a))
 |rows {n cells A len cap} (f:Nat->Value):len*n=cells.length->len<=cap->(0<cells.length->∃b o,A=some ⟨b,o,none⟩/\X.G b/\∀(j:Nat) c,cells[j]? =some c->X.w.cell? ⟨b,o+j,none⟩=some (f j))->
  (∀(j:Nat) c,cells[j]? =some c->Rep X c (f j))->Rep X (.rows n cells) (.slice A len cap)
 |nslc {id A len cap iv t f h l}:X.σ.get id=some (.nest iv t f h l)->Hdr (X.μ id) t l.length none A len cap->Rep X (.nslc id) (.slice A len cap)
 |nptr {id i off iv t f h l b base C}:X.σ.get id=some (.nest iv t f h l)->X.μ id=some (b,base,C)->Rep X (.nptr id i off) (.pointer (some ⟨b,base+i*t.cells+off,none⟩))
 |nin {id iv i u iv' t f h l}:X.σ.get id=some (.nest iv' t f h l)->iv<=iv'->(iv=iv'->i<l.length/\h≠some i/\∃p,X.μ id=some p/\bS X.w p t f i=some u)->Rep X (.nin id iv i) u
 |oref {id k d}:X.σ.get id=some (.opq k d)->Rep X (.oref id) (k.val ((X.μ id).map (·.1)))
 |fopq {k d o} (S:Nat->Prop):(o=none->k.isNil d=true)->(∀b,o=some b->k.isNil d=false/\k.holds d X.w b S/\∀c,c=b∨S c->X.T c)->Rep X (.fopq k d) (k.val o)
 |fn {f first cap} {vs ws:Array Value}:vs.size=first.length->ws.size=cap.length->(∀(j:Nat) c u,first[j]? =some c->vs[j]? =some u->Rep X c u)->
  (∀(j:Nat) c u,cap[j]? =some c->ws[j]? =some u->Rep X c u)->Rep X (.fn f first cap) (.func f vs ws)
 |agg {cells} {vs:Array Value}:vs.size=cells.length->(∀(j:Nat) c u,cells[j]? =some c->vs[j]? =some u->Rep X c u)->Rep X (.agg cells) (.agg vs)
 |tuple {cells} {vs:Array Value}:vs.size=cells.length->(∀(j:Nat) c u,cells[j]? =some c->vs[j]? =some u->Rep X c u)->Rep X (.tuple cells) (.tuple vs)
 |iface {t c u}:Rep X c u->Rep X (.iface t c) (.iface t u)
def RepL (X:Ctx) (cs:List V) (vs:List Value):Prop:=vs.length=cs.length/\∀(j:Nat) c u,cs[j]? =some c->vs[j]? =some u->Rep X c u
structure Evo (X X':Ctx):Prop where
 os:X'.w.os=X.w.os
 tape:X'.w.tape=X.w.tape
 output:X'.w.output=X.w.output
 size:X.w.heap.size<=X'.w.heap.size
 outer:X'.F=X.F
 still: ∀b,X.T0 b->X'.T0 b/\X'.w.heap[b]? =X.w.heap[b]?
 box: ∀id cells,X.σ.get id=some (.box cells)->(∃cells',X'.σ.get id=some (.box cells'))/\X'.μ id=X.μ id
 arr: ∀id ep t l,X.σ.get id=some (.arr ep t l)->∃ep' l',X'.σ.get id=some (.arr ep' t l')/\ep<=ep'/\(ep'=ep->X'.μ id=X.μ id/\l'.length=l.length)
 nest: ∀id iv t f h l,X.σ.get id=some (.nest iv t f h l)->∃iv' h' l',X'.σ.get id=some (.nest iv' t f h' l')/\iv<=iv'/\X'.μ id=X.μ id/\l'.length=l.length/\
  (iv'=iv->l'=l/\h'=h/\∀p,X.μ id=some p->X'.w.heap[p.1]? =X.w.heap[p.1]?)
 opq: ∀id k d,X.σ.get id=some (.opq k d)->(∃d',X'.σ.get id=some (.opq k d'))/\(X'.μ id).map (·.1)=(X.μ id).map (·.1)
theorem Evo.tmp {X X':Ctx} (h:Evo X X') (b:Nat) (hb:X.T b):X'.T b/\X'.w.heap[b]? =X.w.heap[b]? :=
 ⟨⟨(h.still b hb.1).1,by rw [h.outer];exact hb.2⟩,(h.still b hb.1).2⟩
theorem Evo.good {X X':Ctx} (h:Evo X X') (b:Nat) (hb:X.G b):X'.G b/\X'.w.heap[b]? =X.w.heap[b]? :=
 ⟨⟨(h.tmp b hb.1).1,by rw [h.outer];exact hb.2⟩,(h.tmp b hb.1).2⟩
theorem Evo.head {X X':Ctx} (h:Evo X X') (kd:LK) (b:Nat) (hb:X.H kd b):X'.H kd b/\X'.w.heap[b]? =X.w.heap[b]? :=
 ⟨⟨(h.tmp b hb.1).1,fun hk=>by rw [h.outer];exact hb.2 hk⟩,(h.tmp b hb.1).2⟩
theorem Rep.evo {X X':Ctx} (hE:Evo X X') {c:V} {v:Value} (h:Rep X c v):Rep X' c v:=by
 induction h with
 |any=>exact .any
 |kb=>exact .kb
 |bool=>exact .bool
 |bq h=>exact .bq h
 |int=>exact .int
 |str h=>exact .str h
 |nilp=>exact .nilp
 |nils=>exact .nils
 |nilm=>exact .nilm
 |nilf=>exact .nilf
 |nili=>exact .nili
 |errN=>exact .errN
 |errS=>exact .errS
 |list h hf=>exact .list (h.keep hE.good (hE.head _)) hf
 |slc hg he hh=>
  obtain ⟨ep',l',hg',hle,hs⟩:=hE.arr _ _ _ _ hg;refine .slc hg' (Ro he hle) (fun e=> ?_);subst e;have e2:=Nat.le_antisymm he hle;obtain ⟨hm,hl⟩:=hs e2;rw [hm,hl];exact hh e2
 |fptr f hG hc _ ih=>
  refine .fptr f (fun h0=>(hE.tmp _ (hG h0)).1) (fun j c hj=> ?_) ih;have h0:0<_:=Nat.lt_of_le_of_lt (RV j) (List.getElem?_eq_some_iff.1 hj).1;rw [dO (hE.tmp _ (hG h0)).2];exact hc j c hj
 |ptr hg hm=>
  obtain ⟨⟨cells',hg'⟩,hm'⟩:=hE.box _ _ hg;exact .ptr hg' (hm'.trans hm)
 |own hg hm hu=>
  obtain ⟨⟨cells',hg'⟩,hm'⟩:=hE.box _ _ hg;exact .own hg' (hm'.trans hm) hu
 |eptr hg he hh=>
  obtain ⟨ep',l',hg',hle,hs⟩:=hE.arr _ _ _ _ hg;refine .eptr hg' (Ro he hle) (fun e=> ?_);subst e;have e2:=Nat.le_antisymm he hle;rw [(hs e2).1];exact hh e2
 |rows f h1 h2 h3 _ ih=>
  refine .rows f h1 h2 (fun h0=> ?_) ih;obtain ⟨b,o,e,hb,hc⟩:=h3 h0;exact ⟨b,o,e,(hE.good b hb).1,fun j c hj=>by rw [dO (hE.good b hb).2];exact hc j c hj⟩
 |nslc hg hh=>
  obtain ⟨iv',h',l',hg',_,hm,hl,_⟩:=hE.nest _ _ _ _ _ _ hg;refine .nslc hg' ?_;rw [hm,hl];exact hh
 |nptr hg hm=>
  obtain ⟨iv',h',l',hg',_,hm',_⟩:=hE.nest _ _ _ _ _ _ hg;exact .nptr hg' (hm'.trans hm)
 |nin hg hle hc=>
  obtain ⟨iv2,h2,l2,hg',hle2,hm,hl,hs⟩:=hE.nest _ _ _ _ _ _ hg;refine .nin hg' (Ro hle hle2) (fun e=> ?_);subst e;have e2:=Nat.le_antisymm hle hle2;obtain ⟨rfl,rfl,hb⟩:=hs (by first|exact e2|exact e2.symm);obtain ⟨c1,c2,p,c3,c4⟩:=hc (by first|exact e2|exact e2.symm);exact ⟨c1,c2,p,hm.trans c3,by unfold bS at c4⊢;rw [dO (hb p c3)];exact c4⟩
 |oref hg=>
  obtain ⟨⟨d',hg'⟩,hm'⟩:=hE.opq _ _ _ hg;rw [<-hm'];exact .oref hg'
 |fopq S h1 h2=>
  refine .fopq S h1 fun b e=> ?_;obtain ⟨k1,k2,k3⟩:=h2 b e;exact ⟨k1,OK.keep k2 fun c hc=>(hE.tmp c (k3 c hc)).2,fun c hc=>(hE.tmp c (k3 c hc)).1⟩
 |fn h1 h2 _ _ ih1 ih2=>exact .fn h1 h2 ih1 ih2
 |agg h1 _ ih=>exact .agg h1 ih
 |tuple h1 _ ih=>exact .tuple h1 ih
 |iface _ ih=>exact .iface ih
theorem Evo.refl (X:Ctx):Evo X X:=
 ⟨rfl,rfl,rfl,Rf _,rfl,fun _ h=>⟨h,rfl⟩,fun _ cells h=>⟨⟨cells,h⟩,rfl⟩,fun _ ep _ l h=>⟨ep,l,h,Rf _,fun _=>⟨rfl,rfl⟩⟩,
  fun _ iv _ _ h l hg=>⟨iv,h,l,hg,Rf _,rfl,rfl,fun _=>⟨rfl,rfl,fun _ _=>rfl⟩⟩,fun _ _ d hg=>⟨⟨d,hg⟩,rfl⟩⟩
theorem Evo.trans {X Y Z:Ctx} (h:Evo X Y) (k:Evo Y Z):Evo X Z:=by
 refine ⟨k.os.trans h.os,k.tape.trans h.tape,k.output.trans h.output,Ro h.size k.size,k.outer.trans h.outer,fun b hb=> ?_,fun id cells hg=> ?_,fun id ep t l hg=> ?_,fun id iv t f hh l hg=> ?_,fun id kk d hg=> ?_⟩
 ·obtain ⟨h1,h2⟩:=h.still b hb;obtain ⟨k1,k2⟩:=k.still b h1;exact ⟨k1,k2.trans h2⟩
 ·obtain ⟨⟨c',h1⟩,h2⟩:=h.box id cells hg;obtain ⟨k1,k2⟩:=k.box id c' h1;exact ⟨k1,k2.trans h2⟩
 ·obtain ⟨ep',l',h1,h2,h3⟩:=h.arr id ep t l hg;obtain ⟨ep'',l'',k1,k2,k3⟩:=k.arr id ep' t l' h1;refine ⟨ep'',l'',k1,Ro h2 k2,fun e=> ?_⟩;subst e;have e2:ep'=ep'':=Nat.le_antisymm k2 h2;obtain ⟨a1,a2⟩:=k3 e2.symm;obtain ⟨b1,b2⟩:=h3 e2;exact ⟨a1.trans b1,a2.trans b2⟩
 ·obtain ⟨iv1,h1,l1,g1,e1,m1,n1,s1⟩:=h.nest id iv t f hh l hg;obtain ⟨iv2,h2,l2,g2,e2,m2,n2,s2⟩:=k.nest id iv1 t f h1 l1 g1;refine ⟨iv2,h2,l2,g2,Ro e1 e2,m2.trans m1,n2.trans n1,fun e=> ?_⟩;subst e;have e3:iv1=iv2:=Nat.le_antisymm e2 e1;obtain ⟨rfl,rfl,a3⟩:=s2 e3.symm;obtain ⟨rfl,rfl,b3⟩:=s1 e3;exact ⟨rfl,rfl,fun p hp=>(a3 p (m1.trans hp)).trans (b3 p hp)⟩
 ·obtain ⟨⟨d',h1⟩,h2⟩:=h.opq id kk d hg;obtain ⟨k1,k2⟩:=k.opq id kk d' h1;exact ⟨k1,k2.trans h2⟩
theorem RepL.evo {X X':Ctx} (hE:Evo X X') {cs:List V} {vs:List Value} (h:RepL X cs vs):RepL X' cs vs:=
 ⟨h.1,fun j c u hc hu=>(h.2 j c u hc hu).evo hE⟩
def Oe:V->Bool
 | .bool _| .kb _| .int _ _| .str _| .nils| .list .part _ _| .list .full _ _=>true
 |_=>false
theorem u7: ∀{t:Ty} {x:t.den} {c:V},c∈enc t x->Oe c=true
 | .bool,_,c,h=>by simp [enc] at h;subst h;rfl
 | .str,_,c,h=>by simp [enc] at h;subst h;rfl
 | .int _,_,c,h=>by simp [enc] at h;subst h;rfl
 | .slice _,_,c,h=>by simp [enc] at h;subst h;rfl
 | .pair _ _,_,c,h=>by
  simp only [enc,Rn] at h;rcases h with h|h
  ·exact u7 h
  ·exact u7 h
theorem Rep.dat {X X':Ctx} (hG: ∀b,X.G b->X'.G b/\X'.w.heap[b]? =X.w.heap[b]?) {c:V} {u:Value} (hc:Oe c=true) (h:Rep X c u):Rep X' c u:=by
 cases h with
 |kb=>exact .kb
 |bool=>exact .bool
 |int=>exact .int
 |str h=>exact .str h
 |nils=>exact .nils
 | @list kd t l A len cap h hf=>
  have hne:kd≠ .tmp:=by rintro rfl;simp [Oe] at hc
  refine .list (h.keep hG (fun b hb=> ?_)) hf;obtain ⟨h1,h2⟩:=hG b ⟨hb.1,hb.2 hne⟩;exact ⟨⟨h1.1,fun _=>h1.2⟩,h2⟩
 |_=>simp [Oe] at hc
def Bv (t:Ty) (ty:TypeId) (base C:Nat):Prop:=C<=maxLen/\(t= .int .u8->ty=om/\base=0)
def RepH (w : World) (G : Nat -> Prop) (c : V) (u : Value) : Prop :=
  ∃ tin l A cap, c = .list .part tin l /\ u = .slice A l.length cap /\
    ((cap = 0 /\ l.length = 0) ∨ ∃ b base cs ty, A = some ⟨b, base, none⟩ /\ 0 < cap /\ w.heap[b]? = some (.cells cs ty (0, 0)) /\ base + cap * tin.cells = cs.size /\ l.length <= cap /\ Bv tin ty base cap /\
      ∀ (i : Nat) (x : tin.den), l[i]? = some x -> ∃ row, RepC w G tin x row /\ ∀ (j : Nat) (u : Value), row[j]? = some u -> cs[base + i * tin.cells + j]? = some u)
def ObjOk (X:Ctx) (id:Nat):Obj->Prop
 | .box cells=> ∃b cs ty,X.μ id=some (b,0,ty)/\X.w.heap[b]? =some (.cells cs ty (0,0))/\RepL X cells cs.toList
 | .arr _ t l=>(X.μ id=none/\l.length=0)∨
  ∃b base C cs ty,X.μ id=some (b,base,C)/\X.w.heap[b]? =some (.cells cs ty (0,0))/\base+C*t.cells=cs.size/\l.length<=C/\Bv t ty base C/\
   ∀(i:Nat) (x:t.den),l[i]? =some x->∃row,RepC X.w X.G t x row/\∀(j:Nat) (u:Value),row[j]? =some u->cs[base+i*t.cells+j]? =some u
 | .nest _ t f h l=> ∃b base C cs ty,X.μ id=some (b,base,C)/\X.w.heap[b]? =some (.cells cs ty (0,0))/\base+C*t.cells=cs.size/\l.length<=C/\C<=maxLen/\f<t.cells/\
  (∀(i:Nat) (x:t.den),l[i]? =some x->∀(j:Nat) c,(enc t x)[j]? =some c->∃u,cs[base+i*t.cells+j]? =some u/\(j≠f->Rep X c u)/\(j=f->h≠some i->RepH X.w X.G c u))/\
  (∀i j u v b',i<l.length->j<l.length->h≠some i->h≠some j->bS X.w (b,base,C) t f i=some u->bS X.w (b,base,C) t f j=some v->di u=some b'->di v=some b'->i=j)/\
  ∀i u,i<l.length->h≠some i->bS X.w (b,base,C) t f i=some u->di u≠some b
 | .opq k d=>(X.μ id=none/\k.isNil d=true)∨∃b base C,X.μ id=some (b,base,C)/\k.isNil d=false/\k.holds d X.w b (fun c=>C.testBit c=true)
def Pn.at (σ:Store) (μ:Mu) (i:Nat):Pn->Prop
 | .box p=>(∃cells,σ.get i=some (.box cells))/\μ i=some p
 | .opq k b=>(∃d,σ.get i=some (.opq k d))/\(μ i).map (·.1)=b
structure Marks (B:Nat->Prop) (X:Ctx):Prop where
 pin: ∀e∈X.F.pin,Pn.at X.σ X.μ e.1 e.2
 gnd: ∀e∈X.F.gnd.1,X.w.heap[e.1]? =some e.2/\¬B e.1
structure Inv (B:Nat->Prop) (X:Ctx):Prop where
 objs: ∀id o,X.σ.get id=some o->ObjOk X id o
 injB: ∀i j o o' b,X.σ.get i=some o->X.σ.get j=some o'->Blk X i o b->Blk X j o' b->i=j
 baseB: ∀id o b,X.σ.get id=some o->Blk X id o b->B b
 out: ∀b,X.w.heap.size<=b->¬X.F.any b
 vis: ∀b,B b->¬X.F.any b
 marks:Marks B X
theorem Blk.top {X:Ctx} {id:Nat} {o:Obj} {p:Nat×Nat×Nat} (h:X.μ id=some p):Blk X id o p.1:=⟨p,h, .inl rfl⟩
theorem Inv.inj {B:Nat->Prop} {X:Ctx} (h:Inv B X) (i j:Nat) (o o':Obj) (p q:Nat×Nat×Nat) (hi:X.σ.get i=some o) (hj:X.σ.get j=some o') (hp:X.μ i=some p) (hq:X.μ j=some q) (e:p.1=q.1):i=j:=
 h.injB i j o o' q.1 hi hj ⟨p,hp, .inl e⟩ (.top hq)
theorem Inv.base {B:Nat->Prop} {X:Ctx} (h:Inv B X) (id:Nat) (o:Obj) (p:Nat×Nat×Nat) (hg:X.σ.get id=some o) (hm:X.μ id=some p):B p.1:=h.baseB id o p.1 hg (.top hm)
theorem Inv.hid {B:Nat->Prop} {X:Ctx} (h:Inv B X): ∀b,B b->¬X.F.hid b:=fun b hb hh=>h.vis b hb (.inr hh)
theorem Inv.own {B:Nat->Prop} {X:Ctx} (h:Inv B X): ∀b,B b->¬X.F b:=fun b hb hh=>h.vis b hb (.inl hh)
theorem Of {t:Ty} {x:t.den} {j:Nat} (hj:j<t.cells): ∃c,(enc t x)[j]? =some c:=by
 have:(enc t x).length=t.cells:=by
  clear hj;induction t with
  |pair a b iha ihb=>simp only [enc,Re,iha,ihb,Ty.cells]
  |_=>rfl
 exact ⟨_,List.getElem?_eq_getElem (by omega)⟩
theorem yn {w:World} {b base C:Nat} {cs:Array Value} {ty:TypeId} {t:Ty} {f i:Nat} {u:Value} (h:w.heap[b]? =some (.cells cs ty (0,0))) (hc:cs[base+i*t.cells+f]? =some u):bS w (b,base,C) t f i=some u:=by
 simp [bS,World.cell?,h,hc]
theorem KQ {X:Ctx} {id iv:Nat} {t:Ty} {f:Nat} {h:Option Nat} {l:List t.den} (hO:ObjOk X id (.nest iv t f h l)) {p:Nat×Nat×Nat} (hp:X.μ id=some p) {i:Nat} (hi:i<l.length) (hh:h≠some i):
 ∃c u,(enc t l[i])[f]? =some c/\bS X.w p t f i=some u/\RepH X.w X.G c u:=by
 obtain ⟨b,base,C,cs,ty,h1,h2,h3,h4,h5,hf,h6,h7,h8⟩:=hO;rw [hp] at h1;cases h1;obtain ⟨c,hc⟩:=Of (x:=l[i]) hf;obtain ⟨u,k1,_,k2⟩:=h6 i l[i] (List.getElem?_eq_getElem hi) f c hc;exact ⟨c,u,hc,yn h2 k1,k2 rfl hh⟩
theorem RepH.lt {w:World} {G:Nat->Prop} {c:V} {u:Value} {b:Nat} (h:RepH w G c u) (hb:di u=some b):b<w.heap.size:=by
 obtain ⟨tin,l,A,cap,rfl,rfl,h⟩:=h;rcases h with ⟨rfl,_⟩|⟨b',base,cs,ty,rfl,h1,h2,_⟩
 ·cases A<;>simp [di] at hb
 ·simp [di,h1] at hb;subst hb;exact (Array.getElem?_eq_some_iff.1 h2).1
theorem Inv.ltB {B:Nat->Prop} {X:Ctx} (h:Inv B X) {id:Nat} {o:Obj} {b:Nat} (hg:X.σ.get id=some o) (hb:Blk X id o b):b<X.w.heap.size:=by
 have h0:=h.objs id o hg;obtain ⟨p,hm,hb⟩:=hb;rcases hb with rfl|hb
 ·cases o with
  |box cells=>
   obtain ⟨b,cs,ty,h1,h2,_⟩:=h0;rw [hm] at h1;cases h1;exact (Array.getElem?_eq_some_iff.1 h2).1
  |arr ep t l=>
   rcases h0 with ⟨h1,_⟩|⟨b,base,C,cs,ty,h1,h2,_⟩
   ·rw [hm] at h1;cases h1
   ·rw [hm] at h1;cases h1;exact (Array.getElem?_eq_some_iff.1 h2).1
  |nest iv t f hh l=>
   obtain ⟨b,base,C,cs,ty,h1,h2,_⟩:=h0;rw [hm] at h1;cases h1;exact (Array.getElem?_eq_some_iff.1 h2).1
  |opq k d=>
   rcases h0 with ⟨h1,_⟩|⟨b,base,C,h1,_,h2⟩
   ·rw [hm] at h1;cases h1
   rw [hm] at h1;cases h1;exact OK.lt h2 (.inl rfl)
 ·cases o with
  |box cells=>exact hb.elim
  |arr ep t l=>exact hb.elim
  |nest iv t f hh l=>
   obtain ⟨i,u,k1,k2,k3,k4⟩:=hb;obtain ⟨c,u',_,k6,k7⟩:=KQ h0 hm k1 k2;rw [k3] at k6;cases k6;exact k7.lt k4
  |opq k d=>
   rcases h0 with ⟨h1,_⟩|⟨b',base,C,h1,_,h2⟩
   ·rw [hm] at h1;cases h1
   rw [hm] at h1;cases h1;exact OK.lt h2 (.inr hb)
theorem Inv.lt {B:Nat->Prop} {X:Ctx} (h:Inv B X) {id:Nat} {o:Obj} {p:Nat×Nat×Nat} (hg:X.σ.get id=some o) (hm:X.μ id=some p):p.1<X.w.heap.size:=h.ltB hg (.top hm)
theorem Inv.ground {B:Nat->Prop} {X:Ctx} (h:Inv B X) {e:Nat×_root_.Go.Obj} (he:e∈X.F.gnd.1):X.T0 e.1:=by
 obtain ⟨h1,h2⟩:=h.marks.gnd e he;exact ⟨(Array.getElem?_eq_some_iff.1 h1).1,fun id o hg hb=>h2 (h.baseB id o _ hg hb)⟩
theorem Marks.evo {B:Nat->Prop} {X X':Ctx} (hI:Inv B X) (hE:Evo X X'):Marks B X':=by
 refine ⟨fun e he=> ?_,fun e he=> ?_⟩
 ·rw [hE.outer] at he;have hp:=hI.marks.pin e he;generalize e.1=i at hp;generalize e.2=q at hp;cases q with
  |box p=>
   obtain ⟨⟨cells,h1⟩,h2⟩:=hp;obtain ⟨k1,k2⟩:=hE.box _ _ h1;exact ⟨k1,k2.trans h2⟩
  |opq k b=>
   obtain ⟨⟨d,h1⟩,h2⟩:=hp;obtain ⟨k1,k2⟩:=hE.opq _ _ _ h1;exact ⟨k1,k2.trans h2⟩
 ·rw [hE.outer] at he;obtain ⟨h1,h2⟩:=hI.marks.gnd e he;exact ⟨(hE.still _ (hI.ground he)).2.trans h1,h2⟩
theorem kO {w w':World} {p:Nat×Nat×Nat} {t:Ty} {f i:Nat} (h:w'.heap[p.1]? =w.heap[p.1]?):bS w' p t f i=bS w p t f i:=dO h
theorem Blk.move {X X':Ctx} {id id':Nat} {o:Obj} {b:Nat} (hmu:X'.μ id'=X.μ id) (hw: ∀p,X.μ id=some p->X'.w.heap[p.1]? =X.w.heap[p.1]?) (h:Blk X' id' o b):Blk X id o b:=by
 obtain ⟨p,hm,h⟩:=h;rw [hmu] at hm;refine ⟨p,hm, ?_⟩;rcases h with h|h
 ·exact .inl h
 ·refine .inr ?_;cases o with
  |box _=>exact h
  |arr _ _ _=>exact h
  |nest iv t f hh l=>
   obtain ⟨i,u,k1,k2,k3,k4⟩:=h;exact ⟨i,u,k1,k2,by rw [<-kO (hw p hm)];exact k3,k4⟩
  |opq _ _=>exact h
theorem RepH.keep {w w':World} {G G':Nat->Prop} (hG: ∀b,G b->G' b/\w'.heap[b]? =w.heap[b]?) {c:V} {u:Value} (hb: ∀b,di u=some b->w'.heap[b]? =w.heap[b]?) (h:RepH w G c u):RepH w' G' c u:=by
 obtain ⟨tin,l,A,cap,rfl,rfl,h⟩:=h;refine ⟨tin,l,A,cap,rfl,rfl, ?_⟩;rcases h with h|⟨b,base,cs,ty,rfl,h1,h2,h3,h4,h5,h6⟩
 ·exact .inl h
 ·refine .inr ⟨b,base,cs,ty,rfl,h1,(hb b (by simp [di,h1])).trans h2,h3,h4,h5,fun i x hx=> ?_⟩;obtain ⟨row,r1,r2⟩:=h6 i x hx;exact ⟨row,r1.keep hG,r2⟩
theorem ObjOk.move {X X':Ctx} {id id':Nat} {o:Obj} (hmu:X'.μ id'=X.μ id) (hw: ∀b,Blk X id o b->X'.w.heap[b]? =X.w.heap[b]?) (hG: ∀b,X.G b->X'.G b/\X'.w.heap[b]? =X.w.heap[b]?)
 (hbox: ∀cells vs,o= .box cells->RepL X cells vs->RepL X' cells vs) (h:ObjOk X id o):ObjOk X' id' o:=by
 cases o with
 |box cells=>
  obtain ⟨b,cs,ty,h1,h2,h3⟩:=h;exact ⟨b,cs,ty,hmu.trans h1,(hw b (Blk.top h1)).trans h2,hbox _ _ rfl h3⟩
 |arr ep t l=>
  rcases h with ⟨h1,h2⟩|⟨b,base,C,cs,ty,h1,h2,h3,h4,h5,h6⟩
  ·exact .inl ⟨hmu.trans h1,h2⟩
  ·refine .inr ⟨b,base,C,cs,ty,hmu.trans h1,(hw b (Blk.top h1)).trans h2,h3,h4,h5,fun i x hx=> ?_⟩;obtain ⟨row,hr,hc⟩:=h6 i x hx;exact ⟨row,hr.keep hG,hc⟩
 |nest iv t f hh l=>
  obtain ⟨b,base,C,cs,ty,h1,h2,h3,h4,h5,hf,h6,h7,h8⟩:=h;have e:=hw b (Blk.top h1);refine ⟨b,base,C,cs,ty,hmu.trans h1,e.trans h2,h3,h4,h5,hf,fun i x hx j c hc=> ?_,fun i j u v b' a1 a2 a3 a4 a5 a6=> ?_,fun i u a1 a2 a3=> ?_⟩
  ·obtain ⟨u,k1,k2,k3⟩:=h6 i x hx j c hc;refine ⟨u,k1,fun hj=>(k2 hj).dat hG (u7 (Rr hc)),fun hj hi=>(k3 hj hi).keep hG (fun b' hb'=> ?_)⟩;subst hj;exact hw b' ⟨_,h1, .inr ⟨i,u,(List.getElem?_eq_some_iff.1 hx).1,hi,yn h2 k1,hb'⟩⟩
  ·rw [kO e] at a5 a6;exact h7 i j u v b' a1 a2 a3 a4 a5 a6
  ·rw [kO e] at a3;exact h8 i u a1 a2 a3
 |opq k d=>
  rcases h with ⟨h1,h2⟩|⟨b,base,C,h1,h0,h2⟩
  ·exact .inl ⟨hmu.trans h1,h2⟩
  exact .inr ⟨b,base,C,hmu.trans h1,h0,OK.keep h2 fun c hc=>hw c ⟨_,h1,hc.elim (fun e=> .inl e.symm) .inr⟩⟩
theorem jL {X:Ctx} {B:Nat->Prop} (hI:Inv B X) {w':World} (hb: ∀b,b<X.w.heap.size->w'.heap[b]? =X.w.heap[b]?) {id:Nat} {o:Obj} {b:Nat} (hg:X.σ.get id=some o) (h:Blk ⟨w',X.σ,X.μ,X.F⟩ id o b):Blk X id o b:=
 Blk.move (X:=X) (X':=⟨w',X.σ,X.μ,X.F⟩) rfl (fun p hm=>hb _ (hI.lt hg hm)) h
theorem dB {X:Ctx} {B:Nat->Prop} (hI:Inv B X) {w':World} (hos:w'.os=X.w.os) (ht:w'.tape=X.w.tape) (ho:w'.output=X.w.output) (hs:X.w.heap.size<=w'.heap.size)
 (hb: ∀b,b<X.w.heap.size->w'.heap[b]? =X.w.heap[b]?):Evo X {X with w:=w'}/\Inv B {X with w:=w'}:=by
 have di: ∀{id o b},X.σ.get id=some o->Blk {X with w:=w'} id o b->Blk X id o b:=fun {id o b} hg h=>Blk.move (X:=X) (X':={X with w:=w'}) rfl (fun p hm=>hb _ (hI.lt hg hm)) h;have hE:Evo X {X with w:=w'}:=
  ⟨hos,ht,ho,hs,rfl,fun b h=>⟨⟨SD h.1 hs,fun id o hg hk=>h.2 id o hg (di hg hk)⟩,hb b h.1⟩,fun _ cells h=>⟨⟨cells,h⟩,rfl⟩,fun _ ep _ l h=>⟨ep,l,h,Rf _,fun _=>⟨rfl,rfl⟩⟩,
   fun _ iv _ _ h l hg=>⟨iv,h,l,hg,Rf _,rfl,rfl,fun _=>⟨rfl,rfl,fun p hp=>hb _ (hI.lt hg hp)⟩⟩,fun _ _ d hg=>⟨⟨d,hg⟩,rfl⟩⟩
 exact ⟨hE,⟨fun id o hg=>ObjOk.move (X:=X) (X':={X with w:=w'}) (id':=id) rfl (fun b hk=>hb b (hI.ltB hg hk)) hE.good (fun _ _ _ h=>h.evo hE) (hI.objs id o hg),
  fun i j o o' b hi hj h1 h2=>hI.injB i j o o' b hi hj (di hi h1) (di hj h2),fun id o b hg h=>hI.baseB id o b hg (di hg h),fun b hb=>hI.out b (Ro hs hb),hI.vis, .evo hI hE⟩⟩
end Go.Vm
namespace Go.Vm
def u9:List V->Option (Bool×List V)
 | .bool b::r=>some (b,r)
 | .kb b::r=>some (b,r)
 |_=>none
def Bw:List V->Option (List UInt8×List V)
 | .str l::r=>some (l,r)
 |_=>none
def Bz (k:IntKind):List V->Option (Int×List V)
 | .int k' n::r=>if k'=k then some (n,r) else none
 |_=>none
def qW (t:Ty):List V->Option (List t.den×List V)
 | .nils::r=>some ([],r)
 | .list kd t' l::r=>if kd= .tmp then none else if h:t'=t then some (h▸l,r) else none
 |_=>none
def dec:(t:Ty)->List V->Option (t.den×List V)
 | .bool,cs=>u9 cs
 | .str,cs=>Bw cs
 | .int k,cs=>Bz k cs
 | .slice t,cs=>qW t cs
 | .pair a b,cs=>
  match dec a cs with
  |some (x,r)=>match dec b r with
   |some (y,r')=>some ((x,y),r')
   |none=>none
  |none=>none
def u_ (t:Ty) (cs:List V):Option t.den:=
 match dec t cs with
 |some (x,[])=>some x
 |_=>none
def cv1:Value->V
 | .bool b=> .kb b
 | .int k n=> .int k n
 | .string s=> .str s.data.toList
 | .pointer none=> .nilp
 | .slice none 0 0=> .nils
 | .map none=> .nilm
 | .nilFunc=> .nilf
 | .nilIface=> .nili
 |_=> .any
def cv:Value->V
 | .agg cs=> .agg (cs.toList.map cv1)
 | .func (.func g) vs ws=>if vs.size=0/\ws.size=0 then .fn (.func g) [] [] else .any
 |v=>cv1 v
def InK (k:IntKind) (n:Int):Prop:=
 match k with
 | .i64=> -9223372036854775808<=n/\n<=9223372036854775807
 | .u64=>0<=n/\n<=18446744073709551615
 | .u8=>0<=n/\n<=255
 | .i32=> -2147483648<=n/\n<=2147483647
 | .u32=>0<=n/\n<=4294967295
 | .i8=> -128<=n/\n<=127
 | .u16=>0<=n/\n<=65535
 | .i16=> -32768<=n/\n<=32767
inductive Pat where
 |any|bool|str
 |int (k:IntKind)
 |list (kd:LK) (t:Ty)
 |slc (id:Nat) (t:Ty)
 |own (id:Nat) (T:TypeId)
 |opq (id:Nat) (k:OK)
 |fop (k:OK)
 |clo (g:FuncId) (caps:List Nat)
 |bp (id:Nat)
 |nf
def Pat.den:Pat->Type
 | .any=>Unit
 | .bool=>Bool
 | .str=>List UInt8
 | .int _=>Int
 | .list _ t=>List t.den
 | .slc _ t=>List t.den
 | .own _ _=>Unit
 | .opq _ k=>k.den
 | .fop k=>k.den
 | .clo _ _=>Unit
 | .bp _=>Unit
 | .nf=>Unit
def Xs:List Pat->Type
 |[]=>Unit
 |p::r=>p.den×Xs r
structure St where
 s:List V
 σ:Store
structure Ann where
 slots:List (Nat×Pat)
 boxes:List (Nat×List Pat):=[]
 keep:List Nat:=[]
 drop:List Nat:=[]
 inv:St->Xs (slots.map (·.2)++boxes.flatMap (·.2))->Prop
 measure:St->Xs (slots.map (·.2)++boxes.flatMap (·.2))->Nat:=fun _ _=>0
structure Env where
 P:Program
 ty:TypeId->Option Ty:=fun _=>none
 specs:FuncId->List V->Option (Prop×V):=fun _ _=>none
 upd:FuncId->List V->Store->Option (Prop×V×Store):=fun _ _ _=>none
 ext:FuncId->List V->Option (Prop×V):=fun _ _=>none
 wrap:Nat->Bool:=fun _=>false
 asArr:Nat->Bool:=fun _=>false
 own:Nat->Bool:=fun _=>false
 asRows:Nat->Bool:=fun _=>false
 zspecs:FuncId->List V->Option (Prop×V):=fun _ _=>none
 frz:Nat->Bool:=fun _=>false
 sym:Nat->Bool:=fun _=>false
 lit:Nat->Bool:=fun _=>false
 unr:Nat->Nat:=fun _=>0
 heads:Nat->Option Ann:=fun _=>none
 joins:Nat->Option Ann:=fun _=>none
 pins:List Nat:=[]
abbrev K:=V->Store->Prop
def dd (P:Program) (t:TypeId):Option Nat:=(P.info? t).map (·.size)
def eS (P:Program) (t:TypeId):Option Bool:=
 match P.underlying t with
 |some (.struct _)|some (.array _ _)=>some true
 |some _=>some false
 |none=>none
def cf (agg:Bool) (cs:List V):Option V:=
 if agg then some (.agg cs) else match cs with
 |[c]=>some c
 |_=>none
def cut (cells:List V) (off n:Nat):Option (List V):=if off+n<=cells.length then some ((cells.drop off).take n) else none
def cV:V->List V
 | .agg cs=>cs
 |v=>[v]
def tc (P:Program) (t:TypeId) (a:V) (σ:Store) (k:K):Prop:=
 match eS P t,dd P t with
 |some g,some n=>
  match a with
  | .fptr cells=>match (cut cells 0 n).bind (cf g) with
   |some v=>k v σ
   |none=>False
  | .ptr id off=>match σ.get id with
   |some (.box cells)=>match (cut cells off n).bind (cf g) with
    |some v=>k v σ
    |none=>False
   |_=>False
  | .eptr id ep i off=>match σ.get id with
   |some (.arr ep' t' l)=>if ep=ep' then
    i<l.length/\∀x:t'.den,nth l i=some x->match (cut (enc t' x) off n).bind (cf g) with
     |some v=>k v σ
     |none=>False
    else False
   |_=>False
  |_=>False
 |_,_=>False
def kP:V->Bool
 | .any| .nin _ _ _=>false
 |_=>true
def BA (cells:List V) (off:Nat) (new:List V):List V:=cells.take off++new++cells.drop (off+new.length)
def Gq:V->Bool
 | .agg _| .tuple _| .any| .olist _ _| .optr _| .nin _ _ _=>false
 |_=>true
def gu (P:Program) (t:TypeId) (a x:V) (σ:Store) (k:K):Prop:=
 match dd P t with
 |some n=>if (cV x).length=n/\(cV x).all Gq then
  match a with
  | .ptr id off=>match σ.get id with
   |some (.box cells)=>if off+n<=cells.length then k .any ((id, .box (BA cells off (cV x)))::σ) else False
   |_=>False
  | .eptr id ep i off=>match σ.get id with
   |some (.arr ep' t' l)=>if ep=ep'/\off+n<=t'.cells then
    i<l.length/\∀y:t'.den,nth l i=some y->match u_ t' (BA (enc t' y) off (cV x)) with
     |some z=>k .any ((id, .arr ep' t' (List.set l i z))::σ)
     |none=>False
    else False
   |_=>False
  |_=>False
  else False
 |none=>False
def mZ (P:Program) (t:TypeId) (a x:V) (σ:Store) (k:K):Prop:=
 match a,x with
 | .eptr id1 ep1 i off, .slc id ep none=>match σ.get id with
  |some (.arr ep' ty l)=>if ep=ep' then gu P t (.eptr id1 ep1 i off) (.list .part ty l) ((id, .arr (ep+1) ty [])::σ) k else False
  |_=>False
 |a,x=>gu P t a x σ k
def cu (σ:Store) (id:Nat):Bool:=match σ.get id with
 |none=>true
 |some _=>false
def m0 (P:Program) (t:TypeId) (id:Nat) (σ:Store) (k:K):Prop:=
 match P.info? t with
 |some i=>match i.zero with
  |some z=>if cu σ id then k (.ptr id 0) ((id, .box (cV (cv z)))::σ) else False
  |none=>False
 |none=>False
def m7 (P:Program) (t:TypeId) (id:Nat) (σ:Store) (k:K):Prop:=
 match P.info? t with
 |some i=>match i.zero with
  |some z=>match cV (cv z) with
   | .nilp::r=>if cu σ id then k (.ptr id 0) ((id, .box (.own id t::r))::σ) else False
   |_=>False
  |none=>False
 |none=>False
def Gr (id:Nat) (v:V) (σ:Store) (k:K):Prop:=
 if cu σ id=true/\kP v=true then k (.ptr id 0) ((id, .box (cV v))::σ) else False
def kj (place:Nat->Option (Nat×Nat)) (cells:List V):List (Nat×V)->Option (List V)
 |[]=>some cells
 |(i,v)::rest=>
  match place i with
  |none=>none
  |some (off,size)=>if (cV v).length=size/\off+size<=cells.length/\kP v=true then kj place (BA cells off (cV v)) rest else none
def m8 (P:Program) (t:TypeId) (parts:List (Nat×V)) (σ:Store) (k:K):Prop:=
 match P.info? t,P.underlying t with
 |some i,some (.struct fs)=>match i.zero,fs.toList.mapM (fun f=>(P.info? f.type).map fun i=>(f.offset,i.size)) with
  |some z,some places=>match kj (places.toArray[·]?) (cV (cv z)) parts with
   |some cells=>k (.agg cells) σ
   |none=>False
  |_,_=>False
 |some i,some (.array _ e)=>match i.zero,P.info? e with
  |some z,some ie=>match kj (fun i=>some (i*ie.size,ie.size)) (cV (cv z)) parts with
   |some cells=>k (.agg cells) σ
   |none=>False
  |_,_=>False
 |_,_=>False
def ez (E:Env) (t:TypeId) (n:Nat) (parts:List (Nat×V)) (σ:Store) (k:K):Prop:=
 match E.P.underlying t with
 |some (.slice e)=>match E.P.info? e with
  |some i=>if 0<n*i.size/\n*i.size<=16777216/\(i.zero.isSome=true) then
   match kj (fun j=>some (j*i.size,i.size)) (List.replicate (n*i.size) .any) parts with
   |some cells=>k (.rows i.size cells) σ
   |none=>False
   else False
  |none=>False
 |_=>False
def qX (t:Ty):Nat->List (Nat×V)->Option (List t.den)
 |_,[]=>some []
 |i,(j,v)::rest=>if i=j then
  if kP v then
   match u_ t (cV v),qX t (i+1) rest with
   |some x,some xs=>some (x::xs)
   |_,_=>none
  else none
  else none
def KR (e:TypeId) (t:Ty):Bool:= !(decide (t= .int .u8))||Nat.beq e om
def dQ (E:Env) (t:TypeId) (n:Nat) (parts:List (Nat×V)) (dst:Nat) (σ:Store) (k:K):Prop:=
 if E.asRows dst then ez E t n parts σ k else
 match E.P.underlying t with
 |some (.slice e)=>match E.P.info? e,E.ty e with
  |some i,some ty=>if i.size=ty.cells/\parts.length=n/\n*i.size<=16777216/\(i.zero.isSome=true)/\KR e ty=true then
   match qX ty 0 parts with
   |some xs=>if E.asArr dst then (if cu σ dst then k (.slc dst 0 none) ((dst, .arr 0 ty xs)::σ) else False) else k (.list .full ty xs) σ
   |none=>False
   else False
  |_,_=>False
 |_=>False
def fq (x:V) (σ:Store) (k:K):Prop:=
 match x with
 | .ptr id off=>k (.ptr id off) σ
 | .fptr cells=>k (.fptr cells) σ
 | .eptr id ep i off=>k (.eptr id ep i off) σ
 | .nptr id i off=>k (.nptr id i off) σ
 | .fn (.func f) a b=>k (.fn (.func f) a b) σ
 |_=>False
def num (wr:Bool) (kd:IntKind) (n:Int) (σ:Store) (k:K):Prop:=
 if wr then k (.int kd (kd.wrap n)) σ else InK kd n/\k (.int kd n) σ
def bC:V->Option Bool
 | .kb b=>some b
 | .bool b=>some b
 |_=>none
def KS (P:Program) (t:TypeId):V->V->Option Bool
 | .nilp, .nilp=>match P.underlying t with
  |some (.pointer _)=>some true
  |_=>none
 | .nilf, .nilf=>match P.underlying t with
  |some (.func _ _ _)=>some true
  |_=>none
 | .ptr _ _, .nilp=>match P.underlying t with
  |some (.pointer _)=>some false
  |_=>none
 | .fptr _, .nilp=>match P.underlying t with
  |some (.pointer _)=>some false
  |_=>none
 | .eptr _ _ _ _, .nilp=>match P.underlying t with
  |some (.pointer _)=>some false
  |_=>none
 | .fn _ _ _, .nilf=>match P.underlying t with
  |some (.func _ _ _)=>some false
  |_=>none
 |_,_=>none
mutual
def eqT (P:Program):Nat->TypeId->V->V->Option Bool
 |0,_,_,_=>none
 |n+1,t,x,y=>
  match P.underlying t with
  |some (.int kd)=>match x,y with
   | .int k a, .int k' b=>if k=kd/\k'=kd then some (decide (a=b)) else none
   |_,_=>none
  |some .bool=>match bC x,bC y with
   |some a,some b=>some (a==b)
   |_,_=>none
  |some .string=>match x,y with
   | .str a, .str b=>some (decide (a=b))
   |_,_=>none
  |some (.struct fs)=>match x,y with
   | .agg xs, .agg ys=>if P.stoodInHeld t=false then fr P n xs ys fs.toList else none
   |_,_=>none
  |some (.array len e)=>match x,y with
   | .agg xs, .agg ys=>if (P.info? e).isSome then gR P n e xs ys (List.range len) else none
   |_,_=>none
  |_=>none
def gR (P:Program):Nat->TypeId->List V->List V->List Nat->Option Bool
 |0,_,_,_,_=>none
 |_+1,_,_,_,[]=>some true
 |n+1,e,xs,ys,j::js=>
  match eS P e,dd P e with
  |some g,some sz=>match (cut xs (j*sz) sz).bind (cf g),(cut ys (j*sz) sz).bind (cf g) with
   |some x,some y=>match eqT P n e x y,gR P n e xs ys js with
    |some b,some c=>some (b&&c)
    |_,_=>none
   |_,_=>none
  |_,_=>none
def fr (P:Program):Nat->List V->List V->List Field->Option Bool
 |0,_,_,_=>none
 |_+1,_,_,[]=>some true
 |n+1,xs,ys,f::fs=>
  if f.name≠ "_" then
   match eS P f.type,dd P f.type with
   |some g,some sz=>match (cut xs f.offset sz).bind (cf g),(cut ys f.offset sz).bind (cf g) with
    |some x,some y=>match eqT P n f.type x y,fr P n xs ys fs with
     |some b,some c=>some (b&&c)
     |_,_=>none
    |_,_=>none
   |_,_=>none
  else none
end
def Qb (kd:IntKind) (a b:Int):Int:=kd.wrap ((BitVec.ofInt kd.bits a&&&BitVec.ofInt kd.bits b).toNat:Int)
def orI (kd:IntKind) (a b:Int):Int:=kd.wrap ((BitVec.ofInt kd.bits a|||BitVec.ofInt kd.bits b).toNat:Int)
def Qc (kd:IntKind) (a b:Int):Int:=kd.wrap ((BitVec.ofInt kd.bits a ^^^ BitVec.ofInt kd.bits b).toNat:Int)
def vd (kd:IntKind) (a b:Int):Int:=kd.wrap ((BitVec.ofInt kd.bits a&&&~~~(BitVec.ofInt kd.bits b)).toNat:Int)
def m9 (wr:Bool) (op:BinOp) (kd:IntKind) (a b:Int) (σ:Store) (k:K):Prop:=
 match op with
 | .add=>num wr kd (a+b) σ k
 | .sub=>num wr kd (a-b) σ k
 | .mul=>num wr kd (a*b) σ k
 | .quo=>b≠0/\num wr kd (a.tdiv b) σ k
 | .rem=>b≠0/\k (.int kd (a.tmod b)) σ
 | .eql=>k (.bool (decide (a=b))) σ
 | .neq=>k (.bool (!decide (a=b))) σ
 | .lss=>k (.bool (decide (a<b))) σ
 | .leq=>k (.bool (decide (a<=b))) σ
 | .gtr=>k (.bool (decide (b<a))) σ
 | .geq=>k (.bool (decide (b<=a))) σ
 | .and=>k (.int kd (Qb kd a b)) σ
 | .or=>k (.int kd (orI kd a b)) σ
 | .xor=>k (.int kd (Qc kd a b)) σ
 | .andNot=>k (.int kd (vd kd a b)) σ
 |_=>False
def m_ (op:BinOp) (a b:List UInt8) (σ:Store) (k:K):Prop:=
 match op with
 | .eql=>k (.bool (decide (a=b))) σ
 | .neq=>k (.bool (!decide (a=b))) σ
 | .add=>(a.length+b.length<=9223372036854775807)/\k (.str (a++b)) σ
 | .lss=>k (.bool (Op.bytesLess a b)) σ
 |_=>False
def jg (op:BinOp) (c:Option Bool) (known:Bool) (σ:Store) (k:K):Prop:=
 match op,c,known with
 | .eql,some c,true=>k (.kb c) σ
 | .neq,some c,true=>k (.kb (!c)) σ
 | .eql,some c,false=>k (.bool c) σ
 | .neq,some c,false=>k (.bool (!c)) σ
 |_,_,_=>False
def KU (P:Program) (t:TypeId) (σ:Store) (x y:V):Option (Bool->Prop):=
 match P.underlying t,y with
 |some (.slice _), .nils=>match x with
  | .nils=>some fun b=>b=true
  | .list _ _ l=>some fun b=>b=true->l.length=0
  | .slc id ep none=>match σ.get id with
   |some (.arr ep' _ l)=>if ep=ep' then some fun b=>b=true->l.length=0 else none
   |_=>none
  |_=>none
 |some (.pointer _), .nilp=>match x with
  | .oref id=>match σ.get id with
   |some (.opq k d)=>if k.isPtr=true then some fun b=>b=k.isNil d else none
   |_=>none
  | .fopq k d=>if k.isPtr=true then some fun b=>b=k.isNil d else none
  |_=>none
 |_,_=>none
def Qd (σ:Store) (x:V):Option Bool:=
 match x with
 | .oref id=>match σ.get id with
  |some (.opq k d)=>some (k.isNil d)
  |_=>none
 | .fopq k d=>some (k.isNil d)
 |_=>none
def Gs (E:Env) (op:BinOp) (t:TypeId) (x y:V) (dst:Nat) (σ:Store) (k:K):Prop:=
 match x,y with
 | .int kx a, .int ky b=>match op with
  | .shr=>(0<=b/\b<=kx.bits)/\k (.int kx (a/((2 ^ b.toNat:Nat):Int))) σ
  | .shl=>(0<=b/\b<=kx.bits)/\k (.int kx (kx.wrap (a*((2 ^ b.toNat:Nat):Int)))) σ
  |_=>if kx=ky then m9 (E.wrap dst) op kx a b σ k else False
 | .str a, .str b=>m_ op a b σ k
 | .agg xs, .agg ys=>if E.P.eqGuardType E.P.depth t=false then jg op (eqT E.P 60 t (.agg xs) (.agg ys)) false σ k else False
 | .kb a,y=>match E.P.underlying t,bC y with
  |some .bool,some b=>jg op (some (a==b)) false σ k
  |_,_=>False
 | .bool a,y=>match E.P.underlying t,bC y with
  |some .bool,some b=>jg op (some (a==b)) false σ k
  |_,_=>False
 |x,y=>match KU E.P t σ x y with
  |some p=>(match Qd σ x with
   |some c=>jg op (some c) false σ k
   |none=>(match op with
    | .eql=>k (.bq p) σ
    | .neq=>k (.bq fun b=>p (!b)) σ
    |_=>False))
  |none=>jg op (KS E.P t x y) true σ k
def Og:Bool->V->V
 |true, .bool b=> .kb b
 |_,v=>v
def Q5 (f:Bool) (k:K):K:=fun v σ=>k (Og f v) σ
def QW (P:Program) (t:TypeId) (yo:Operand) (x y:V):Option Bool:=
 match yo,x,y,P.underlying t with
 | .const .nilIface, .err b, .nili,some (.interface _)=>some b
 |_,_,_,_=>none
def Gt (E:Env) (op:BinOp) (t:TypeId) (yo:Operand) (x y:V) (dst:Nat) (σ:Store) (k:K):Prop:=
 match QW E.P t yo x y with
 |some b=>jg op (some (!b)) false σ k
 |none=>Gs E op t x y dst σ k
def unV (E:Env) (op:UnOp) (x:V) (dst:Nat) (σ:Store) (k:K):Prop:=
 match op,x with
 | .neg, .int kd n=>num (E.wrap dst) kd (0-n) σ k
 | .not, .kb b=>k (.kb (!b)) σ
 | .not, .bool b=>k (.bool (!b)) σ
 | .not, .bq p=>k (.bq fun b=>p (!b)) σ
 |_,_=>False
def td (E:Env) (s d:TypeId) (x:V) (dst:Nat) (σ:Store) (k:K):Prop:=
 match E.P.underlying s,E.P.underlying d,x with
 |some (.int _),some (.int kd), .int _ n=>num (E.wrap dst) kd n σ k
 |some .string,some .string, .str l=>k (.str l) σ
 |some (.slice e),some .string, .list _ (.int .u8) l=>match E.P.underlying e with
  |some (.int .u8)=>k (.str ((l:List Int).map fun n=>UInt8.ofNat n.toNat)) σ
  |_=>False
 |_,_,_=>False
def lK:Option V->Option (Option Int)
 |none=>some none
 |some (.int _ n)=>some (some n)
 |_=>none
def Ds {α:Type} (l:List α) (lo hi:Option Int):List α:=
 match lo,hi with
 |none,none=>l
 |none,some h=>l.take h.toNat
 |some a,none=>l.drop a.toNat
 |some a,some h=>(l.take h.toNat).drop a.toNat
def bI (n:Nat) (lo hi:Option Int):Prop:=
 match lo,hi with
 |none,none=>True
 |none,some h=>0<=h/\h<=n
 |some a,none=>0<=a/\a<=n
 |some a,some h=>0<=a/\a<=h/\h<=n
def na (E:Env) (t:TypeId) (x:V) (lo hi mx:Option V) (σ:Store) (k:K):Prop:=
 match mx,lK lo,lK hi with
 |none,some lo,some hi=>
  match E.P.underlying t with
  |some .string=>match x with
   | .str l=>bI l.length lo hi/\k (.str (Ds l lo hi)) σ
   |_=>False
  |some (.slice e)=>match dd E.P e with
   |some sz=>match x with
    | .list kd t' l=>if sz=t'.cells then bI l.length lo hi/\k (.list (if kd= .tmp then .tmp else .part) t' (Ds l lo hi)) σ else False
    | .nils=>match lo,hi with
     |none,none=>k .nils σ
     |_,_=>False
    | .slc id ep none=>match σ.get id with
     |some (.arr ep' t' l)=>if ep=ep'/\sz=t'.cells then
      match lo,hi with
      |none,none=>k (.slc id ep none) σ
      |none,some h=>(0<=h/\h<=l.length)/\k (.slc id ep (some (0,h.toNat))) σ
      |some a,none=>(0<=a/\a<=l.length)/\k (.slc id ep (some (a.toNat,l.length-a.toNat))) σ
      |some a,some h=>(0<=a/\a<=h/\h<=l.length)/\k (.slc id ep (some (a.toNat,h.toNat-a.toNat))) σ
      else False
     |_=>False
    | .slc id ep (some (off,m))=>match σ.get id with
     |some (.arr ep' t' _)=>if ep=ep'/\sz=t'.cells then
      match lo,hi with
      |none,none=>k (.slc id ep (some (off,m))) σ
      |none,some h=>(0<=h/\h<=m)/\k (.slc id ep (some (off,h.toNat))) σ
      |some a,none=>(0<=a/\a<=m)/\k (.slc id ep (some (off+a.toNat,m-a.toNat))) σ
      |some a,some h=>(0<=a/\a<=h/\h<=m)/\k (.slc id ep (some (off+a.toNat,h.toNat-a.toNat))) σ
      else False
     |_=>False
    |_=>False
   |none=>False
  |_=>False
 |_,_,_=>False
def eB (P:Program) (t:TypeId) (x:V) (f:Nat) (σ:Store) (k:K):Prop:=
 match P.underlying t with
 |some (.struct fs)=>match fs[f]? with
  |some fd=>match dd P fd.type with
   |some (_+1)=>match x with
    | .ptr id off=>k (.ptr id (off+fd.offset)) σ
    | .fptr cells=>k (.fptr (cells.drop fd.offset)) σ
    | .eptr id ep i off=>k (.eptr id ep i (off+fd.offset)) σ
    | .nptr id i off=>k (.nptr id i (off+fd.offset)) σ
    |_=>False
   |_=>False
  |none=>False
 |_=>False
def nb (P:Program) (t:TypeId) (x:V) (f:Nat) (σ:Store) (k:K):Prop:=
 match P.underlying t with
 |some (.struct fs)=>match fs[f]? with
  |some fd=>match eS P fd.type,dd P fd.type,x with
   |some g,some n, .agg cs=>match (cut cs fd.offset n).bind (cf g) with
    |some v=>k v σ
    |none=>False
   |_,_,_=>False
  |none=>False
 |_=>False
def de (E:Env) (t:TypeId) (x i:V) (σ:Store) (k:K):Prop:=
 match i with
 | .int _ n=>
  match E.P.underlying t with
  |some (.slice e)=>match dd E.P e with
   |some sz=>match x with
    | .list _ t' l=>if sz=t'.cells then (0<=n/\n<l.length)/\∀x:t'.den,nth l n.toNat=some x->k (.fptr (enc t' x)) σ else False
    | .slc id ep none=>match σ.get id with
     |some (.arr ep' t' l)=>if ep=ep'/\sz=t'.cells then (0<=n/\n<l.length)/\k (.eptr id ep n.toNat 0) σ else False
     |_=>False
    | .slc id ep (some (off,m))=>match σ.get id with
     |some (.arr ep' t' _)=>if ep=ep'/\sz=t'.cells then (0<=n/\n<m)/\k (.eptr id ep (off+n.toNat) 0) σ else False
     |_=>False
    | .rows n' cells=>if sz=n'/\0<n' then (0<=n/\n<((cells.length/n':Nat):Int))/\(List.range (cells.length/n')).foldr (fun (i:Nat) (acc:Prop)=>(n=(i:Int)->k (.fptr (cells.drop (i*sz))) σ)/\acc) True else False
    |_=>False
   |none=>False
  |some (.array len e)=>match dd E.P e,n with
   |some sz, .ofNat m=>if m<len then
    match x with
    | .ptr id off=>k (.ptr id (off+m*sz)) σ
    | .fptr cells=>k (.fptr (cells.drop (m*sz))) σ
    |_=>False
    else False
   |_,_=>False
  |_=>False
 |_=>False
def tf {α:Type} (f:Option V->Option α) (n:Nat):Nat->List V->Option (List α)
 |0,_=>some []
 |m+1,cs=>match f cs.head?,tf f n m (cs.drop n) with
  |some a,some l=>some (a::l)
  |_,_=>none
def ofInt (kd:IntKind):Option V->Option Int
 |some (.int kd' a)=>if kd=kd' then some a else none
 |_=>none
def KV:Option V->Option (List UInt8)
 |some (.str l)=>some l
 |_=>none
def BB (t:Ty):Option V->Option (List t.den)
 |some (.list .full t' l)=>if h:t'=t then some (h▸l) else none
 |_=>none
def Qe (n m:Nat) (x:Int) (cs:List V):Option V:=
 match cs.head? with
 |some (.int kd _)=>(tf (ofInt kd) n m cs).map fun l=> .int kd ((l[x.toNat]?).getD 0)
 |some (.str _)=>(tf KV n m cs).map fun l=> .str ((l[x.toNat]?).getD [])
 |some (.list .full (.int kd) _)=>(tf (BB (.int kd)) n m cs).map fun l=> .list .full (.int kd) ((l[x.toNat]?).getD [])
 |_=>none
def nd (n m:Nat) (x:Int):Nat->List V->Option (List V)
 |0,_=>some []
 |c+1,cs=>match Qe n m x cs,nd n m x c (cs.drop 1) with
  |some v,some r=>some (v::r)
  |_,_=>none
def gS (E:Env) (t:TypeId) (x i:V) (σ:Store) (k:K):Prop:=
 match i,E.P.underlying t with
 | .int _ n,some (.array len e)=>match dd E.P e with
  |some sz=>match x with
   | .ptr id off=>(0<=n/\n<(len:Int))/\(List.range len).foldr (fun (j:Nat) (acc:Prop)=>(n=(j:Int)->k (.ptr id (off+j*sz)) σ)/\acc) True
   | .fptr cells=>(0<=n/\n<(len:Int))/\(List.range len).foldr (fun (j:Nat) (acc:Prop)=>(n=(j:Int)->k (.fptr (cells.drop (j*sz))) σ)/\acc) True
   |_=>False
  |none=>False
 |_,_=>False
def gT (E:Env) (t:TypeId) (x i:V) (σ:Store) (k:K):Prop:=
 match i,E.P.underlying t,x with
 | .int _ n,some (.slice e), .rows n' cells=>match dd E.P e with
  |some sz=>if sz=n'/\0<n' then match nd sz (cells.length/n') n sz cells with
   |some r=>(0<=n/\n<((cells.length/n':Nat):Int))/\k (.fptr r) σ
   |none=>False
   else False
  |none=>False
 |_,_,_=>False
def gU (E:Env) (t:TypeId) (x i:V) (σ:Store) (k:K):Prop:=
 match i,E.P.underlying t,x with
 | .int _ n,some (.array len e), .agg cs=>match dd E.P e,eS E.P e with
  |some sz,some g=>if len*sz=cs.length then match (nd sz len n sz cs).bind (cf g) with
   |some v=>(0<=n/\n<(len:Int))/\k v σ
   |none=>False
   else False
  |_,_=>False
 |_,_,_=>False
def Qf:V->Bool
 | .rows _ _=>true
 |_=>false
def ne (E:Env) (t:TypeId) (x i:V) (σ:Store) (k:K):Prop:=
 match i,E.P.underlying t,x with
 | .int _ n,some .string, .str l=>(0<=n/\n<l.length)/\∀c:UInt8,nth l n.toNat=some c->k (.int .u8 c.toNat) σ
 | .int _ n,some (.array len e), .agg cs=>match dd E.P e,eS E.P e,n with
  |some sz,some g, .ofNat m=>if m<len then match (cut cs (m*sz) sz).bind (cf g) with
   |some v=>k v σ
   |none=>False
   else False
  |_,_,_=>False
 |_,_,_=>False
def mmI (mx:Bool) (a b:Int):Int:=if mx then (if a<b then b else a) else (if b<a then b else a)
def mmV (mx:Bool) (x y:V) (σ:Store) (k:K):Prop:=
 match x,y with
 | .int ka a, .int kb b=>if ka=kb then k (.int ka (mmI mx a b)) σ else False
 |_,_=>False
def Gu (E:Env) (t:TypeId) (x:V) (σ:Store) (k:K):Prop:=
 match E.P.underlying t,x with
 |some .string, .str l=>k (.int .i64 l.length) σ
 |some (.slice _), .nils=>k (.int .i64 0) σ
 |some (.slice _), .list _ _ l=>k (.int .i64 l.length) σ
 |some (.slice _), .slc id ep none=>match σ.get id with
  |some (.arr ep' _ l)=>if ep=ep' then k (.int .i64 l.length) σ else False
  |_=>False
 |some (.slice _), .slc id ep (some (_,m))=>match σ.get id with
  |some (.arr ep' _ _)=>if ep=ep' then k (.int .i64 m) σ else False
  |_=>False
 |some (.slice _), .rows n cells=>if 0<n then k (.int .i64 ((cells.length/n:Nat):Int)) σ else False
 |_,_=>False
def BC (P:Program) (t:TypeId):Bool:=
 match P.underlying t with
 |some (.map a b)=>Nat.beq a fY&&Nat.beq b Ar
 |_=>false
def Qg (σ:Store):V->Option (List (Int×Nat))
 | .oref id=>match σ.get id with
  |some (.opq kd d)=>kd.asF d
  |_=>none
 | .fopq kd d=>kd.asF d
 |_=>none
def jM (P:Program) (t:TypeId) (m x:V) (ok:Bool) (σ:Store) (k:K):Prop:=
 if BC P t=true then
  match Qg σ m,x,ok with
  |some L, .int kx n,false=>if kx= .i64 then match uz L n with
   |some f=>InK .i64 n/\k (.fn (.func f) [] []) σ
   |none=>False
   else False
  |_,_,_=>False
 else False
def lL (_:Program) (_:TypeId) (_ _ _:V) (_:Store) (_:K):Prop:=False
def jh (_:Env) (_:TypeId) (_:Option V) (_:Nat) (_:Store) (_:K):Prop:=False
def Gv (ty:Ty) (σ:Store):V->Option (List ty.den)
 | .nils=>some []
 | .list _ t l=>if h:t=ty then some (h▸l) else none
 | .slc id ep rng=>match σ.get id with
  |some (.arr ep' t l)=>if ep=ep' then
   if h:t=ty then
    match rng with
    |none=>some (h▸l)
    |some (off,m)=>some (((h▸l:List ty.den).drop off).take m)
   else none
   else none
  |_=>none
 |_=>none
def KW (ty:Ty):V->Option (List ty.den)
 | .str l=>if h:ty= .int .u8 then some (h▸(l.map fun b=>(b.toNat:Int):List (Ty.int .u8).den)) else none
 |_=>none
def ir (E:Env) (t:TypeId) (d:V) (seg:(ty:Ty)->Option (List ty.den)) (dst:Nat) (σ:Store) (k:K):Prop:=
 match E.P.underlying t with
 |some (.slice e)=>match E.P.info? e,E.ty e with
  |some i,some ty=>if i.size=ty.cells/\(i.zero.any fun z=>z.cells.size==i.size)/\KR e ty=true then
   match seg ty with
   |some m=>
    match d with
    | .nils=>if cu σ dst then (m.length*i.bytes<=140737488355328/\m.length<=4611686018427387904)/\k (.slc dst 0 none) ((dst, .arr 0 ty m)::σ) else False
    | .list .full t' l=>if h:t'=ty then
     if cu σ dst then ((l.length+m.length)*i.bytes<=140737488355328/\l.length+m.length<=4611686018427387904/\(0<m.length∨l.length=0))/\
      k (.slc dst 0 none) ((dst, .arr 0 ty ((h▸l:List ty.den)++m))::σ) else False
     else False
    | .slc id ep none=>match σ.get id with
     |some (.arr ep' t' l)=>if h:t'=ty then
      if ep=ep' then ((l.length+m.length)*i.bytes<=140737488355328/\l.length+m.length<=4611686018427387904)/\
       k (.slc id (ep+1) none) ((id, .arr (ep+1) ty ((h▸l:List ty.den)++m))::σ) else False
      else False
     |_=>False
    | .slc id ep (some (off,n))=>match σ.get id with
     |some (.arr ep' t' l)=>if h:t'=ty then
      if ep=ep'/\ty≠ .int .u8 then (off+n=l.length/\(n+m.length)*i.bytes<=140737488355328/\n+m.length<=4611686018427387904)/\
       k (.slc id (ep+1) none) ((id, .arr (ep+1) ty ((h▸l:List ty.den).drop off++m))::σ) else False
      else False
     |_=>False
    |_=>False
   |none=>False
   else False
  |_,_=>False
 |_=>False
def oX (E:Env) (t:TypeId) (d x:V) (dst:Nat) (σ:Store) (k:K):Prop:=ir E t d (fun ty=>Gv ty σ x) dst σ k
def oY (E:Env) (t:TypeId) (d x:V) (dst:Nat) (σ:Store) (k:K):Prop:=ir E t d (fun ty=>KW ty x) dst σ k
def fR (_:Env) (_:TypeId) (_ _:V) (_:Nat) (_:Store) (_:K):Prop:=False
mutual
def KX (σ:Store):Nat->V->Option V
 |0,_=>none
 |n+1,v=>match v with
  | .ptr id off=>match σ.get id with
   |some (.box cells)=>if off<=cells.length then (gV σ n (cells.drop off)).map .fptr else none
   |_=>none
  | .slc id ep rng=>match σ.get id with
   |some (.arr ep' t l)=>if ep=ep' then
    match rng with
    |none=>some (.list .tmp t l)
    |some (off,m)=>some (.list .tmp t ((List.drop off l).take m))
    else none
   |_=>none
  | .eptr .. =>none
  | .olist .. =>none
  | .optr _=>none
  | .fptr cells=>(gV σ n cells).map .fptr
  | .fn f a b=>match gV σ n a,gV σ n b with
   |some a',some b'=>some (.fn f a' b')
   |_,_=>none
  | .agg cells=>(gV σ n cells).map .agg
  | .tuple cells=>(gV σ n cells).map .tuple
  | .iface t x=>(KX σ n x).map (.iface t)
  | .nslc _=>none
  | .nptr _ _ _=>none
  | .nin _ _ _=>none
  | .rows m cells=>(gV σ n cells).map (.rows m)
  | .own _ _=>some .any
  | .oref id=>match σ.get id with
   |some (.opq k d)=>some (.fopq k d)
   |_=>none
  |v=>some v
def gV (σ:Store):Nat->List V->Option (List V)
 |0,_=>none
 |_+1,[]=>some []
 |n+1,v::r=>match KX σ n v,gV σ n r with
  |some v',some r'=>some (v'::r')
  |_,_=>none
end
mutual
def own (σ:Store):Nat->V->Option V
 |0,_=>none
 |n+1,v=>match v with
  | .slc id ep none=>match σ.get id with
   |some (.arr ep' t l)=>if ep=ep' then some (.olist t l) else none
   |_=>none
  | .ptr id 0=>match σ.get id with
   |some (.box cells)=>(aR σ n cells).map .optr
   |_=>none
  | .list kd t l=>if kd= .tmp then none else some (.list kd t l)
  | .rows m cells=>(aR σ n cells).map (.rows m)
  | .agg cells=>(aR σ n cells).map .agg
  | .tuple cells=>(aR σ n cells).map .tuple
  | .fn g a b=>match aR σ n a,aR σ n b with
   |some a',some b'=>some (.fn g a' b')
   |_,_=>none
  | .any=>some .any
  | .kb b=>some (.kb b)
  | .bool b=>some (.bool b)
  | .int k m=>some (.int k m)
  | .str l=>some (.str l)
  | .nilp=>some .nilp
  | .nils=>some .nils
  | .nilm=>some .nilm
  | .nilf=>some .nilf
  | .nili=>some .nili
  | .err b=>some (.err b)
  |_=>none
def aR (σ:Store):Nat->List V->Option (List V)
 |0,_=>none
 |_+1,[]=>some []
 |n+1,v::r=>match own σ n v,aR σ n r with
  |some v',some r'=>some (v'::r')
  |_,_=>none
end
mutual
def ids (σ:Store):Nat->V->List Nat
 |0,_=>[]
 |n+1,v=>match v with
  | .slc id _ none=>[id]
  | .nslc id=>[id]
  | .oref id=>[id]
  | .ptr id 0=>match σ.get id with
   |some (.box cells)=>id::dk σ n cells
   |_=>[]
  | .agg cells=>dk σ n cells
  | .tuple cells=>dk σ n cells
  | .fn _ a b=>dk σ n a++dk σ n b
  |_=>[]
def dk (σ:Store):Nat->List V->List Nat
 |0,_=>[]
 |_+1,[]=>[]
 |n+1,v::r=>ids σ n v++dk σ n r
end
mutual
def fZ (f:Nat->Nat):Nat->Nat->V->Option (V×Store×Nat)
 |0,_,_=>none
 |n+1,j,v=>match v with
  | .olist t l=>some (.slc (f j) 0 none,[(f j, .arr 0 t l)],j+1)
  | .optr cells=>match iG f n (j+1) cells with
   |some (cs,s,j')=>some (.ptr (f j) 0,(f j, .box cs)::s,j')
   |none=>none
  | .list kd t l=>if kd= .tmp then none else some (.list kd t l,[],j)
  | .agg cells=>match iG f n j cells with
   |some (cs,s,j')=>some (.agg cs,s,j')
   |none=>none
  | .tuple cells=>match iG f n j cells with
   |some (cs,s,j')=>some (.tuple cs,s,j')
   |none=>none
  | .fn g a b=>match iG f n j a with
   |some (a',s,j')=>match iG f n j' b with
    |some (b',s',j'')=>some (.fn g a' b',s++s',j'')
    |none=>none
   |none=>none
  | .any=>some (.any,[],j)
  | .kb b=>some (.kb b,[],j)
  | .bool b=>some (.bool b,[],j)
  | .int k m=>some (.int k m,[],j)
  | .str l=>some (.str l,[],j)
  | .nilp=>some (.nilp,[],j)
  | .nils=>some (.nils,[],j)
  | .nilm=>some (.nilm,[],j)
  | .nilf=>some (.nilf,[],j)
  | .nili=>some (.nili,[],j)
  | .err b=>some (.err b,[],j)
  |_=>none
def iG (f:Nat->Nat):Nat->Nat->List V->Option (List V×Store×Nat)
 |0,_,_=>none
 |_+1,j,[]=>some ([],[],j)
 |n+1,j,v::r=>match fZ f n j v with
  |some (v',s,j')=>match iG f n j' r with
   |some (r',s',j'')=>some (v'::r',s++s',j'')
   |none=>none
  |none=>none
end
mutual
def oI:Nat->V->Option V
 |0,_=>none
 |n+1,v=>match v with
  | .olist t l=>some (.list .part t l)
  | .optr cells=>(rS n cells).map .fptr
  | .list kd t l=>if kd= .tmp then none else some (.list kd t l)
  | .rows m cells=>(rS n cells).map (.rows m)
  | .agg cells=>(rS n cells).map .agg
  | .tuple cells=>(rS n cells).map .tuple
  | .fn g a b=>match rS n a,rS n b with
   |some a',some b'=>some (.fn g a' b')
   |_,_=>none
  | .any=>some .any
  | .kb b=>some (.kb b)
  | .bool b=>some (.bool b)
  | .int k m=>some (.int k m)
  | .str l=>some (.str l)
  | .nilp=>some .nilp
  | .nils=>some .nils
  | .nilm=>some .nilm
  | .nilf=>some .nilf
  | .nili=>some .nili
  | .err b=>some (.err b)
  |_=>none
def rS:Nat->List V->Option (List V)
 |0,_=>none
 |_+1,[]=>some []
 |n+1,v::r=>match oI n v,rS n r with
  |some v',some r'=>some (v'::r')
  |_,_=>none
end
def idf (dst j:Nat):Nat:=dst+1000*j
def ji (σ:Store):Store->Bool
 |[]=>true
 |(i,o)::r=>cu σ i&&(!cU (some o))&&ji ((i,o)::σ) r
def ve (P:Program) (g:FuncId):Bool:=
 match P.funcs[g]? with
 |some fn=>fn.body.isSome&& !(fn.name== "runtime.NumGoroutine")
 |none=>false
def tg (E:Env) (f:V) (args:List V) (dst:Nat) (σ:Store) (k:K):Prop:=
 match f with
 | .fn (.func g) a b=>if ve E.P g then
  match (if E.frz dst then none else E.upd g (a++args++b) σ) with
  |some (pre,r,new)=>pre/\k r (new++σ)
  |none=>match gV σ 60 (a++args++b) with
   |some ars=>match (if E.frz dst then E.zspecs g ars else none) with
    |some (pre,r)=>pre/\(match oI 60 r with
     |some r'=>k r' σ
     |none=>False)
    |none=>match E.specs g ars with
    |some (pre,r)=>pre/\(if E.frz dst then (match oI 60 r with
     |some r'=>k r' σ
     |none=>False) else
     match fZ (idf dst) 60 0 r with
     |some (r',new,_)=>if ji σ new then k r' (new++σ) else False
     |none=>False)
    |none=>False
   |none=>False
  else match E.ext g (a++args++b) with
   |some (pre,r)=>pre/\k r σ
   |none=>False
 |_=>False
def fA (l:List Int):List UInt8:=l.map fun z=>z.toNat.toUInt8
def ng (x:V) (σ:Store) (k:K):Prop:=
 match x with
 | .nils=>k .nilp σ
 | .slc id ep none=>match σ.get id with
  |some (.arr ep' _ l)=>if ep=ep' then 0<l.length/\k (.eptr id ep 0 0) σ else False
  |_=>False
 |_=>False
def th (P:Program) (pt:TypeId) (p n:V) (σ:Store) (k:K):Prop:=
 match p,n with
 | .nilp, .int .i64 m=>m=0/\k (.str []) σ
 | .eptr id ep 0 0, .int .i64 m=>match σ.get id,P.underlying pt with
  |some (.arr ep' t l),some (.pointer e)=>if h:t= .int .u8 then
   if ep=ep'/\e=om/\dd P om=some 1 then
    (m=l.length/\0<l.length/\∀z:Int,z∈(h▸l:List (Ty.int .u8).den)->0<=z/\z<=255)/\k (.str (fA (h▸l:List (Ty.int .u8).den))) ((id, .arr (ep+1) (.int .u8) [])::σ)
   else False
   else False
  |_,_=>False
 |_,_=>False
def qY (_:Env) (_:TypeId) (_:V) (_:Store) (_:K):Prop:=False
def qZ (E:Env) (o:Oper) (ρ:Operand->V) (σ:Store) (k:K):Prop:=
 let dst:=o.dst.getD 0
 match o.op with
 | .move x| .assign x=>k (ρ x) σ
 | .pick c a b=>match ρ c with
  | .kb true=>k (ρ a) σ
  | .kb false=>k (ρ b) σ
  | .bool c=>match bC (ρ a),bC (ρ b) with
   |some x,some y=>k (.bool (if c then x else y)) σ
   |_,_=>False
  |_=>False
 | .alloc t=>if E.own dst then m7 E.P t dst σ k else m0 E.P t dst σ k
 | .box _ x=>Gr dst (ρ x) σ k
 | .build t ps=>m8 E.P t (ps.toList.map fun (i,x)=>(i,ρ x)) σ k
 | .buildSlice t n ps=>dQ E t n (ps.toList.map fun (i,x)=>(i,ρ x)) dst σ k
 | .load t a=>tc E.P t (ρ a) σ k
 | .store t a x=>mZ E.P t (ρ a) (ρ x) σ k
 | .nilCheck x=>fq (ρ x) σ k
 | .binOp op t x y _=>Gt E op t y (ρ x) (ρ y) dst σ (Q5 (E.lit dst) k)
 | .unOp op _ x=>unV E op (ρ x) dst σ k
 | .convert s d x=>td E s d (ρ x) dst σ k
 | .makeFunc fn a b=>k (.fn fn (a.toList.map ρ) (b.toList.map ρ)) σ
 | .makeSlice t l c=>fR E t (ρ l) (ρ c) dst σ k
 | .slice t x lo hi mx=>na E t (ρ x) (lo.map ρ) (hi.map ρ) (mx.map ρ) σ k
 | .fieldAddr t x f=>eB E.P t (ρ x) f σ k
 | .field t x f=>nb E.P t (ρ x) f σ k
 | .indexAddr t x i=>if E.sym dst then (if Qf (ρ x) then gT E t (ρ x) (ρ i) σ k else gS E t (ρ x) (ρ i) σ k) else de E t (ρ x) (ρ i) σ k
 | .index t x i=>if E.sym dst then gU E t (ρ x) (ρ i) σ k else ne E t (ρ x) (ρ i) σ k
 | .lookup t m x ok=>jM E.P t (ρ m) (ρ x) ok σ k
 | .mapUpdate t m x y=>lL E.P t (ρ m) (ρ x) (ρ y) σ k
 | .makeMap t r=>jh E t (r.map ρ) dst σ k
 | .extract x i=>match ρ x with
  | .tuple vs=>match vs[i]? with
   |some v=>k v σ
   |none=>False
  |_=>False
 | .call c=>match c.callee with
  | .builtin .len=>match c.args[0]?,c.argTypes[0]? with
   |some x,some t=>if c.args.size=1 then Gu E t (ρ x) σ k else False
   |_,_=>False
  | .builtin .append=>match c.args[0]?,c.args[1]?,c.argTypes[0]?,c.argTypes[1]? with
   |some d,some x,some t,some t'=>if t=t'/\c.args.size=2/\c.argTypes.size=2 then oX E t (ρ d) (ρ x) dst σ k else
    if c.args.size=2/\c.argTypes.size=2 then (match E.P.underlying t' with
     |some .string=>oY E t (ρ d) (ρ x) dst σ k
     |_=>False) else False
   |_,_,_,_=>False
  | .builtin .min=>match c.args[0]?,c.args[1]? with
   |some x,some y=>if c.args.size=2 then mmV false (ρ x) (ρ y) σ k else False
   |_,_=>False
  | .builtin .max=>match c.args[0]?,c.args[1]? with
   |some x,some y=>if c.args.size=2 then mmV true (ρ x) (ρ y) σ k else False
   |_,_=>False
  | .value f=>tg E (ρ f) (c.args.toList.map ρ) dst σ k
  | .builtin .clear=>match c.args[0]?,c.argTypes[0]? with
   |some x,some t=>if c.args.size=1/\c.argTypes.size=1 then qY E t (ρ x) σ k else False
   |_,_=>False
  | .builtin .unsafeSliceData=>match c.args[0]? with
   |some x=>if c.args.size=1 then ng (ρ x) σ k else False
   |none=>False
  | .builtin .unsafeString=>match c.args[0]?,c.args[1]?,c.argTypes[0]? with
   |some x,some y,some t=>if c.args.size=2/\c.argTypes.size=2 then th E.P t (ρ x) (ρ y) σ k else False
   |_,_,_=>False
  |_=>False
 |_=>False
end Go.Vm
