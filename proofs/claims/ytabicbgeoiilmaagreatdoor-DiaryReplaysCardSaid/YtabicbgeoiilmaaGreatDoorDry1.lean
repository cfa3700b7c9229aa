import Derived.Test.YtabicbgeoiilmaaGreatDoorEnc3
noncomputable section
namespace Go.Proofs.YtabicbgeoiilmaaGreatDoor.Dry
open Go.Vm
def oG:TypeId->Option Ty:=fun|57=>some Cm|i=>aJ i
def aC (s:By):Int×Int:=
 if (aO s 0 gG).2≠0 then (0,(aO s 0 gG).2) else if (aK s (aO s 0 gG).1 0 10000).2.2≠0 then (0,(aK s (aO s 0 gG).1 0 10000).2.2)
 else if (aK s (aO s 0 gG).1 0 10000).2.1<s.length then (0,6) else ((aK s (aO s 0 gG).1 0 10000).1,0)
def EC (s:By):Env where
 P:=Tryz.prog
 ty:=aJ
 specs:=ai [uc,zG]
def pQ (s:By):Prop:=
 (List.length s<=(1000000:Nat)/\(4:Nat)<=(1000000:Nat))/\((!decide ((aO s 0 [(108:UInt8),(111:UInt8),(103:UInt8),(32:UInt8)]).2=0))=true->((0:Int),(aO s 0 [(108:UInt8),(111:UInt8),(103:UInt8),(32:UInt8)]).2,())=((aC s).1,(aC s).2,()))/\((!decide ((aO s 0 [(108:UInt8),(111:UInt8),(103:UInt8),(32:UInt8)]).2=0))=false->List.length s<=(10000:Nat)/\((!decide ((aK s (aO s 0 [(108:UInt8),(111:UInt8),(103:UInt8),(32:UInt8)]).1 0 10000).2.2=0))=true->((0:Int),(aK s (aO s 0 [(108:UInt8),(111:UInt8),(103:UInt8),(32:UInt8)]).1 0 10000).2.2,())=((aC s).1,(aC s).2,()))/\((!decide ((aK s (aO s 0 [(108:UInt8),(111:UInt8),(103:UInt8),(32:UInt8)]).1 0 10000).2.2=0))=false->(ag ((aK s (aO s 0 [(108:UInt8),(111:UInt8),(103:UInt8),(32:UInt8)]).1 0 10000).2.1<(↑(List.length s):Int))->((0:Int),(6:Int),())=((aC s).1,(aC s).2,()))/\(aj ((aK s (aO s 0 [(108:UInt8),(111:UInt8),(103:UInt8),(32:UInt8)]).1 0 10000).2.1<(↑(List.length s):Int))->((aK s (aO s 0 [(108:UInt8),(111:UInt8),(103:UInt8),(32:UInt8)]).1 0 10000).1,(0:Int),())=((aC s).1,(aC s).2,()))))
theorem zO (s:By) (h:s.length<=10000):pQ s:=by
 unfold pQ aj ag;simp only [Q7,Q6,Rb,Rd,Rl,Rg];have e: ∀r,aC s=r->(r.1,r.2,())=((aC s).1,(aC s).2,()):=fun r h=>by rw [h]
 refine ⟨⟨by omega,by decide⟩,fun c=>e _ (Q_ c),fun c=>⟨h,fun d=>e _ ((Q8 (fun k=>k c)).trans (Q_ d)),fun d=>⟨fun f=>e (0,6) ?_,fun f=>e ((aK s (aO s 0 gG).1 0 10000).1,0) ?_⟩⟩⟩
 ·exact (Q8 (fun k=>k c)).trans ((Q8 (fun k=>k d)).trans (Q_ f))
 ·exact (Q8 (fun k=>k c)).trans ((Q8 (fun k=>k d)).trans (Q8 f))
set_option maxRecDepth 20000
def H7:FSpec Tryz.prog:=mkF 28 (.c .s .z) [.int .i64, .int .i64] (fun x=>(fun (s:By)=>(s.length<=10000,(aC s).1,(aC s).2,())) x.1) fun ⟨s,_⟩ h=>av (E:=EC s) (zO s h) (ab rfl _ [] rfl rfl) Tryz.func28
theorem Pk {s:By} {a lo hi:Int} (h:(aK s a lo hi).2.2=0):lo<=(aK s a lo hi).1/\(aK s a lo hi).1<=hi:=by
 unfold aK at h⊢;split at h
 ·cases h
 ·rename_i c1;rw [Q8 c1];split at h
  ·cases h
  ·rename_i c2;rw [Q8 c2];split at h
   ·cases h
   ·rename_i c3;rw [Q8 c3];split at h
    ·rename_i c4;rw [Q_ c4];unfold inR at c4;simp only [Ri,Q7] at c4;omega
    ·cases h
theorem pR {s:By} (h:(aC s).2=0):0<=(aC s).1/\(aC s).1<=10000:=by
 unfold aC at h⊢;split at h
 ·rename_i c;exact absurd h c
 ·rename_i c1;rw [Q8 c1];split at h
  ·rename_i c;exact absurd h c
  ·rename_i c2;rw [Q8 c2];split at h
   ·cases h
   ·rename_i c3;rw [Q8 c3];exact Pk (Decidable.not_not.1 c2)
def cS (s:By):Nat->Int->List Cm.CmD->List Cm.CmD×Int×Int
 |0,a,l=>if a<s.length then ([],l.length+1,6) else (l,l.length,0)
 |k+1,a,l=>if (al s a).2.2≠0 then ([],l.length+1,(al s a).2.2) else if (Cm.ak (al s a).1).2≠0 then ([],l.length+1,(Cm.ak (al s a).1).2)
  else cS s k (al s a).2.1 (l++[(Cm.ak (al s a).1).1])
def aa (s:By):List Cm.CmD×Int×Int:=
 if 1000000<s.length then ([],0,3) else if (al s 0).2.2≠0 then ([],0,(al s 0).2.2) else if (aC (al s 0).1).2≠0 then ([],0,(aC (al s 0).1).2)
 else cS s (aC (al s 0).1).1.toNat (al s 0).2.1 []
def fX (s:By):Prop:= ∀a,(al s a).1.length<=10000
def zP (s:By):Env where
 P:=Tryz.prog
 ty:=oG
 specs:=ai [uh,H7,Cm.Ex]
 joins:=fun|2000000=>some {slots:=[(2, .slc 9000 Cm),(6, .int .i64)],boxes:=[],drop:=[8,58,60,61,59,43,30,54,5,34,35,36,37,38,39,40,41,42,44,45,46,47,48,49,50,51,52,53,55,56,57],inv:=fun _ (x:List Cm.CmD×Int×Unit)=>x.1.length<=(aC (al s 0).1).1.toNat/\aa s=cS s ((aC (al s 0).1).1.toNat-x.1.length) x.2.1 x.1,measure:=fun _ (x:List Cm.CmD×Int×Unit)=>(aC (al s 0).1).1.toNat-x.1.length}|_=>none
def nN (s:By):Prop:=
 (ag ((1000000:Int)<(↑(List.length s):Int))->([],(0:Int),(3:Int),())=((aa s).1,(aa s).2.1,(aa s).2.2,()))/\(aj ((1000000:Int)<(↑(List.length s):Int))->List.length s<=(1000000:Nat)/\((!decide ((al s 0).2.2=0))=true->([],(0:Int),(al s 0).2.2,())=((aa s).1,(aa s).2.1,(aa s).2.2,()))/\((!decide ((al s 0).2.2=0))=false->List.length (al s 0).1<=(10000:Nat)/\((!decide ((aC (al s 0).1).2=0))=true->([],(0:Int),(aC (al s 0).1).2,())=((aa s).1,(aa s).2.1,(aa s).2.2,()))/\((!decide ((aC (al s 0).1).2=0))=false->(ag (0<(aC (al s 0).1).1)->List.length s<=(1000000:Nat)/\((!decide ((al s (al s 0).2.1).2.2=0))=true->(au ((0:Int)+1))/\([],(0:Int)+1,(al s (al s 0).2.1).2.2,())=((aa s).1,(aa s).2.1,(aa s).2.2,()))/\((!decide ((al s (al s 0).2.1).2.2=0))=false->List.length (al s (al s 0).2.1).1<=(10000:Nat)/\((!decide ((Cm.ak (al s (al s 0).2.1).1).2=0))=true->(au ((0:Int)+1))/\([],(0:Int)+1,(Cm.ak (al s (al s 0).2.1).1).2,())=((aa s).1,(aa s).2.1,(aa s).2.2,()))/\((!decide ((Cm.ak (al s (al s 0).2.1).1).2=0))=false->((1:Nat)*(88:Nat)<=(140737488355328:Nat)/\(1:Nat)<=(4611686018427387904:Nat))/\(0:Nat)=(0:Nat)/\(True/\(1:Nat)<=(aC (al s 0).1).1.toNat/\aa s=cS s ((aC (al s 0).1).1.toNat-(1:Nat)) (al s (al s 0).2.1).2.1 [(Cm.ak (al s (al s 0).2.1).1).1])/\∀(x:List (Int×Int×Int×Int×Int×Bool×Bool×(Int×Int)×List (Int×Int×Int×Int))×Int×Unit),x.1.length<=(aC (al s 0).1).1.toNat/\aa s=cS s ((aC (al s 0).1).1.toNat-x.1.length) x.2.1 x.1->(ag ((↑x.1.length:Int)<(aC (al s 0).1).1)->List.length s<=(1000000:Nat)/\((!decide ((al s x.2.1).2.2=0))=true->(au ((↑x.1.length:Int)+1))/\([],(↑x.1.length:Int)+1,(al s x.2.1).2.2,())=((aa s).1,(aa s).2.1,(aa s).2.2,()))/\((!decide ((al s x.2.1).2.2=0))=false->List.length (al s x.2.1).1<=(10000:Nat)/\((!decide ((Cm.ak (al s x.2.1).1).2=0))=true->(au ((↑x.1.length:Int)+1))/\([],(↑x.1.length:Int)+1,(Cm.ak (al s x.2.1).1).2,())=((aa s).1,(aa s).2.1,(aa s).2.2,()))/\((!decide ((Cm.ak (al s x.2.1).1).2=0))=false->((x.1.length+(1:Nat))*(88:Nat)<=(140737488355328:Nat)/\x.1.length+(1:Nat)<=(4611686018427387904:Nat))/\(0:Nat)=(0:Nat)/\True/\((x.1++[(Cm.ak (al s x.2.1).1).1]).length<=(aC (al s 0).1).1.toNat/\aa s=cS s ((aC (al s 0).1).1.toNat-(x.1++[(Cm.ak (al s x.2.1).1).1]).length) (al s x.2.1).2.1 (x.1++[(Cm.ak (al s x.2.1).1).1]))/\(aC (al s 0).1).1.toNat-(x.1++[(Cm.ak (al s x.2.1).1).1]).length<(aC (al s 0).1).1.toNat-x.1.length)))/\(aj ((↑x.1.length:Int)<(aC (al s 0).1).1)->(ag (x.2.1<(↑(List.length s):Int))->(au ((aC (al s 0).1).1+1))/\([],(aC (al s 0).1).1+1,(6:Int),())=((aa s).1,(aa s).2.1,(aa s).2.2,()))/\(aj (x.2.1<(↑(List.length s):Int))->(x.1,(aC (al s 0).1).1,(0:Int),())=((aa s).1,(aa s).2.1,(aa s).2.2,()))))))/\(aj (0<(aC (al s 0).1).1)->(ag ((al s 0).2.1<(↑(List.length s):Int))->(au ((aC (al s 0).1).1+1))/\([],(aC (al s 0).1).1+1,(6:Int),())=((aa s).1,(aa s).2.1,(aa s).2.2,()))/\(aj ((al s 0).2.1<(↑(List.length s):Int))->([],(aC (al s 0).1).1,(0:Int),())=((aa s).1,(aa s).2.1,(aa s).2.2,()))))))
theorem wR (s:By) (h:fX s):nN s:=by
 unfold nN aj ag;simp only [Q7,Q6,Rb,Rd,Rl,Rg];have e: ∀r,aa s=r->(r.1,r.2.1,r.2.2,())=((aa s).1,(aa s).2.1,(aa s).2.2,()):=fun r h=>by rw [h]
 refine ⟨fun c=>e _ (Q_ (by omega)),fun c=> ?_⟩;have hl:s.length<=1000000:=by omega
 have c': ¬1000000<s.length:=by omega
 refine ⟨hl,fun d=>e _ ((Q8 c').trans (Q_ d)),fun d=>⟨h 0,fun f=>e _ ((Q8 c').trans ((Q8 (fun k=>k d)).trans (Q_ f))),fun f=> ?_⟩⟩;obtain ⟨f1,f2⟩:=pR f;have hd:aa s=cS s (aC (al s 0).1).1.toNat (al s 0).2.1 []:=(Q8 c').trans ((Q8 (fun k=>k d)).trans (Q8 (fun k=>k f)));generalize (aC (al s 0).1).1=n at*;have stop: ∀(l:List Cm.CmD) (a:Int),l.length<=n.toNat->aa s=cS s (n.toNat-l.length) a l->¬(l.length:Int)<n->aa s=if a<s.length then ([],(l.length:Int)+1,6) else (l,(l.length:Int),0):=fun l a h1 h2 h3=>by
  rw [h2,show n.toNat-l.length=0 by omega];rfl
 have next: ∀(l:List Cm.CmD) (a:Int),aa s=cS s (n.toNat-l.length) a l->(l.length:Int)<n->aa s=if (al s a).2.2≠0 then ([],(l.length:Int)+1,(al s a).2.2) else if (Cm.ak (al s a).1).2≠0 then ([],(l.length:Int)+1,(Cm.ak (al s a).1).2)
  else cS s (n.toNat-(l++[(Cm.ak (al s a).1).1]).length) (al s a).2.1 (l++[(Cm.ak (al s a).1).1]):=fun l a h2 h3=>by
  obtain ⟨k,hk⟩: ∃k,n.toNat-l.length=k+1:=⟨n.toNat-l.length-1,by omega⟩
  rw [h2,hk,cS,Re,Rm,show n.toNat-(l.length+1)=k by omega]
 refine ⟨fun g=> ?_,fun g=> ?_⟩
 ·have hx:=next [] (al s 0).2.1 hd (by simpa using g)
  refine ⟨hl,fun a=>⟨by omega,e _ (hx.trans (Q_ a))⟩,fun a=>⟨h _,fun b=>⟨by omega,e _ (hx.trans ((Q8 (fun k=>k a)).trans (Q_ b)))⟩,fun b=>⟨⟨by omega,by omega⟩,trivial,⟨trivial,by omega, ?_⟩, ?_⟩⟩⟩
  ·exact hx.trans ((Q8 (fun k=>k a)).trans (Q8 (fun k=>k b)))
  ·clear hx;rintro ⟨l,a2,⟨⟩⟩ ⟨h1,h2⟩;dsimp only at h1 h2⊢;refine ⟨fun g2=>⟨hl,fun a=>⟨by omega, ?_⟩,fun a=>⟨h _,fun b=>⟨by omega, ?_⟩,fun b=>⟨⟨by omega,by omega⟩,trivial,trivial,⟨by rw [Re,Rm];omega, ?_⟩,by rw [Re,Rm];omega⟩⟩⟩,fun g2=>⟨fun b=>⟨by omega, ?_⟩,fun b=> ?_⟩⟩
   ·exact e _ ((next l a2 h2 g2).trans (Q_ a))
   ·exact e _ ((next l a2 h2 g2).trans ((Q8 (fun k=>k a)).trans (Q_ b)))
   ·exact (next l a2 h2 g2).trans ((Q8 (fun k=>k a)).trans (Q8 (fun k=>k b)))
   ·rw [show n=(l.length:Int) by omega];exact e _ ((stop l a2 h1 h2 g2).trans (Q_ b))
   ·rw [show n=(l.length:Int) by omega];exact e _ ((stop l a2 h1 h2 g2).trans (Q8 b))
 ·have hn:n=0:=by omega
  subst hn;exact ⟨fun b=>⟨by omega,e _ (hd.trans (Q_ b))⟩,fun b=>e _ (hd.trans (Q8 b))⟩
def jw:FSpec Tryz.prog:=mkF 11 (.c .s .z) [.slc 9001 Cm, .int .i64, .int .i64] (fun x=>(fun (s:By)=>(fX s,(aa s).1,(aa s).2.1,(aa s).2.2,())) x.1) fun ⟨s,_⟩ h=>av (E:=zP s) (wR s h) (ab rfl _ [] rfl rfl) Tryz.func11
end Go.Proofs.YtabicbgeoiilmaaGreatDoor.Dry
