/- Part AW of the proof. -/
import Derived.Test.YtjdklngopfpjgaaGreatDoorY4
import Derived.Test.YtjdklngopfpjgaaGreatDoorX7
import Derived.Test.YtjdklngopfpjgaaGreatDoorSh
import Derived.WalkKit
import Derived.Laws.Externs
namespace Go.CE.Aw
noncomputable section
open Go.Proofs Go.Shelf Go.RowKit
def Bt3(v:Value)(m:Nat):List Value→Option (List Value):=Nat.rec (motive:=fun _=>List Value→Option (List Value)) (fun l=>some l)
 (fun _ ih l=>List.rec (motive:=fun _=>Option (List Value)) none (fun x r _=>Bool.rec (motive:=fun _=>Option (List Value)) none (ih r) (veq x v)) l) m
def Br7(v:Value)(c:Nat)(k:Nat):List Value→Bool:=Nat.rec (motive:=fun _=>List Value→Bool) (fun l=>l.isEmpty)
 (fun _ ih l=>Option.rec (motive:=fun _=>Bool) false (fun r=>ih r) (Bt3 v c l)) k
theorem Cdy{v:Value}:∀(m:Nat) {l r:List Value},Bt3 v m l=some r→l=List.replicate m v++r
 |0,l,r,h=>by
  have h:some l=some r:=h
  cases h;simp
 |m+1,[],r,h=>by
  have h:(none:Option (List Value))=some r:=h
  cases h
 |m+1,x::l,r,h=>by
  have h:Bool.rec (motive:=fun _=>Option (List Value)) none (Bt3 v m l) (veq x v)=some r:=h
  cases hv:veq x v with
  |false=>rw[hv]at h;cases h
  |true=>
   rw[hv]at h
   have h:Bt3 v m l=some r:=h
   rw[B1d hv,Cdy m h];rfl
theorem B8l{v:Value}{c:Nat}:∀(k:Nat) {l:List Value},Br7 v c k l=true→l=List.replicate (k*c) v
 |0,l,h=>by
  have h:l.isEmpty=true:=h
  cases l with
  |nil=>simp
  |cons _ _=>cases h
 |k+1,l,h=>by
  have h:Option.rec (motive:=fun _=>Bool) false (fun r=>Br7 v c k r) (Bt3 v c l)=true:=h
  cases ht:Bt3 v c l with
  |none=>rw[ht]at h;cases h
  |some r=>
   rw[ht]at h
   have h:Br7 v c k r=true:=h
   rw[Cdy c ht,B8l k h,Nat.add_mul,Nat.one_mul,Nat.add_comm (k*c) c,←List.replicate_append_replicate]
def zeroCells(P:Program)(t:TypeId):List Value:=match P.info? t with
 |some i=>match i.zero with
  |some z=>z.cells.toList
  |none=>[]
 |none=>[]
theorem Ciy{P:Program}{t:TypeId}{v:Value}{c k:Nat}(hc:0<k*c)(h:Br7 v c k (zeroCells P t)=true):∃i z,P.info? t=some i∧i.zero=some z∧z.cells=Array.replicate (k*c) v:=by
 have:=B8l k h
 unfold zeroCells at this
 cases hi:P.info? t with
 |none=>rw[hi]at this;have:=congrArg List.length this;simp at this;omega
 |some i=>
  rw[hi]at this
  simp only at this
  cases hz:i.zero with
  |none=>rw[hz]at this;have:=congrArg List.length this;simp at this;omega
  |some z=>
   rw[hz]at this
   simp only at this
   exact⟨i,z,rfl,hz,by apply Array.ext';rw[this];simp⟩
set_option maxRecDepth 100000
theorem Ctv:Br7 (.int .i64 0) 200 160 (zeroCells Tryz.prog 197)=true:=by kernel_rfl
theorem Bfk:(Tryz.prog.info? 80).map (·.size)=some 2:=by kernel_rfl
theorem Bw5:liesAt Tryz.prog Tryz.prog.depth 80 (2/Tryz.prog.cellsOf 80) 0 80 1=true:=by kernel_rfl
set_option maxHeartbeats 1000000 in
theorem A83(b:Nat)(w:World)(h0:w.cell? ⟨b,0,none⟩=some (.pointer (some ⟨b,0,none⟩))) :
  Calls Tryz.prog 100 #[.pointer (some ⟨b,0,none⟩)] w fun e w'=>e = .returned (.tuple #[])∧w'=w:=by
 obtain⟨j,hj,_⟩:=Option.map_eq_some_iff.1 Bfk
 go_enter Tryz.func100,Tryz.ntmps100
 go_wp2
 rw[Lib.run_neq_ptr_same w _ Tryz.underlying78 hj]
 go_wp2
 go_end0
 exact⟨rfl,rfl⟩
set_option maxHeartbeats 1000000 in
theorem A6b(b:Nat)(w:World)(h0:w.cell? ⟨b,0,none⟩=some (.pointer none))(hsh:w.shape? b=some (80,2))(hfz:w.frozen? ⟨b,0,none⟩=false) :
  Calls Tryz.prog 100 #[.pointer (some ⟨b,0,none⟩)] w fun e w'=>e = .returned (.tuple #[])∧w'=w.setCell ⟨b,0,none⟩ (.pointer (some ⟨b,0,none⟩)):=by
 obtain⟨j,hj,hjs⟩:=Option.map_eq_some_iff.1 Bfk
 go_enter Tryz.func100,Tryz.ntmps100
 go_wp2
 rw[Lib.run_to_unsafe w ⟨b,0,none⟩ Tryz.underlying78 Tryz.underlying161 hj (by rw[hjs];decide) hsh (Nat.zero_lt_succ 1)]
 simp only[Result.andThen]
 rw[Oper.upon_value]
 go_wp2
 rw[run_callFunc_extern Tryz.func158 (by kernel_rfl) (by kernel_rfl) (by kernel_rfl) (e:=Extern.AbiNoEscape.same) (by kernel_rfl)]
 rw[Lib.run_noEscape]
 simp only[Result.andThen]
 rw[Oper.upon_value]
 go_wp2
 rw[Lib.run_from_unsafe w ⟨b,0,none⟩ Tryz.underlying161 Tryz.underlying78 hj hsh Bw5]
 simp only[Result.andThen]
 rw[Oper.upon_value]
 go_wp2
 go_end0
 exact⟨rfl,rfl⟩
def Coh:T (Nat×Value):=T.set (32000,.int .i64 0) 60 .e 197
theorem Cnd(t:TypeId)(n:Nat)(v:Value)(h:Coh.get t=some (n,v)):Adm v=true∧∃i z,Tryz.prog.info? t=some i∧i.zero=some z∧z.cells=Array.replicate n v:=by
 unfold Coh at h
 by_cases h1:t=197
 ·subst h1
  rw[T.get_set _ _ _ _ (by decide)]at h
  cases h
  exact⟨rfl,Ciy (c:=200) (k:=160) (by decide) Ctv⟩
 ·rw[T.get_set_ne _ _ _ _ _ h1,T.get_e]at h;cases h
theorem Cli{α:Type}{a:Array α}{k:Nat}{v:α}(hb:Nat.blt a.toList.length BIG=true)(h:(ofL a.toList 0 .e).get k=some v):a[k]? = some v:=by
 have hb:a.toList.length<BIG:=by simpa [Nat.blt_eq]using hb
 rcases Cdx a.toList 0 .e k v (by omega) h with ⟨_,h⟩|h
 ·rw[Nat.sub_zero]at h;simpa using h
 ·rw[T.get_e]at h;cases h
def PP:PT where
 P:=Tryz.prog
 info:=ofL Tryz.prog.types.toList 0 .e
 fns:=ofL Tryz.prog.funcs.toList 0 .e
 okI:=fun t i h=>by
  have h1:=Cli (a:=Tryz.prog.types) (by kernel_rfl) h
  unfold Tables.info?
  rw[if_pos (Array.getElem?_eq_some_iff.1 h1).1]
  exact h1
 okF:=fun f g h=>Cli (by kernel_rfl) h
 cons:=Coh
 okC:=Cnd
theorem Ctf(base:Nat→Prop):Cio PP base (Bi2 100 57 80 5) :=
 Cdw (P:=PP) (r:=Tryz.lays169_ren) Tryz.lays169 Tryz.Builder_Extra_169 ⟨_,Tryz.func100,by kernel_rfl,by kernel_rfl⟩ ⟨_,Tryz.func57,by kernel_rfl,by kernel_rfl⟩ A83 A6b base
theorem Cne:isTrue (B4m PP (Bi2 100 57 80 5) (Cb3 PP) 100000 1000 15 [] ⟨0,.e⟩)=true:=by kernel_rfl
theorem awake_ok:Go.AX.Apv Tryz.prog 15 Go.AX.Bn9:=by
 obtain⟨H',h⟩:=Cft Cne
 exact Go.AX.Cph fun W=>Crv (P:=PP) (by kernel_rfl) Ctf h W
end
end Go.CE.Aw
