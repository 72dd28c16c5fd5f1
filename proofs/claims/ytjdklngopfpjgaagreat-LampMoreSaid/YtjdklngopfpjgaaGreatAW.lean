/- Part AW of the proof. -/
import Derived.Test.YtjdklngopfpjgaaGreatY4
import Derived.Test.YtjdklngopfpjgaaGreatX7
import Derived.Test.YtjdklngopfpjgaaGreatSh
import Derived.WalkKit
import Derived.Laws.Externs
namespace Go.CE.Aw
noncomputable section
open Go.Proofs Go.Shelf Go.RowKit
def A69(v:Value)(m:Nat):List Value→Option (List Value):=Nat.rec (motive:=fun _=>List Value→Option (List Value)) (fun l=>some l)
 (fun _ ih l=>List.rec (motive:=fun _=>Option (List Value)) none (fun x r _=>Bool.rec (motive:=fun _=>Option (List Value)) none (ih r) (veq x v)) l) m
def A9e(v:Value)(c:Nat)(k:Nat):List Value→Bool:=Nat.rec (motive:=fun _=>List Value→Bool) (fun l=>l.isEmpty)
 (fun _ ih l=>Option.rec (motive:=fun _=>Bool) false (fun r=>ih r) (A69 v c l)) k
theorem Bpz{v:Value}:∀(m:Nat) {l r:List Value},A69 v m l=some r→l=List.replicate m v++r
 |0,l,r,h=>by
  have h:some l=some r:=h
  cases h;simp
 |m+1,[],r,h=>by
  have h:(none:Option (List Value))=some r:=h
  cases h
 |m+1,x::l,r,h=>by
  have h:Bool.rec (motive:=fun _=>Option (List Value)) none (A69 v m l) (veq x v)=some r:=h
  cases hv:veq x v with
  |false=>rw[hv]at h;cases h
  |true=>
   rw[hv]at h
   have h:A69 v m l=some r:=h
   rw[Ci7 hv,Bpz m h];rfl
theorem Bja{v:Value}{c:Nat}:∀(k:Nat) {l:List Value},A9e v c k l=true→l=List.replicate (k*c) v
 |0,l,h=>by
  have h:l.isEmpty=true:=h
  cases l with
  |nil=>simp
  |cons _ _=>cases h
 |k+1,l,h=>by
  have h:Option.rec (motive:=fun _=>Bool) false (fun r=>A9e v c k r) (A69 v c l)=true:=h
  cases ht:A69 v c l with
  |none=>rw[ht]at h;cases h
  |some r=>
   rw[ht]at h
   have h:A9e v c k r=true:=h
   rw[Bpz c ht,Bja k h,Nat.add_mul,Nat.one_mul,Nat.add_comm (k*c) c,←List.replicate_append_replicate]
def zeroCells(P:Program)(t:TypeId):List Value:=match P.info? t with
 |some i=>match i.zero with
  |some z=>z.cells.toList
  |none=>[]
 |none=>[]
theorem C12{P:Program}{t:TypeId}{v:Value}{c k:Nat}(hc:0<k*c)(h:A9e v c k (zeroCells P t)=true):∃i z,P.info? t=some i∧i.zero=some z∧z.cells=Array.replicate (k*c) v:=by
 have:=Bja k h
 unfold zeroCells at this
 cases hi:P.info? t with
 |none=>rw[hi]at this;have:=congrArg List.length this;simp at this;omega
 |some i=>
  rw[hi]at this
  simp only at this
  cases hz:i.zero with
  |none=>rw[hz]at this;have:=congrArg List.length this;simp at this;omega
  |some z=>
   rw[hz]at this
   simp only at this
   exact⟨i,z,rfl,hz,by apply Array.ext';rw[this];simp⟩
set_option maxRecDepth 100000
theorem De5:A9e (.int .i64 0) 200 160 (zeroCells Tryz.prog 233)=true:=by kernel_rfl
theorem Bqa:(Tryz.prog.info? 243).map (·.size)=some 2:=by kernel_rfl
theorem Cfz:liesAt Tryz.prog Tryz.prog.depth 243 (2/Tryz.prog.cellsOf 243) 0 243 1=true:=by kernel_rfl
set_option maxHeartbeats 1000000 in
theorem Bha(b:Nat)(w:World)(h0:w.cell? ⟨b,0,none⟩=some (.pointer (some ⟨b,0,none⟩))) :
  Calls Tryz.prog 300 #[.pointer (some ⟨b,0,none⟩)] w fun e w'=>e = .returned (.tuple #[])∧w'=w:=by
 obtain⟨j,hj,_⟩:=Option.map_eq_some_iff.1 Bqa
 go_enter Tryz.func300,Tryz.ntmps300
 go_wp2
 rw[Lib.run_neq_ptr_same w _ Tryz.underlying241 hj]
 go_wp2
 go_end0
 exact⟨rfl,rfl⟩
set_option maxHeartbeats 1000000 in
theorem Bc4(b:Nat)(w:World)(h0:w.cell? ⟨b,0,none⟩=some (.pointer none))(hsh:w.shape? b=some (243,2))(hfz:w.frozen? ⟨b,0,none⟩=false) :
  Calls Tryz.prog 300 #[.pointer (some ⟨b,0,none⟩)] w fun e w'=>e = .returned (.tuple #[])∧w'=w.setCell ⟨b,0,none⟩ (.pointer (some ⟨b,0,none⟩)):=by
 obtain⟨j,hj,hjs⟩:=Option.map_eq_some_iff.1 Bqa
 go_enter Tryz.func300,Tryz.ntmps300
 go_wp2
 rw[Lib.run_to_unsafe w ⟨b,0,none⟩ Tryz.underlying241 Tryz.underlying268 hj (by rw[hjs];decide) hsh (Nat.zero_lt_succ 1)]
 simp only[Result.andThen]
 rw[Oper.upon_value]
 go_wp2
 rw[run_callFunc_extern Tryz.func313 (by kernel_rfl) (by kernel_rfl) (by kernel_rfl) (e:=Extern.AbiNoEscape.same) (by kernel_rfl)]
 rw[Lib.run_noEscape]
 simp only[Result.andThen]
 rw[Oper.upon_value]
 go_wp2
 rw[Lib.run_from_unsafe w ⟨b,0,none⟩ Tryz.underlying268 Tryz.underlying241 hj hsh Cfz]
 simp only[Result.andThen]
 rw[Oper.upon_value]
 go_wp2
 go_end0
 exact⟨rfl,rfl⟩
def C84:T (Nat×Value):=T.set (32000,.int .i64 0) 60 .e 233
theorem C7t(t:TypeId)(n:Nat)(v:Value)(h:C84.get t=some (n,v)):Adq v=true∧∃i z,Tryz.prog.info? t=some i∧i.zero=some z∧z.cells=Array.replicate n v:=by
 unfold C84 at h
 by_cases h1:t=233
 ·subst h1
  rw[T.get_set _ _ _ _ (by decide)]at h
  cases h
  exact⟨rfl,C12 (c:=200) (k:=160) (by decide) De5⟩
 ·rw[T.get_set_ne _ _ _ _ _ h1,T.get_e]at h;cases h
theorem C44{α:Type}{a:Array α}{k:Nat}{v:α}(hb:Nat.blt a.toList.length BIG=true)(h:(ofL a.toList 0 .e).get k=some v):a[k]? = some v:=by
 have hb:a.toList.length<BIG:=by simpa [Nat.blt_eq]using hb
 rcases Cu2 a.toList 0 .e k v (by omega) h with ⟨_,h⟩|h
 ·rw[Nat.sub_zero]at h;simpa using h
 ·rw[T.get_e]at h;cases h
def PP:PT where
 P:=Tryz.prog
 info:=ofL Tryz.prog.types.toList 0 .e
 fns:=ofL Tryz.prog.funcs.toList 0 .e
 okI:=fun t i h=>by
  have h1:=C44 (a:=Tryz.prog.types) (by kernel_rfl) h
  unfold Tables.info?
  rw[if_pos (Array.getElem?_eq_some_iff.1 h1).1]
  exact h1
 okF:=fun f g h=>C44 (by kernel_rfl) h
 cons:=C84
 okC:=C7t
theorem Dem(base:Nat→Prop):C1s PP base (Buk 300 275 243 5) :=
 Cu1 (P:=PP) (r:=Tryz.lays169_ren) Tryz.lays169 Tryz.Builder_Extra_169 ⟨_,Tryz.func300,by kernel_rfl,by kernel_rfl⟩ ⟨_,Tryz.func275,by kernel_rfl,by kernel_rfl⟩ Bha Bc4 base
theorem C7u:isTrue (Cl3 PP (Buk 300 275 243 5) (Cst PP) 100000 1000 13 [] ⟨0,.e⟩)=true:=by kernel_rfl
theorem awake_ok:Go.AX.Azb Tryz.prog 13 Go.AX.B0n:=by
 obtain⟨H',h⟩:=Cyb C7u
 exact Go.AX.C98 fun W=>Dco (P:=PP) (by kernel_rfl) Dem h W
end
end Go.CE.Aw
