/- Contracts of functions of the given program, of the reference and of the laws: each says what a call returns, for all arguments that meet the premises that the theorem itself names. -/
import Derived.Test.YthadkoinmohmlaaGreatDoorDesks
namespace Go.Vc
open Go Go.RowKit
variable {P:Program}
theorem SemK.shrTo {t:Nat} {X Y:Operand} {a b:Int} {k k':IntKind} (r:Int) (hb:0≤b) (he:a.fdiv (2 ^ min b.toNat k.bits)=r) {w:World} {K:Value→World→Prop} (hK:K (.int k r) w) :
    SemK P (arith .shr t X Y (.int k a) (.int k' b)) w K:=SemK.shr hb (he▸hK)
theorem SemK.shlTo {t:Nat} {X Y:Operand} {a b:Int} {k k':IntKind} (r:Int) (hb:0≤b) (he:k.wrap (a * 2 ^ min b.toNat k.bits)=r) {w:World} {K:Value→World→Prop} (hK:K (.int k r) w) :
    SemK P (arith .shl t X Y (.int k a) (.int k' b)) w K:=SemK.shl hb (he▸hK)
theorem SemK.andTo {t:Nat} {X Y:Operand} {a b:Int} {k:IntKind} (r:Int) (he:andV k a b=r) {w:World} {K:Value→World→Prop} (hK:K (.int k r) w) :
    SemK P (arith .and t X Y (.int k a) (.int k b)) w K:=SemK.and (he▸hK)
theorem ElO.app {α:Type} {E:Ow α} {w:World} {hs gs:List Hd} {xs ys:List α} {fps gps:List (List Nat)} (h:ElO E w hs xs fps) (g:ElO E w gs ys gps):ElO E w (hs++gs) (xs++ys) (fps++gps):=by
  refine ⟨by simp [h.1,g.1],by simp [h.2.1,g.2.1],fun i d x f h1 h2 h3=>?_⟩;rcases Nat.lt_or_ge i hs.length with hi | hi
  · rw [List.getElem?_append_left hi] at h1;rw [List.getElem?_append_left (by rw [← h.1];exact hi)] at h2;rw [List.getElem?_append_left (by rw [h.2.1,← h.1];exact hi)] at h3;exact h.2.2 i d x f h1 h2 h3
  · rw [List.getElem?_append_right hi] at h1;rw [List.getElem?_append_right (by rw [← h.1];exact hi)] at h2;rw [List.getElem?_append_right (by rw [h.2.1,← h.1];exact hi)] at h3;rw [h.1] at h1;rw [h.2.1] at h3;exact g.2.2 _ d x f h1 h2 h3
theorem SemK.appendS {P:Program} {α:Type} {E:Ow α} {R:Rd α} [OwE E R] {t e by_ lo lo2:Nat} {zs:List Value} (ht:mkInfo P t=some (e,zs,by_)) (hz:zs.length=1) {w:World} {a a2:Option Addr} {n c n2 c2:Nat} {xs ys:List α} {fp gp:List Nat} (h:GrowS E lo e w a n c xs fp) (hnd:fp.Nodup) (hlo:lo≤w.heap.size)
    (h2:GrowS E lo2 e w a2 n2 c2 ys gp) (hgd:gp.Nodup) (hdj:∀ k∈gp,k∉fp) (hsm:n+n2≤1099511627776) (hby:(n+n2) * by_≤140737488355328) {ty:Nat} {cs:Array Bool} {K:Next→World→Prop}
    (hK:∀ a' c' w' fp',GrowS E lo e w' a' (n+n2) c' (xs++ys) fp'→fp'.Nodup→(∀ k∈fp',k∈fp∨k∈gp∨k=w.heap.size)→Mod (blkIn a) w w'→K (.value (.slice a' (n+n2) c')) w') :
    SemK P (builtin .append #[t,t] ty cs #[.slice a n c,.slice a2 n2 c2]) w K:=by
  obtain ⟨hs,fps,h1,h2',rfl⟩:=h;obtain ⟨gs,gps,g1,g2,rfl⟩:=h2;refine SemK.appendArr0 (enc:=eH) ht (fun x=>by rw [hz];rfl) (by rw [hz];exact h1) (by rw [hz];exact g1.own.arr eH_len) (by intro y _;simp [eH,cellish]) hsm hby hlo ?_;intro a' c9 w' hG hM hi;rw [hz] at hG;obtain ⟨n1,n2',n3⟩:=List.nodup_append.1 hnd;obtain ⟨m1,m2,m3⟩:=List.nodup_append.1 hgd;have hfl:∀ k∈fps.flatten,k<w.heap.size:=h2'.lt;have hgl:∀ k∈gps.flatten,k<w.heap.size:=g2.lt;have hin:∀ k,k∈blks a'→k∈blks a∨k=w.heap.size:=fun k hk=>(hi k (mem_blks.1 hk)).imp (fun h=>mem_blks.2 h) id;have e1:(fps++gps).flatten=fps.flatten++gps.flatten:=by simp
  refine hK a' c9 w' (blks a'++(fps++gps).flatten) ⟨hs++gs,fps++gps,hG,?_,rfl⟩ ?_ ?_ hM
  · have hk2:ElO E w' hs xs fps:=h2'.keep fun k hk=>hM.block k (fun hkb=>n3 k (mem_blks.2 hkb) k hk rfl) (hfl k hk);exact hk2.app (g2.keep fun k hk=>hM.block k (fun hkb=>hdj k (List.mem_append_right _ hk) (List.mem_append_left _ (mem_blks.2 hkb))) (hgl k hk))
  · rw [e1];refine List.nodup_append.2 ⟨?_,List.nodup_append.2 ⟨n2',m2,fun p hp q hq e=>hdj q (List.mem_append_right _ hq) (e▸List.mem_append_right _ hp)⟩,fun p hp q hq e=>?_⟩
    · cases a' with
      | none=>simp [blks]
      | some y=>simp [blks]
    · subst e;rcases hin p hp with hpa | rfl
      · rcases List.mem_append.1 hq with hq | hq
        · exact n3 p hpa p hq rfl
        · exact hdj p (List.mem_append_right _ hq) (List.mem_append_left _ hpa)
      · rcases List.mem_append.1 hq with hq | hq
        · have:=hfl _ hq;omega
        · have:=hgl _ hq;omega
  · intro k hk;rw [e1] at hk;rcases List.mem_append.1 hk with hk | hk
    · rcases hin k hk with hk | hk
      · exact .inl (List.mem_append_left _ hk)
      · exact .inr (.inr hk)
    · rcases List.mem_append.1 hk with hk | hk
      · exact .inl (List.mem_append_right _ hk)
      · exact .inr (.inl (List.mem_append_right _ hk))
end Go.Vc
namespace Go.M
open Go Go.Vc
theorem split64 {p:Nat→Prop} (key:∀ a b:Fin 64,p (a.val * 64+b.val)) {n:Nat} (hn:n<4096):p n:=by
  have h:=key ⟨n / 64,by omega⟩ ⟨n % 64,by omega⟩;have e:n / 64 * 64+n % 64=n:=by omega
  dsimp only at h;rw [e] at h;exact h
theorem and1 {m:Int} (h0:0≤m) (h1:m≤4095):andV .i64 m 1=m % 2:=by
  obtain ⟨n,rfl⟩:∃ n:Nat,m=n:=⟨m.toNat,by omega⟩;exact split64 (p:=fun n=>andV .i64 (n:Int) 1=(n:Int) % 2) (by decide +kernel) (by omega)
theorem and1b {m:Int} (h0:0≤m) (h1:m≤4095):andV .i64 m 1=if bitAt m 0=true then 1 else 0:=by
  obtain ⟨n,rfl⟩:∃ n:Nat,m=n:=⟨m.toNat,by omega⟩;exact split64 (p:=fun n=>andV .i64 (n:Int) 1=if bitAt (n:Int) 0=true then 1 else 0) (by decide +kernel) (by omega)
theorem and2b {m:Int} (h0:0≤m) (h1:m≤4095):andV .i64 m 2=if bitAt m 1=true then 2 else 0:=by
  obtain ⟨n,rfl⟩:∃ n:Nat,m=n:=⟨m.toNat,by omega⟩;exact split64 (p:=fun n=>andV .i64 (n:Int) 2=if bitAt (n:Int) 1=true then 2 else 0) (by decide +kernel) (by omega)
theorem and4b {m:Int} (h0:0≤m) (h1:m≤4095):andV .i64 m 4=if bitAt m 2=true then 4 else 0:=by
  obtain ⟨n,rfl⟩:∃ n:Nat,m=n:=⟨m.toNat,by omega⟩;exact split64 (p:=fun n=>andV .i64 (n:Int) 4=if bitAt (n:Int) 2=true then 4 else 0) (by decide +kernel) (by omega)
theorem fdiv_pow {m:Int} (k:Nat):m.fdiv (2 ^ k)=m / 2 ^ k:=Int.fdiv_eq_ediv_of_nonneg _ (by have:(0:Int)<2 ^ k:=Int.pow_pos (by decide);omega)
theorem shr3 {m:Int}:m.fdiv (2 ^ min (3:Int).toNat IntKind.i64.bits)=m / 8:=by
  have e:min (3:Int).toNat IntKind.i64.bits=3:=by decide
  rw [e,fdiv_pow];rfl
theorem div_b {m:Int} (h0:0≤m) (h1:m≤4095) (k:Nat):0≤m / 2 ^ k∧m / 2 ^ k≤4095:=by
  have hp:(0:Int)<2 ^ k:=Int.pow_pos (by decide);refine ⟨Int.ediv_nonneg h0 (by omega),Int.le_trans (Int.ediv_le_self _ h0) h1⟩
theorem dig_shr {m:Int} {k:Nat} (hk:k≤8):(m / 8).fdiv (2 ^ min ((k:Int)).toNat IntKind.i64.bits)=m / 2 ^ (k+3):=by
  have e:min ((k:Int)).toNat IntKind.i64.bits=k:=by
    have:IntKind.i64.bits=64:=rfl;rw [this,Int.toNat_natCast];omega
  rw [e,fdiv_pow,Int.ediv_ediv_of_nonneg (by decide),Int.pow_add,Int.mul_comm];rfl
theorem dig_and {m:Int} (h0:0≤m) (h1:m≤4095) (k:Nat):andV .i64 (m / 2 ^ (k+3)) 1=m / 2 ^ (k+3) % 2:=and1 (div_b h0 h1 _).1 (div_b h0 h1 _).2
theorem gather_len (mode:Int):(gatherM mode).length≤11:=by unfold gatherM;split<;>decide
theorem gather_nodup (mode:Int):(gatherM mode).Nodup:=by unfold gatherM;split<;>decide
theorem gather_b (mode:Int):∀ k∈gatherM mode,0≤k∧k≤12:=by unfold gatherM;split<;>decide
theorem gather_sum (g:List Int→Int) (c:List Int) (d:List (List Int)):∀ L:List Int,L.Nodup→(L.map fun k=>((c :: d).filter fun c=>decide (g c=k)).length).sum≤(L.map fun k=>(d.filter fun c=>decide (g c=k)).length).sum+(if g c∈L then 1 else 0)
  | [],_=>by simp
  | k :: L,h=>by
    rw [List.nodup_cons] at h;have ih:=gather_sum g c d L h.2;simp only [List.map_cons,List.sum_cons];by_cases hk:g c=k
    · have h2:¬ g c∈L:=by rw [hk];exact h.1
      rw [if_neg h2] at ih;rw [if_pos (by rw [hk];simp)];rw [List.filter_cons_of_pos (by simp [hk]),List.length_cons];omega
    · rw [List.filter_cons_of_neg (by simp [hk])];have e:(if g c∈k :: L then 1 else 0)=(if g c∈L then 1 else 0:Nat):=by
        by_cases h3:g c∈L
        · rw [if_pos h3,if_pos (List.mem_cons_of_mem _ h3)]
        · rw [if_neg h3,if_neg (by simp [hk,h3])]
      omega
theorem gather_total (g:List Int→Int) {L:List Int} (h:L.Nodup):∀ d:List (List Int),(L.map fun k=>(d.filter fun c=>decide (g c=k)).length).sum≤d.length
  | []=>by
    have:∀ L:List Int,(L.map fun _=>0).sum=0:=by
      intro L;induction L with
      | nil=>rfl
      | cons k L ih=>simpa using ih
    simp [this]
  | c :: d=>by
    have h1:=gather_sum g c d L h;have h2:=gather_total g h d;rw [List.length_cons];split at h1<;>omega
theorem pockets_at (d:List (List Int)) (p:TPass) {k:Int} (h0:0≤k) (h1:k≤12):(pocketsM d p).getD k.toNat []=d.filter (inPock p k):=by
  unfold pocketsM;have hk:k.toNat<13:=by omega
  rw [List.getD_eq_getElem?_getD,List.getElem?_map,List.getElem?_range hk];simp only [Option.map_some,Option.getD_some];rw [show ((k.toNat:Nat):Int)=k by omega]
theorem pass_eq (d:List (List Int)) (p:TPass):passM d p=(gatherM p.mode).flatMap fun k=>d.filter (inPock p k):=by
  unfold passM;have:∀ L:List Int,(∀ k∈L,0≤k∧k≤12)→(L.flatMap fun k=>(pocketsM d p).getD k.toNat [])=L.flatMap fun k=>d.filter (inPock p k):=by
    intro L;induction L with
    | nil=>intro _;rfl
    | cons k L ih =>
      intro h;rw [List.flatMap_cons,List.flatMap_cons,ih fun x hx=>h x (List.mem_cons_of_mem _ hx),pockets_at d p (h k (by simp)).1 (h k (by simp)).2]
  exact this _ (gather_b _)
theorem pass_len (d:List (List Int)) (p:TPass):(passM d p).length≤d.length:=by
  rw [pass_eq,List.length_flatMap];exact gather_total (fun c=>pockM (c.getD p.col.toNat 0) p.mode) (gather_nodup _) d
theorem pass_mem {d:List (List Int)} {p:TPass} {c:List Int} (h:c∈passM d p):c∈d:=by
  rw [pass_eq,List.mem_flatMap] at h;obtain ⟨k,_,hc⟩:=h;exact (List.mem_filter.1 hc).1
theorem run_len:∀ (l:List TPass) (d:List (List Int)),(runPM d l).length≤d.length
  | [],_=>Nat.le_refl _
  | p :: l,d=>Nat.le_trans (run_len l (passM d p)) (pass_len d p)
theorem run_mem:∀ (l:List TPass) (d:List (List Int)) {c:List Int},c∈runPM d l→c∈d
  | [],_,_,h=>h
  | p :: l,d,_,h=>pass_mem (run_mem l (passM d p) h)
theorem run_take {d:List (List Int)} {l:List TPass} {k:Nat} {p:TPass} (h:l[k]? = some p):runPM d (l.take (k+1))=passM (runPM d (l.take k)) p:=by
  unfold runPM;rw [List.take_add_one,h,List.foldl_append];rfl
theorem gath_take {L:List Int} {Ps:List (List (List Int))} {k:Nat} {x:Int} (h:L[k]? = some x):((L.take (k+1)).flatMap fun k=>Ps.getD k.toNat [])=((L.take k).flatMap fun k=>Ps.getD k.toNat [])++Ps.getD x.toNat []:=by
  rw [List.take_add_one,h,List.flatMap_append];simp
theorem pockets_len (d:List (List Int)) (p:TPass):(pocketsM d p).length=13:=by simp [pocketsM]
theorem pockets_get (d:List (List Int)) (p:TPass) {k:Nat} (hk:k<13):(pocketsM d p)[k]? = some (d.filter (inPock p k)):=by
  unfold pocketsM;rw [List.getElem?_map,List.getElem?_range hk];rfl
theorem TPass.enc_len (x:TPass):(TPass.enc x).length=2:=rfl
end Go.M
namespace Go.Proofs.YthadkoinmohmlaaGreatDoor
open Go Go.RowKit Go.Vc Go.M
theorem impl_pocketOf {m mode:Int} (h0:0≤m) (h1:m≤4095) (w:World):Does Tryz.prog 269 [.int .i64 m,.int .i64 mode] w (fun v w'=>v = .int .i64 (pockM m mode)∧Ext w w'):=by
  have hB12:∀ u,Does Tryz.prog 315 [.int .i64 12] u (fun v w'=>v = .int .i64 1∧Ext u w'):=fun u=>by
    have:=impl_bitOf 12 u;rw [bitM_12 rfl] at this;exact this
  have hB11:∀ u,Does Tryz.prog 315 [.int .i64 11] u (fun v w'=>v = .int .i64 2∧Ext u w'):=fun u=>by
    have:=impl_bitOf 11 u;rw [bitM_11 rfl] at this;exact this
  have hB0:∀ u,Does Tryz.prog 315 [.int .i64 0] u (fun v w'=>v = .int .i64 4∧Ext u w'):=fun u=>by
    have:=impl_bitOf 0 u;rw [show bitM 0=4 from rfl] at this;exact this
  by_cases hm:mode=1
  · have hp:pockM m mode=(match topF 9 m with | some d=>(d:Int) | none=>if m=4 then 0 else 12):=by
      unfold pockM;rw [if_pos hm];cases topF 9 m<;>rfl
    rw [hp];refine oV Tryz.func269 ?_;refine SemK.shrTo (m / 8) (by omega) shr3 ?_;refine IfB.yes (by omega) ?_;refine lR [0,5,6] (fun (k:Nat) vs w'=>vs=[.int .i64 m,.int .i64 (m / 8),.int .i64 (9 - (k:Int))]∧k≤9∧topF 9 m=topF (9 - k) m∧w'=w) (fun k=>9 - k) 0 ⟨rfl,by omega,rfl,rfl⟩ ?_;rintro k g _ w' ⟨rfl,hk,ht,rfl⟩;rcases Nat.lt_or_ge k 9 with hk9 | hk9
    · have htop:topF (9 - k) m=if bitAt m (8 - k+3)=true then some (9 - k) else topF (8 - k) m:=by
        rw [show 9 - k=(8 - k)+1 by omega];rfl
      have ha:=dig_and h0 h1 (8 - k);have hbt:bitAt m (8 - k+3)=decide (m / 2 ^ (8 - k+3) % 2=1):=rfl;generalize hq:m / 2 ^ (8 - k+3)=q at *;refine IfB.yes (by omega) ?_;refine SemK.sub (((8 - k:Nat):Int)) (by omega) (by omega) (by omega) ?_;refine SemK.shrTo q (by omega) (by rw [dig_shr (by omega)];exact hq) ?_;refine SemK.andTo (q % 2) ha ?_;by_cases hb:q % 2=1
      · refine IfB.yes (by omega) ?_;(conv=>whnf);rw [decide_eq_true hb] at hbt;rw [if_pos hbt] at htop;rw [ht,htop];exact ⟨congrArg (Value.int .i64) (by simp only;omega),Ext.refl _⟩
      · refine IfB.no (by omega) ?_;refine SemK.sub (9 - ((k+1:Nat):Int)) (by omega) (by omega) (by omega) ?_;(conv=>whnf);rw [decide_eq_false hb] at hbt;rw [if_neg (by simp [hbt])] at htop;exact ⟨k+1,by omega,rfl,by omega,by rw [ht,htop,show 9 - (k+1)=8 - k by omega],rfl⟩
    · obtain rfl:k=9:=by omega
      have ht0:topF 9 m=none:=ht;rw [ht0];by_cases h4:m=4
      · refine (hB0 _).mono ?_;rintro _ w14 ⟨rfl,e13⟩;refine IfB.yes (by omega) ?_;exact ⟨by simp [*],e13⟩
      · refine (hB0 _).mono ?_;rintro _ w14 ⟨rfl,e13⟩;refine IfB.no (by omega) ?_;exact ⟨by simp [*],e13⟩
  · have hp:pockM m mode=(if bitAt m 0=true then 11 else if bitAt m 1=true then 10 else if bitAt m 2=true∧¬ m / 8=0 then 0 else if ¬ m=0 then 1 else 12):=by
      unfold pockM;rw [if_neg hm]
    rw [hp];have ha1:=and1b h0 h1;have ha2:=and2b h0 h1;have ha4:=and4b h0 h1;have h8:=shr3 (m:=m);cases b0:bitAt m 0
    · cases b1:bitAt m 1
      · cases b2:bitAt m 2
        · simp only [b0,b1,b2,if_true,if_false,Bool.false_eq_true,false_and,true_and] at ha1 ha2 ha4 ⊢;by_cases hm0:m=0
          · rw [if_neg (by omega)];refine oV Tryz.func269 ?_;refine SemK.shrTo (m / 8) (by omega) shr3 ?_;refine IfB.no (by omega) ?_;refine (hB12 _).mono ?_;rintro _ w14 ⟨rfl,e13⟩;refine SemK.and ?_;(conv=>whnf);with_reducible refine IfB.ndec (fun h15=>?_) (fun h15=>?_)
            · exact ⟨by omega,e13⟩
            · refine (hB11 _).mono ?_;rintro _ w17 ⟨rfl,e16⟩;refine SemK.and ?_;(conv=>whnf);with_reducible refine IfB.ndec (fun h18=>?_) (fun h18=>?_)
              · exact ⟨by omega,(xt e13 e16)⟩
              · refine (hB0 _).mono ?_;rintro _ w20 ⟨rfl,e19⟩;refine SemK.and ?_;(conv=>whnf);with_reducible refine IfB.ndec (fun h21=>?_) (fun h21=>?_)
                · refine IfB.eqf (by simp [*];done) ?_;refine IfB.eqf (by simp [*];done) ?_;exact ⟨rfl,(xt (xt e13 e16) e19)⟩
                · refine IfB.eqf (by simp [*];done) ?_;exact ⟨rfl,(xt (xt e13 e16) e19)⟩
          · rw [if_pos (by omega)];refine oV Tryz.func269 ?_;refine SemK.shrTo (m / 8) (by omega) shr3 ?_;refine IfB.no (by omega) ?_;refine (hB12 _).mono ?_;rintro _ w14 ⟨rfl,e13⟩;refine SemK.and ?_;refine IfB.eqf (by simp [*];done) ?_;refine (hB11 _).mono ?_;rintro _ w16 ⟨rfl,e15⟩;refine SemK.and ?_;refine IfB.eqf (by simp [*];done) ?_;refine (hB0 _).mono ?_;rintro _ w18 ⟨rfl,e17⟩;refine SemK.and ?_;refine IfB.eqf (by simp [*];done) ?_;refine IfB.eqt (by simp [*];done) ?_;exact ⟨rfl,(xt (xt e13 e15) e17)⟩
        · simp only [b0,b1,b2,if_true,if_false,Bool.false_eq_true,false_and,true_and] at ha1 ha2 ha4 ⊢;have hm0:¬ m=0:=fun e=>by rw [e] at b2;revert b2;decide
          by_cases hm8:m / 8=0
          · rw [if_neg (by omega),if_pos (by omega)];refine oV Tryz.func269 ?_;refine SemK.shrTo (m / 8) (by omega) shr3 ?_;refine IfB.no (by omega) ?_;refine (hB12 _).mono ?_;rintro _ w14 ⟨rfl,e13⟩;refine SemK.and ?_;refine IfB.eqf (by simp [*];done) ?_;refine (hB11 _).mono ?_;rintro _ w16 ⟨rfl,e15⟩;refine SemK.and ?_;refine IfB.eqf (by simp [*];done) ?_;refine (hB0 _).mono ?_;rintro _ w18 ⟨rfl,e17⟩;refine SemK.and ?_;refine IfB.eqt (by simp [*];done) ?_;refine IfB.eqf (by simp [*];done) ?_;refine IfB.eqt (by simp [*];done) ?_;exact ⟨rfl,(xt (xt e13 e15) e17)⟩
          · rw [if_pos (by omega)];refine oV Tryz.func269 ?_;refine SemK.shrTo (m / 8) (by omega) shr3 ?_;refine IfB.no (by omega) ?_;refine (hB12 _).mono ?_;rintro _ w14 ⟨rfl,e13⟩;refine SemK.and ?_;refine IfB.eqf (by simp [*];done) ?_;refine (hB11 _).mono ?_;rintro _ w16 ⟨rfl,e15⟩;refine SemK.and ?_;refine IfB.eqf (by simp [*];done) ?_;refine (hB0 _).mono ?_;rintro _ w18 ⟨rfl,e17⟩;refine SemK.and ?_;refine IfB.eqt (by simp [*];done) ?_;refine IfB.eqt (by simp [*];done) ?_;exact ⟨rfl,(xt (xt e13 e15) e17)⟩
      · simp only [b0,b1,if_true,if_false,Bool.false_eq_true,false_and,true_and] at ha1 ha2 ⊢;refine oV Tryz.func269 ?_;refine SemK.shrTo (m / 8) (by omega) shr3 ?_;refine IfB.no (by omega) ?_;refine (hB12 _).mono ?_;rintro _ w14 ⟨rfl,e13⟩;refine SemK.and ?_;refine IfB.eqf (by simp [*];done) ?_;refine (hB11 _).mono ?_;rintro _ w16 ⟨rfl,e15⟩;refine SemK.and ?_;refine IfB.eqt (by simp [*];done) ?_;exact ⟨rfl,(xt e13 e15)⟩
    · simp only [b0,if_true] at ha1 ⊢;refine oV Tryz.func269 ?_;refine SemK.shrTo (m / 8) (by omega) shr3 ?_;refine IfB.no (by omega) ?_;refine (hB12 _).mono ?_;rintro _ w14 ⟨rfl,e13⟩;refine SemK.and ?_;refine IfB.eqt (by simp [*];done) ?_;exact ⟨rfl,e13⟩
theorem impl_sortPass {w:World} {a:Option Addr} {n c:Nat} {xs:List (List Int)} (h:ArrS RCard w a n xs) (hn2:n≤40) {p:TPass} (hx:∀ x∈xs,x.length≤20∧(∀ m∈x,0≤m∧m≤4095)∧0≤p.col∧p.col<x.length) :
    Does Tryz.prog 202 [.slice a n c,.agg ⟨p.enc⟩] w (fun v w'=>∃ a' c',v = .slice a' 13 c'∧ArrS RDeck w' a' 13 (pocketsM xs p)∧Ext w w'):=by
  have hn:=h.len;have hm:=h.le;obtain ⟨hs,hV,hE⟩:=h;have hl:=hV.len;have hpl:=pockets_len xs p;refine oV Tryz.func202 ?_;refine SemK.box ?_;intro b1 w1 g1 l1 e1 B1;refine bS mk_26 (vs:=[]) ?_;intro b2 w2 g2 l2 e2 B2;have z1:=e1.size;have z2:=e2.size;have G2:GrowS (OG OCard 131) w.heap.size 93 w2 (some ⟨b2,0,none⟩) 0 0 [] [b2]:=GrowS.new0 B2 (by omega);refine lR [0,3,5,11] (fun (k:Nat) vs w'=>∃ aT cT fp,vs=[.slice a n c,.pointer (some ⟨b1,0,none⟩),.slice aT k cT,.int .i64 k]∧k≤13∧GrowS (OG OCard 131) w.heap.size 93 w' aT k cT ((pocketsM xs p).take k) fp∧fp.Nodup∧(∀ j∈fp,w1.heap.size≤j)∧Ext w1 w') (fun k=>13 - k) 0 ⟨_,_,_,rfl,by omega,by simpa using G2,by simp,by simpa using g2,e2⟩ ?_;rintro k g _ w3 ⟨aT,cT,fp,rfl,hk,hG,hnd,hfp,hX⟩;have hXw:=xt e1 hX;rcases Nat.lt_or_ge k 13 with hk13 | hk13
  · refine IfB.yes (by omega) ?_;refine bS mk_93 (vs:=[]) ?_;intro b4 w4 g4 l4 e4 B4;have G4:GrowN OCard w3.heap.size 131 w4 (some ⟨b4,0,none⟩) 0 0 []:=GrowN.new0 B4 g4;refine lR [0,3,5,6,7,11,15,16,17] (fun (j:Nat) vs w'=>∃ m3 a3 c3,vs=[.slice a n c,.pointer (some ⟨b1,0,none⟩),.slice aT k cT,.int .i64 k,.slice a3 m3 c3,.int .i64 k,.slice a n c,.int .i64 n,.int .i64 j]∧j≤n∧m3≤j∧GrowN OCard w3.heap.size 131 w' a3 m3 c3 ((xs.take j).filter (inPock p k))∧Ext w3 w') (fun j=>n - j) 0 ⟨_,_,_,rfl,by omega,by omega,by simpa using G4,e4⟩ ?_;rintro j g _ w5 ⟨m3,a3,c3,rfl,hj,hmj,hG3,hY⟩;have hYw:=xt hXw hY;have hY1:=xt hX hY;rcases Nat.lt_or_ge j n with hjn | hjn
    · obtain ⟨d,hd⟩:=get_of_lt (l:=hs) (k:=j) (by omega);obtain ⟨y,hy,R⟩:=hE.get hd;have hyl:=R.1.len;have hyx:=hx y (List.mem_of_getElem? hy);obtain ⟨v,hv⟩:=get_of_lt (l:=y) (k:=p.col.toNat) (by omega);have hvb:=hyx.2.1 v (List.mem_of_getElem? hv);have hcol:p.col=(p.col.toNat:Int):=by omega
      have hpk:inPock p k y=decide (pockM v p.mode=k):=by
        unfold inPock;rw [List.getD_eq_getElem?_getD,hv];rfl
      have hPo:∀ u,Does Tryz.prog 269 [.int .i64 v,.int .i64 p.mode] u (fun v' w'=>v' = .int .i64 (pockM v p.mode)∧Ext u w'):=fun u=>impl_pocketOf hvb.1 hvb.2 u;have hN:∀ u,Ext w u→Does Tryz.prog 108 [.agg ⟨eH d⟩] u (fun v w'=>∃ a' c',v = .agg ⟨eH ⟨a',d.n,c'⟩⟩∧NewAt u.heap.size a'∧Grow eI 1 u.heap.size 2 w' a' d.n c' y∧Ext u w'):=fun u e=>impl_newCard ⟨R.1.ext e,R.2⟩ (by omega);have hRH:=R.1;have hRn:=R.2;have hft:(xs.take (j+1)).filter (inPock p k)=(xs.take j).filter (inPock p k)++(if inPock p k y=true then [y] else []):=by
        rw [List.take_add_one,hy,List.filter_append];by_cases hq:inPock p k y=true
        · simp [hq]
        · simp [hq]
      by_cases hpv:pockM v p.mode=k
      · rw [hpk,decide_eq_true hpv,if_pos rfl] at hft;refine IfB.yes (by omega) ?_;refine jI (hV.ext hYw) j rfl hd ?_;intro b15 o15 ha15 hb15;refine jA (n:=1) hb15 rfl ?_;refine jN (z := .agg #[.slice none 0 0]) ?_;intro b16 w16 g16 l16 e16 B16;refine jS (vs:=[Value.slice d.a d.n d.c]) B16 rfl rfl (by simp [cellish]) ?_;intro w17 c17 B17;refine dH [(0,false),(1,false),(2,false),(3,false),(4,false),(5,false),(6,false),(7,false),(9,false),(8,true),(10,true)] ?_;intro w18 e18;refine dL B17.cells (k:=0) rfl ?_;refine dL (B1.ext (xb (xt hY1 e16) c17.but (Nat.le_trans (Below.size hY1) g16))).cells (k:=0) rfl ?_;refine dI (hRH.ext (xb (xt hYw e16) c17.but (Nat.le_trans (Below.size hYw) g16))) (p.col).toNat (by omega) hv ?_;intro b20 o20 ha20 hb20;refine dO hb20 rfl ?_;refine dL (B1.ext (xb (xt hY1 e16) c17.but (Nat.le_trans (Below.size hY1) g16))).cells (k:=1) rfl ?_;refine (hPo _).mono ?_;rintro _ w22 ⟨rfl,e21⟩;refine ⟨(xt e18 e21),?_⟩;refine IfB.yes (by omega) ?_;refine jA (n:=1) (B17.ext (xt e18 e21)).cells rfl ?_;refine (hN _ (xt (xt (xb (xt hYw e16) c17.but (Nat.le_trans (Below.size hYw) g16)) e18) e21)).mono ?_;rintro _ w29 ⟨a'24,c'25,rfl,N26,G27,e28⟩;refine SemK.buildSlice mk_93 (vs:=[Value.agg ⟨eH ⟨a'24,d.n,c'25⟩⟩]) (by rfl) (by rfl) (by simp [Value.cells,eH]) (by decide) ?_;intro b51 w51 g51 l51 e51 B51;have C51:Cells w51 b51 0 (eH ⟨a'24,d.n,c'25⟩):=B51.cells;have E51:Ext w5 w51:=xt (xt (xt (xt (xb e16 c17.but g16) e18) e21) e28) e51;have z22:=Below.size (xt (xt (xb e16 c17.but g16) e18) e21);refine SemK.appendN mk_93 rfl hG3 hY.size E51 (OA.of ((G27.ext e51).own) G27.le.1) (InIv.blks (N26.mono z22) (fun x hx=>Nat.lt_of_lt_of_le (G27.blk_lt x hx).2 e51.size)) C51 (by omega) (by omega) ?_;intro a52 c52 w52 G52 m52 i52;refine SemK.add (((j+1:Nat):Int)) (by omega) (by omega) (by omega) ?_;exact ⟨j+1,by omega,_,_,_,rfl,by omega,by omega,by rw [hft];exact G52,xm (xt hY E51) m52 (blkIn_new (GrowN.new hG3))⟩
      · rw [hpk,decide_eq_false hpv,if_neg (by simp),List.append_nil] at hft;refine IfB.yes (by omega) ?_;refine jI (hV.ext hYw) j rfl hd ?_;intro b15 o15 ha15 hb15;refine jA (n:=1) hb15 rfl ?_;refine jN (z := .agg #[.slice none 0 0]) ?_;intro b16 w16 g16 l16 e16 B16;refine jS (vs:=[Value.slice d.a d.n d.c]) B16 rfl rfl (by simp [cellish]) ?_;intro w17 c17 B17;refine dH [(0,false),(1,false),(2,false),(3,false),(4,false),(5,false),(6,false),(7,false),(9,false),(8,true),(10,true)] ?_;intro w18 e18;refine dL B17.cells (k:=0) rfl ?_;refine dL (B1.ext (xb (xt hY1 e16) c17.but (Nat.le_trans (Below.size hY1) g16))).cells (k:=0) rfl ?_;refine dI (hRH.ext (xb (xt hYw e16) c17.but (Nat.le_trans (Below.size hYw) g16))) (p.col).toNat (by omega) hv ?_;intro b20 o20 ha20 hb20;refine dO hb20 rfl ?_;refine dL (B1.ext (xb (xt hY1 e16) c17.but (Nat.le_trans (Below.size hY1) g16))).cells (k:=1) rfl ?_;refine (hPo _).mono ?_;rintro _ w22 ⟨rfl,e21⟩;refine ⟨(xt e18 e21),?_⟩;refine IfB.no (by omega) ?_;refine SemK.add (((j+1:Nat):Int)) (by omega) (by omega) (by omega) ?_;have E22:Ext w5 w22:=xt (xt (xb e16 c17.but g16) e18) e21;exact ⟨j+1,by omega,_,_,_,rfl,by omega,by omega,by rw [hft];exact hG3.ext E22,xt hY E22⟩
    · obtain rfl:j=n:=by omega
      rw [List.take_of_length_le (by omega)] at hG3;have hpg:=pockets_get xs p hk13;refine IfB.no (by omega) ?_;refine bS mk_26 (vs:=[Value.slice a3 m3 c3]) ?_;intro b14 w14 g14 l14 e14 B14;obtain ⟨f,hGf,hIf⟩:=GrowN.toS hG3;have hlt:=hG.lt;have zY:=hY.size;have zX:=hX.size;have z14:=e14.size;refine SemK.appendF mk_26 rfl (hG.ext (xt hY e14)) hnd (by omega) (d:=⟨a3,m3,c3⟩) (x:=xs.filter (inPock p k)) (f:=f) ⟨_,hGf.ext e14⟩ hIf.1 (fun j hj hf=>by have:=(hIf.2 j hj).1;have:=hlt j hf;omega) B14.cells (by omega) (by omega) ?_;intro a9 c9 w10 fp' G9 nd9 sub9 M9;refine SemK.add (((k+1:Nat):Int)) (by omega) (by omega) (by omega) ?_;exact ⟨k+1,by omega,a9,c9,fp',rfl,by omega,by rw [List.take_add_one,hpg];exact G9,nd9,fun j hj=>by
        rcases sub9 j hj with h1 | h1 | h1
        · exact hfp j h1
        · have:=(hIf.2 j h1).1;omega
        · omega,xm (xt (xt hX hY) e14) M9 fun j hj=>hfp j (hG.blk j hj)⟩
  · obtain rfl:k=13:=by omega
    rw [List.take_of_length_le (by omega)] at hG;exact ⟨_,_,rfl,hG.own.arr,hXw⟩
theorem impl_gatherOrder (mode:Int) (w:World):Does Tryz.prog 268 [.int .i64 mode] w (fun v w'=>∃ a n c,v = .slice a n c∧Arr eI 1 w' a n (gatherM mode)∧(∀ x,a=some x→w.heap.size≤x.block∧x.block<w'.heap.size)∧Ext w w'):=by
  unfold gatherM;refine oV Tryz.func268 ?_;conv=>whnf
  by_cases hm:mode=2
  · rw [if_pos hm];refine IfB.yes (by omega) ?_;refine bS mk_62 (vs:=[Value.int IntKind.i64 12,Value.int IntKind.i64 11,Value.int IntKind.i64 10,Value.int IntKind.i64 0,Value.int IntKind.i64 1]) ?_;intro b2 w2 g2 l2 e2 B2;have G2:=Grow.of_blk (n:=5) (enc:=eI) (xs:=[12,11,10,0,1]) eI_len B2 g2 rfl (by decide);exact ⟨_,_,_,rfl,G2.own.arr eI_len,fun x hx=>by cases hx;exact ⟨g2,l2⟩,e2⟩
  · rw [if_neg hm];refine IfB.no (by omega) ?_;refine bS mk_62 (vs:=[Value.int IntKind.i64 12,Value.int IntKind.i64 0,Value.int IntKind.i64 1,Value.int IntKind.i64 2,Value.int IntKind.i64 3,Value.int IntKind.i64 4,Value.int IntKind.i64 5,Value.int IntKind.i64 6,Value.int IntKind.i64 7,Value.int IntKind.i64 8,Value.int IntKind.i64 9]) ?_;intro b3 w3 g3 l3 e3 B3;have G3:=Grow.of_blk (n:=11) (enc:=eI) (xs:=[12,0,1,2,3,4,5,6,7,8,9]) eI_len B3 g3 rfl (by decide);exact ⟨_,_,_,rfl,G3.own.arr eI_len,fun x hx=>by cases hx;exact ⟨g3,l3⟩,e3⟩
theorem impl_gathered {w:World} {a:Option Addr} {c:Nat} {Ps:List (List (List Int))} (h:ArrS RDeck w a 13 Ps) {mode:Int} (hx:∀ d∈Ps,d.length≤40∧∀ x∈d,x.length≤20) :
    Does Tryz.prog 201 [.slice a 13 c,.int .i64 mode] w (fun v w'=>∃ a' m c',v = .slice a' m c'∧m≤c'∧ArrS RCard w' a' m ((gatherM mode).flatMap fun k=>Ps.getD k.toNat [])∧Ext w w'):=by
  have hn:=h.len;obtain ⟨hs,hV,hE⟩:=h;have hl:=hV.len;have hgl:=gather_len mode;have hgb:=gather_b mode;have hO:∀ u,Does Tryz.prog 268 [.int .i64 mode] u (fun v w'=>∃ a n c,v = .slice a n c∧Arr eI 1 w' a n (gatherM mode)∧(∀ x,a=some x→u.heap.size≤x.block∧x.block<w'.heap.size)∧Ext u w'):=fun u=>impl_gatherOrder mode u;refine oV Tryz.func201 ?_;refine bS mk_93 (vs:=[]) ?_;intro b2 w2 g2 l2 e2 B2;have G2:GrowS OCard w.heap.size 131 w2 (some ⟨b2,0,none⟩) 0 0 [] [b2]:=GrowS.new0 B2 g2;refine (hO _).mono ?_;rintro _ w3 ⟨ao,no,co,rfl,AO,aoL,e3⟩;have hno:=AO.len;refine lR [0,5,10,11,12] (fun (k:Nat) vs w'=>∃ a3 m3 c3 fp,vs=[.slice a 13 c,.slice a3 m3 c3,.slice ao no co,.int .i64 no,.int .i64 k]∧k≤no∧m3≤40 * k∧GrowS OCard w.heap.size 131 w' a3 m3 c3 (((gatherM mode).take k).flatMap fun k=>Ps.getD k.toNat []) fp∧fp.Nodup∧(∀ j∈fp,w.heap.size≤j∧(j<w2.heap.size∨w3.heap.size≤j))∧Ext w w'∧w3.heap.size≤w'.heap.size∧Arr eI 1 w' ao no (gatherM mode)) (fun k=>no - k) 0 ⟨_,_,_,_,rfl,by omega,by omega,by simpa using G2.ext e3,by simp,by simpa using ⟨g2,.inl l2⟩,xt e2 e3,Nat.le_refl _,AO⟩ ?_;have z2:=e2.size;have z3:=e3.size;rintro k g _ w4 ⟨a3,m3,c3,fp,rfl,hk,hm3,hG,hnd,hfp,hX,hX3,AO4⟩;rcases Nat.lt_or_ge k no with hkn | hkn
  · obtain ⟨v,hv⟩:=get_of_lt (l:=gatherM mode) (k:=k) (by omega);have hvb:=hgb v (List.mem_of_getElem? hv);obtain ⟨q,hq⟩:=get_of_lt (l:=hs) (k:=v.toNat) (by omega);obtain ⟨y,hy,R⟩:=hE.get hq;have hyl:=R.1.len;have hyx:=hx y (List.mem_of_getElem? hy);have hnt:=gath_take (Ps:=Ps) hv;rw [List.getD_eq_getElem?_getD (l:=Ps) (i:=v.toNat),hy,Option.getD_some] at hnt;have hN:∀ u,Ext w u→Does Tryz.prog 55 [.slice q.a q.n q.c] u (fun v w'=>∃ a' c',v = .slice a' q.n c'∧q.n≤c'∧GrowN OCard u.heap.size 131 w' a' q.n c' y∧NewAt u.heap.size a'∧Ext u w'):=fun u e=>impl_newDeck (R.1.ext e) (by omega) (fun x hx'=>by have:=hyx.2 x hx';omega);refine IfB.yes (by omega) ?_;refine jI AO4 k rfl hv ?_;intro b6 o6 ha6 hb6;refine jO hb6 rfl ?_;refine jI (hV.ext hX) v.toNat (by omega) hq ?_;intro b8 o8 ha8 hb8;refine jO hb8 rfl ?_;refine (hN _ hX).mono ?_;rintro _ w15 ⟨a'9,c'10,rfl,q11,q12,N13,e14⟩;obtain ⟨gp,hGg,hIg⟩:=GrowN.toS q12;have hlt:=hG.lt;have z14:=e14.size;have zX:=hX.size;refine SemK.appendS mk_93 rfl (hG.ext e14) hnd (by omega) hGg hIg.1 (fun j hj hf=>by have:=(hIg.2 j hj).1;have:=hlt j hf;omega) (by omega) (by omega) ?_;intro a' c' w16 fp' G16 nd16 sub16 M16;have z16:=M16.size;refine SemK.add (((k+1:Nat):Int)) (by omega) (by omega) (by omega) ?_;exact ⟨k+1,by omega,a',m3+q.n,c',fp',rfl,by omega,by omega,by rw [hnt];exact G16,nd16,fun j hj=>by
      rcases sub16 j hj with h1 | h1 | h1
      · exact hfp j h1
      · have:=(hIg.2 j h1).1;omega
      · omega,xm (xt hX e14) M16 (fun j hj=>(hfp j (hG.blk j hj)).1),by omega,(AO4.ext e14).mod M16 fun x hx hb=>by
      have h1:=aoL x hx;have h2:=(hfp _ (hG.blk _ hb)).2;omega⟩
  · obtain rfl:k=no:=by omega
    rw [List.take_of_length_le (by omega)] at hG;refine IfB.no (by omega) ?_;exact ⟨_,_,_,rfl,hG.le.1,hG.own.arr,hX⟩
theorem impl_runPasses {w:World} {a b:Option Addr} {n c m d:Nat} {xs:List (List Int)} (h:ArrS RCard w a n xs) (hn2:n≤40) {l:List TPass} (hl:Arr TPass.enc 2 w b m l) (hm2:m≤40) (hx:∀ x∈xs,x.length≤20∧(∀ m∈x,0≤m∧m≤4095)∧∀ p∈l,0≤p.col∧p.col<x.length) :
    Does Tryz.prog 129 [.slice a n c,.slice b m d] w (fun v w'=>∃ a' m' c',v = .slice a' m' c'∧ArrS RCard w' a' m' (runPM xs l)∧Ext w w'):=by
  have hn:=h.len;have hml:=hl.len;have hN:∀ u,Ext w u→Does Tryz.prog 55 [.slice a n c] u (fun v w'=>∃ a' c',v = .slice a' n c'∧n≤c'∧GrowN OCard u.heap.size 131 w' a' n c' xs∧NewAt u.heap.size a'∧Ext u w'):=fun u e=>impl_newDeck (h.ext e) (by omega) (fun x hx'=>by have:=(hx x hx').1;omega);refine oV Tryz.func129 ?_;refine (hN _ (Ext.refl _)).mono ?_;rintro _ w2 ⟨a2,c2,rfl,hc2,G2,N2,e2⟩;have hA2:ArrS RCard w2 a2 n xs:=G2.ownN.arr;refine lR [5,10,11,12] (fun (k:Nat) vs w'=>∃ a3 m3 c3,vs=[.slice a3 m3 c3,.slice b m d,.int .i64 m,.int .i64 k]∧k≤m∧m3≤c3∧ArrS RCard w' a3 m3 (runPM xs (l.take k))∧Ext w w') (fun k=>m - k) 0 ⟨_,_,_,rfl,by omega,hc2,by simpa [runPM] using hA2,e2⟩ ?_;rintro k g _ w3 ⟨a3,m3,c3,rfl,hk,hmc,hA3,hX⟩;rcases Nat.lt_or_ge k m with hkm | hkm
  · obtain ⟨p,hp⟩:=get_of_lt (l:=l) (k:=k) (by omega);have hpm:=List.mem_of_getElem? hp;have hrt:=run_take (d:=xs) hp;have hrl:=run_len (l.take k) xs;have hm3:=hA3.len;generalize hD:runPM xs (l.take k)=D at *;have hDx:∀ x∈D,x.length≤20∧(∀ m∈x,0≤m∧m≤4095)∧0≤p.col∧p.col<x.length:=fun x hx'=>by
      rw [← hD] at hx';have:=hx x (run_mem _ _ hx');exact ⟨this.1,this.2.1,this.2.2 p hpm⟩
    have hS:∀ u,Ext w3 u→Does Tryz.prog 202 [.slice a3 m3 c3,.agg ⟨p.enc⟩] u (fun v w'=>∃ a' c',v = .slice a' 13 c'∧ArrS RDeck w' a' 13 (pocketsM D p)∧Ext u w'):=fun u e=>impl_sortPass (hA3.ext e) (by omega) hDx;have hPk:∀ d∈pocketsM D p,d.length≤40∧∀ x∈d,x.length≤20:=fun d hd=>by
      unfold pocketsM at hd;obtain ⟨i,_,rfl⟩:=List.mem_map.1 hd;exact ⟨by have:=List.length_filter_le (inPock p i) D;omega,fun x hx'=>(hDx x (List.mem_filter.1 hx').1).1⟩
    have hGa:∀ u a' c',ArrS RDeck u a' 13 (pocketsM D p)→Does Tryz.prog 201 [.slice a' 13 c',.int .i64 p.mode] u (fun v w'=>∃ a' m c',v = .slice a' m c'∧m≤c'∧ArrS RCard w' a' m (passM D p)∧Ext u w'):=fun u a' c' A=>impl_gathered A hPk;refine IfB.yes (by omega) ?_;refine jI (hl.ext hX) k rfl hp ?_;intro b5 o5 ha5 hb5;refine jA (n:=2) hb5 rfl ?_;refine jN (z := .agg #[.int .i64 0,.int .i64 0]) ?_;intro b6 w6 g6 l6 e6 B6;refine jS B6 (vs:=p.enc) rfl rfl (by simp [TPass.enc,cellish]) ?_;intro w7 c7 B7;refine dH [(0,false),(1,false),(3,false),(4,false),(2,true),(5,true),(6,true)] ?_;intro w8 e8;refine dA (n:=2) B7.cells rfl ?_;refine dL B7.cells (k:=1) rfl ?_;refine (hS _ (xt (xb e6 c7.but g6) e8)).mono ?_;rintro _ w13 ⟨a'9,c'10,rfl,A11,e12⟩;refine ⟨(xt e8 e12),?_⟩;refine (hGa _ _ _ A11).mono ?_;rintro _ w20 ⟨a'14,m15,c'16,rfl,q17,A18,e19⟩;refine ⟨(xt (xt e8 e12) e19),?_⟩;refine SemK.add (((k+1:Nat):Int)) (by omega) (by omega) (by omega) ?_;refine ⟨k+1,by omega,_,_,_,rfl,by omega,by omega,?_,(xt (xt (xt (xb (xt hX e6) c7.but (Nat.le_trans (Below.size hX) g6)) e8) e12) e19)⟩
    · rw [hrt];exact A18
  · obtain rfl:k=m:=by omega
    rw [List.take_of_length_le (by omega)] at hA3;refine IfB.no (by omega) ?_;exact ⟨_,_,_,rfl,hA3,hX⟩
end Go.Proofs.YthadkoinmohmlaaGreatDoor
