/- Ground of the plain law: what stands in for the seat seat's text of this letter. -/
import Derived.Test.YtanlhbmliegjeaaGreatC1
